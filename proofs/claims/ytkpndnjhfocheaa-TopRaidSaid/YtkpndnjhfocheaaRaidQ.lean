/- TopRaid's walk. -/
import Derived.Test.YtkpndnjhfocheaaRaidP
namespace Go.Proofs.Ytkpndnjhfocheaa
open Go.SL
variable {X : Inhabited SL.Outside}

theorem nth_of_mem' {L : Hp} {x : Nat × Obj} (h : x ∈ L) : ∃ i, nth L i = some x := by
  obtain ⟨i, hi, rfl⟩ := List.getElem_of_mem h
  exact ⟨i, by rw [nth_eq, List.getElem?_eq_getElem hi]⟩
def tv (a b c d : Int) : List Value := [.int .u8 a, .int .u8 b, .int .u8 c, .int .u8 d]
structure Tb (a b c d : Int) : Prop where
  a : 0 ≤ a ∧ a < 256
  b : 0 ≤ b ∧ b < 256
  c : 0 ≤ c ∧ c < 256
  d : 0 ≤ d ∧ d < 256
def Turns (L : Hp) (p : Option Addr) (len : Nat) : Prop := len = 0 ∨ ∃ b off cs T fz, p = some ⟨b, off, none⟩ ∧ (b, Obj.cells ⟨cs⟩ T fz) ∈ L ∧ ∀ j, j < len → ∃ x y z u : Int, (cs.drop (off + j * 4)).take 4 = tv x y z u ∧ Tb x y z u
/-- Who is out. -/
def OutR (R : RD) (o : Int) : Prop := (o = -1 ∧ ∀ m : Int, 0 ≤ m → m < R.n → R.f m = true) ∨ (0 ≤ o ∧ o < R.n ∧ R.f o = false)
theorem RD.rec_setf (R : RD) {o : Int} (h : 0 ≤ o ∧ o < 4) (c : Bool) : R.rec_.set (4 + o.toNat * 1) (.bool c) = ({ R with f := fun m => if m = o then c else R.f m } : RD).rec_ := by
  have : o = 0 ∨ o = 1 ∨ o = 2 ∨ o = 3 := by omega
  rcases this with rfl | rfl | rfl | rfl <;> rfl
theorem u8_byte {z : Int} (h : 0 ≤ z ∧ z < 256) : ∃ x : UInt8, z = ((x.toNat : Nat) : Int) := ⟨UInt8.ofNat z.toNat, by
  rw [UInt8.toNat_ofNat']
  omega⟩
theorem built5 (z : Int) : builtS Try.prog 5 1 [(0, .int .u8 z)] = some ⟨[.int .u8 z]⟩ := by kernel_rfl

theorem put_step (R : RD) (o : Int) (r : Nat) (g : Int → UInt8) : ({ R with D := fun m c => if m = o ∧ c < (r : Int) then g c else R.D m c } : RD).put o r (g r) = { R with D := fun m c => if m = o ∧ c < ((r + 1 : Nat) : Int) then g c else R.D m c } := by
  unfold RD.put
  refine congrArg (fun D => ({ R with D := D } : RD)) ?_
  funext a c
  show (if a = o ∧ c = (r : Int) then g r else if a = o ∧ c < (r : Int) then g c else R.D a c) = if a = o ∧ c < ((r + 1 : Nat) : Int) then g c else R.D a c
  by_cases ha : a = o
  · by_cases hc : c = (r : Int)
    · subst hc
      rw [if_pos ⟨ha, rfl⟩, if_pos ⟨ha, by omega⟩]
    · by_cases hl : c < (r : Int)
      · rw [if_neg (fun h => hc h.2), if_pos ⟨ha, hl⟩, if_pos ⟨ha, by omega⟩]
      · rw [if_neg (fun h => hc h.2), if_neg (fun h => hl h.2), if_neg (fun h => hl (by omega))]
  · rw [if_neg (fun h => ha h.1), if_neg (fun h => ha h.1), if_neg (fun h => ha h.1)]
theorem dks_zero (R : RD) (o : Int) (g : Int → UInt8) : ({ R with D := fun m c => if m = o ∧ c < ((0 : Nat) : Int) then g c else R.D m c } : RD).dks = R.dks := by
  unfold RD.dks
  refine List.map_congr_left fun m _ => ?_
  refine congrArg (fun z => (R.bk m, row 9 z)) ?_
  refine frow_congr fun q _ => ?_
  have : ¬ ((m : Int) = o ∧ (q : Int) < ((0 : Nat) : Int)) := fun h => by omega
  show S (rep (if (m : Int) = o ∧ (q : Int) < ((0 : Nat) : Int) then g q else R.D m q)) = _
  rw [if_neg this]

theorem hp_in3 (R : RD) (x y z : Nat × Obj) (F : Hp) : (R.hp (x :: y :: z :: F)).Perm (x :: y :: z :: R.hp F) :=
  (hp_in R _ _).trans (List.Perm.cons _ ((hp_in R _ _).trans (List.Perm.cons _ (hp_in R _ _))))
theorem wrap8 (z : Int) : 0 ≤ IntKind.u8.wrap z ∧ IntKind.u8.wrap z < 256 := by
  rw [m_u8]
  exact ⟨Int.emod_nonneg _ (by omega), Int.emod_lt_of_pos _ (by omega)⟩
/-- What was collected of a row, up to a sector. -/
structure Col (n : Nat) (sz r a j : Int) (ks : List Int) (gw P P' : Int → UInt8) : Prop where
  nodup : ks.Nodup
  src : ∀ q ∈ ks, ∃ i : Int, a ≤ i ∧ i < a + j ∧ atR n i = r ∧ q = atM n i
  has : ∀ i : Int, a ≤ i → i < a + j → atR n i = r → atM n i ∈ ks
  val : ∀ i : Int, 0 ≤ i → i < sz → P' i = if atR n i = r ∧ atM n i ∈ ks then gw (atM n i) else P i
theorem Col.new {lv rw : Int} {n : Nat} (hG : GOk lv n rw) {sz r a j : Int} {ks : List Int} {gw P P' : Int → UInt8} (h : Col n sz r a j ks gw P P') (ha : 0 ≤ a) (hj : 0 ≤ j) (hr : atR n (a + j) = r) : atM n (a + j) ∉ ks := fun hc => by
  obtain ⟨i, h1, h2, h3, h4⟩ := h.src _ hc
  have _ := ha
  have _ := hj
  have := at_inj hG (i := a + j) (j := i) (by rw [hr, h3]) h4
  omega
theorem Col.step {lv rw : Int} {n : Nat} (hG : GOk lv n rw) {sz r a j : Int} {ks : List Int} {gw P P' : Int → UInt8} (h : Col n sz r a j ks gw P P') (ha : 0 ≤ a) (hj : 0 ≤ j) (hr : atR n (a + j) = r) (x : UInt8) :
    Col n sz r a (j + 1) (ks ++ [atM n (a + j)]) (fun q => if q = atM n (a + j) then x else gw q) P (fun c => if c = a + j then x else P' c) := by
  have hnew := h.new hG ha hj hr
  refine ⟨List.nodup_append.2 ⟨h.nodup, by simp, fun q hq c hc => ?_⟩, fun q hq => ?_, fun i h1 h2 h3 => ?_, fun i h1 h2 => ?_⟩
  · simp only [List.mem_singleton] at hc
    rintro rfl
    exact hnew (hc ▸ hq)
  · rcases List.mem_append.1 hq with hq | hq
    · obtain ⟨i, h1, h2, h3, h4⟩ := h.src q hq
      exact ⟨i, h1, by omega, h3, h4⟩
    · simp only [List.mem_singleton] at hq
      exact ⟨a + j, by omega, by omega, hr, hq⟩
  · by_cases e : i = a + j
    · subst e; simp
    · exact List.mem_append_left _ (h.has i h1 (by omega) h3)
  · show (if i = a + j then x else P' i) = _
    by_cases e : i = a + j
    · subst e
      rw [if_pos rfl, if_pos ⟨hr, by simp⟩, if_pos rfl]
    · rw [if_neg e, h.val i h1 h2]
      by_cases h3 : atR n i = r
      · have hne : atM n i ≠ atM n (a + j) := fun hc => e (at_inj hG (by rw [h3, hr]) hc)
        by_cases hk : atM n i ∈ ks
        · rw [if_pos ⟨h3, hk⟩, if_pos ⟨h3, List.mem_append_left _ hk⟩, if_neg hne]
        · rw [if_neg (fun hc => hk hc.2), if_neg (fun hc => by
            rcases List.mem_append.1 hc.2 with h4 | h4
            · exact hk h4
            · exact hne (by simpa using h4))]
      · rw [if_neg (fun hc => h3 hc.1), if_neg (fun hc => h3 hc.1)]
theorem Col.skip {n : Nat} {sz r a j : Int} {ks : List Int} {gw P P' : Int → UInt8} (h : Col n sz r a j ks gw P P') (hr : ¬ atR n (a + j) = r) : Col n sz r a (j + 1) ks gw P P' :=
  ⟨h.nodup, fun q hq => by
    obtain ⟨i, h1, h2, h3, h4⟩ := h.src q hq
    exact ⟨i, h1, by omega, h3, h4⟩, fun i h1 h2 h3 => h.has i h1 (by
      by_cases e : i = a + j
      · subst e; exact absurd h3 hr
      · omega) h3, h.val⟩

set_option maxHeartbeats 4000000 in
theorem raid_spec (F : Hp) (kind : Int) (p : Option Addr) (ln cp : Nat) (hk : 0 ≤ kind ∧ kind < 256) (hT : Turns F p ln) :
    Ctr Try.prog 6 [.int .u8 kind, .slice p ln cp] F (fun v L' => v = .bool true ∧ L' = F) := by
  refine spec_body Try.func6 Try.ntmps6 rfl rfl ?_
  refine wc_seq ?_
  refine wc_region ?_
  refine wl_pu (y_assign rfl) rfl ?_
  refine wl_nil ?_
  refine at_then ?_
  refine wc_seq ?_
  refine wc_region ?_
  refine wl_pu (y_move rfl) rfl ?_
  -- at: op (call {callee:(value (func 39)), args:[t26], argTypes:[5]})
  refine wl_do (d_call (by kernel_rfl) rfl (noughts_spec F kind hk)) rfl ?_
  rintro _ _ ⟨R0, rfl, hR0, hall0, rfl⟩
  refine wl_pu (y_assign rfl) rfl ?_
  refine wl_nil ?_
  refine at_then ?_
  refine wc_seq ?_
  refine wc_region ?_
  refine wl_pu (y_assign rfl) rfl ?_
  refine wl_nil ?_
  refine at_then ?_
  refine wc_seq ?_
  refine wc_seq ?_
  refine wc_region ?_
  refine wl_pu (y_assign rfl) rfl ?_
  refine wl_nil ?_
  refine at_then ?_
  refine wc_block ?_
  -- at: loop
  refine wc_loop (σ := Nat × RD × (Int → Int → UInt8) × Int) (fun s => s.1 ≤ 16 ∧ RS s.2.1 s.2.2.1 ∧ OutR s.2.1 s.2.2.2) (fun s => 16 - s.1) (fun s => [(1, .slice p ln cp), (5, ptr s.2.1.bx 0), (6, int s.2.2.2), (7, int (s.1 : Int))])
    (fun s => s.2.1.hp F) (0, R0, fun _ _ => 0, -1) ⟨Nat.zero_le _, hR0, .inl ⟨rfl, hall0⟩⟩ ⟨rfl, rfl, rfl, rfl, trivial⟩ rfl ?_
  rintro ⟨k, R, V, out⟩ ⟨hk16, hR, hO⟩
  simp only [] at hk16 hR hO
  show WC _ _ _ _ [(1, .slice p ln cp), (5, ptr R.bx 0), (6, int out), (7, int (k : Int))] (R.hp F)
  have hG := hR.G
  have hn := hG.mem3
  have hlo := hG.lo
  have hhi := hG.hi
  have hsz := R.sz_eq hG
  have hsl := R.sz_le hG
  have hout : -1 ≤ out ∧ out < R.n := by
    rcases hO with ⟨h1, _⟩ | ⟨h1, h2, _⟩ <;> omega
  refine wc_seq ?_
  refine wc_seq ?_
  refine wc_region ?_
  refine wl_pu (y_move rfl) rfl ?_
  refine wl_pu (y_move rfl) rfl ?_
  refine wl_pu (y_lenL Try.underlying91 rfl) rfl ?_
  refine wl_pu (y_lss rfl rfl) rfl ?_
  refine wl_pu (y_move rfl) rfl ?_
  -- at: guard 4
  refine wl_splitD 32 rfl (fun h1 => ?_) (fun h1 => ?_)
  · skip
    refine wl_gon rfl rfl ?_
    refine wl_pu (y_move rfl) rfl ?_
    refine wl_gon rfl rfl ?_
    refine wl_pu (y_lss rfl rfl) rfl ?_
    first | refine wl_pu (y_pickT rfl rfl) rfl ?_ | refine wl_pu (y_pickF rfl rfl) rfl ?_
    refine wl_nil ?_
    refine at_then ?_
    -- at: cond
    refine wc_condD rfl (fun h2 => ?_) (fun h2 => ?_)
    · skip
      have hkl : k < ln := by omega
      obtain ⟨b0, off, cs, T0, fz0, hp, hmem, hcs⟩ : ∃ b off cs T fz, p = some ⟨b, off, none⟩ ∧ (b, Obj.cells ⟨cs⟩ T fz) ∈ F ∧ ∀ j, j < ln → ∃ x y z u : Int, (cs.drop (off + j * 4)).take 4 = tv x y z u ∧ Tb x y z u := by
        rcases hT with h0 | h0
        · omega
        · exact h0
      obtain ⟨ta, tb, tc, td, hcell, hb⟩ := hcs k hkl
      obtain ⟨q0, hq0⟩ := nth_of_mem' (show (b0, Obj.cells ⟨cs⟩ T0 fz0) ∈ R.hp F from by
        show _ ∈ _ :: _ :: _ :: (R.dks ++ F)
        simp [hmem])
      obtain ⟨hba, hbb, hbc, hbd⟩ := hb
      subst hp
      refine wc_skip ?_
      refine at_then ?_
      refine wc_seq ?_
      refine wc_block ?_
      refine wc_seq ?_
      refine wc_region ?_
      refine wl_pu (y_move rfl) rfl ?_
      refine wl_pu (y_move rfl) rfl ?_
      refine wl_pu (y_ix 4 Try.underlying91 (by kernel_rfl) rfl rfl (by omega)) rfl ?_
      refine wl_rd (y_loadAgg (k := 4) (vs := tv ta tb tc td) q0 rfl hq0 (by rw [Int.toNat_natCast]; exact hcell) rfl (by kernel_rfl) (by kernel_rfl)) rfl ?_
      refine wl_do (d_alloc (z := .agg #[.int .u8 0, .int .u8 0, .int .u8 0, .int .u8 0]) (zeroB_of (by kernel_rfl))) rfl ?_
      rintro _ _ ⟨bt, rfl, rfl⟩
      refine wl_do0 (d_storeAgg (k := 4) 0 rfl rfl rfl (by decide) rfl rfl (by kernel_rfl)) (fun _ _ hL => ?_)
      subst hL
      refine wl_heap ((bt, row 95 (tv ta tb tc td)) :: R.hp F) rfl ?_
      obtain ⟨x, rfl⟩ := u8_byte hbd
      refine wl_nil ?_
      refine at_then ?_
      refine wc_join (σ := RD × (Int → Int → UInt8) × Int) (fun s => RS s.1 s.2.1 ∧ OutR s.1 s.2.2) (fun s => [(1, .slice (some ⟨b0, off, none⟩) ln cp), (5, ptr s.1.bx 0), (6, int s.2.2), (7, int (k : Int))]) (fun s => s.1.hp F) ?_ ?_
      · skip
        refine wc_block ?_
        refine wc_join (σ := Unit) (fun _ => True) (fun _ => [(1, .slice (some ⟨b0, off, none⟩) ln cp), (5, ptr R.bx 0), (6, int out), (7, int (k : Int)), (8, ptr bt 0), (177, .bool (decide (ta % 4 = 2 ∧ out < 0)))]) (fun _ => (bt, row 95 (tv ta tb tc x.toNat)) :: R.hp F) ?_ ?_
        · skip
          refine wc_region ?_
          first | refine wl_pu (y_fieldAddr0 0 Try.underlying95 rfl rfl (by kernel_rfl) rfl) rfl ?_ | refine wl_pu (y_fieldAddr 0 Try.underlying95 rfl rfl (by kernel_rfl) rfl) rfl ?_
          first | refine wl_rd (y_load 0 rfl rfl rfl (by kernel_rfl)) rfl ?_ | refine wl_rd (y_load 1 rfl rfl rfl (by kernel_rfl)) rfl ?_ | refine wl_rd (y_load 2 rfl rfl rfl (by kernel_rfl)) rfl ?_ | refine wl_rd (y_load 3 rfl rfl rfl (by kernel_rfl)) rfl ?_ | refine wl_rd (y_load 4 rfl rfl rfl (by kernel_rfl)) rfl ?_ | refine wl_rd (y_load 5 rfl rfl rfl (by kernel_rfl)) rfl ?_
          refine wl_pu (y_rem rfl rfl (by omega)) rfl ?_
          refine wl_pu (y_eql rfl rfl) rfl ?_
          refine wl_pu (y_move rfl) rfl ?_
          -- at: guard 4
          refine wl_splitD 182 rfl (fun hc => ?_) (fun hc => ?_)
          · skip
            refine wl_gon rfl rfl ?_
            refine wl_pu (y_move rfl) rfl ?_
            refine wl_gon rfl rfl ?_
            refine wl_pu (y_lss rfl rfl) rfl ?_
            first | refine wl_pu (y_pickT rfl rfl) rfl ?_ | refine wl_pu (y_pickF rfl rfl) rfl ?_
            refine wl_pu (y_assign rfl) rfl ?_
            refine wl_nil ?_
            -- at: join
            exact at_join () trivial ⟨rfl, rfl, rfl, rfl, rfl, by show some _ = some _; simp [hc], trivial⟩ rfl
          · skip
            refine wl_goff rfl rfl rfl rfl ?_
            refine wl_goff rfl rfl rfl rfl ?_
            first | refine wl_pu (y_pickT rfl rfl) rfl ?_ | refine wl_pu (y_pickF rfl rfl) rfl ?_
            refine wl_pu (y_assign rfl) rfl ?_
            refine wl_nil ?_
            -- at: join
            exact at_join () trivial ⟨rfl, rfl, rfl, rfl, rfl, by show some _ = some _; simp [hc], trivial⟩ rfl
        · skip
          rintro _ _
          show WC _ _ _ _ [(1, .slice (some ⟨b0, off, none⟩) ln cp), (5, ptr R.bx 0), (6, int out), (7, int (k : Int)), (8, ptr bt 0), (177, .bool (decide (ta % 4 = 2 ∧ out < 0)))] ((bt, row 95 (tv ta tb tc x.toNat)) :: R.hp F)
          refine wc_condD rfl (fun hc1 => ?_) (fun hc1 => ?_)
          · skip
            have hall : ∀ m : Int, 0 ≤ m → m < R.n → R.f m = true := by
              rcases hO with ⟨_, h⟩ | ⟨h, _⟩
              · exact h
              · omega
            refine wc_seq ?_
            -- at: draw
            apply wc_draw 10 (pl := [_, _, _, _, _, _, _, _, _, _]) (by kernel_rfl)
            rotate_left
            first | refine hw_pu (y_fieldAddr0 1 Try.underlying95 rfl rfl (by kernel_rfl) rfl) ?_ | refine hw_pu (y_fieldAddr 1 Try.underlying95 rfl rfl (by kernel_rfl) rfl) ?_
            first | refine hw_rd (y_load 0 rfl rfl rfl (by kernel_rfl)) ?_ | refine hw_rd (y_load 1 rfl rfl rfl (by kernel_rfl)) ?_ | refine hw_rd (y_load 2 rfl rfl rfl (by kernel_rfl)) ?_ | refine hw_rd (y_load 3 rfl rfl rfl (by kernel_rfl)) ?_ | refine hw_rd (y_load 4 rfl rfl rfl (by kernel_rfl)) ?_ | refine hw_rd (y_load 5 rfl rfl rfl (by kernel_rfl)) ?_
            first | refine hw_pu (y_conv Try.underlying5 Try.underlying3 rfl (IntWalk.i64_in _ (by omega))) ?_ | refine hw_pu (y_conv Try.underlying5 Try.underlying3 rfl rfl) ?_
            refine hw_pu (y_move rfl) ?_
            refine hw_pu (y_nil rfl) ?_
            first | refine hw_pu (y_fieldAddr0 0 Try.underlying98 rfl rfl (by kernel_rfl) rfl) ?_ | refine hw_pu (y_fieldAddr 0 Try.underlying98 rfl rfl (by kernel_rfl) rfl) ?_
            first | refine hw_pu (y_fieldAddr0 1 Try.underlying72 rfl rfl (by kernel_rfl) rfl) ?_ | refine hw_pu (y_fieldAddr 1 Try.underlying72 rfl rfl (by kernel_rfl) rfl) ?_
            first | refine hw_rd (y_load 0 rfl rfl rfl (by kernel_rfl)) ?_ | refine hw_rd (y_load 1 rfl rfl rfl (by kernel_rfl)) ?_ | refine hw_rd (y_load 2 rfl rfl rfl (by kernel_rfl)) ?_ | refine hw_rd (y_load 3 rfl rfl rfl (by kernel_rfl)) ?_ | refine hw_rd (y_load 4 rfl rfl rfl (by kernel_rfl)) ?_ | refine hw_rd (y_load 5 rfl rfl rfl (by kernel_rfl)) ?_
            refine hw_pu (y_rem rfl rfl (by omega)) ?_
            refine hw_pu (y_assign rfl) ?_
            refine hw_end [] rfl ?_
            case hB => kernel_rfl
            refine wl_nil ?_
            refine at_nq ?_
            refine at_then ?_
            have hom : 0 ≤ tb % (R.n : Int) ∧ tb % (R.n : Int) < R.n := ⟨Int.emod_nonneg _ (by omega), Int.emod_lt_of_pos _ (by omega)⟩
            obtain ⟨o, ho⟩ : ∃ o : Nat, tb % (R.n : Int) = (o : Int) := ⟨(tb % (R.n : Int)).toNat, by omega⟩
            rw [ho] at hom ⊢
            refine wc_seq ?_
            refine wc_region ?_
            refine wl_pu (y_move rfl) rfl ?_
            refine wl_pu (y_move rfl) rfl ?_
            refine wl_pu (y_nil rfl) rfl ?_
            first | refine wl_pu (y_fieldAddr0 4 Try.underlying98 rfl rfl (by kernel_rfl) rfl) rfl ?_ | refine wl_pu (y_fieldAddr 4 Try.underlying98 rfl rfl (by kernel_rfl) rfl) rfl ?_
            refine wl_pu (y_ixA 1 Try.underlying84 (by kernel_rfl) rfl rfl (by omega)) rfl ?_
            refine wl_do0 (d_store 1 rfl rfl rfl (Nat.ble_eq_true_of_le (by show 4 + ((o : Nat) : Int).toNat * 1 + 1 ≤ 9; omega)) rfl (by kernel_rfl)) (fun _ _ hL => ?_)
            subst hL
            refine wl_heap ((bt, row 95 (tv ta tb tc x.toNat)) :: ({ R with f := fun m => if m = (o : Int) then false else R.f m } : RD).hp F) (by show _ :: (R.bx, row 98 (R.rec_.set (4 + ((o : Nat) : Int).toNat * 1) _)) :: _ = _; rw [R.rec_setf (by omega)]; rfl) ?_
            refine wl_nil ?_
            refine at_then ?_
            refine wc_seq ?_
            refine wc_region ?_
            refine wl_pu (y_move rfl) rfl ?_
            refine wl_pu (y_nil rfl) rfl ?_
            first | refine wl_pu (y_fieldAddr0 3 Try.underlying98 rfl rfl (by kernel_rfl) rfl) rfl ?_ | refine wl_pu (y_fieldAddr 3 Try.underlying98 rfl rfl (by kernel_rfl) rfl) rfl ?_
            refine wl_rd (y_load 1 rfl rfl (v := sl R.bd 0 R.n R.cd) rfl (by kernel_rfl)) rfl ?_
            refine wl_pu (y_move rfl) rfl ?_
            first | refine wl_pu (y_ix1 Try.underlying96 (by kernel_rfl) rfl rfl (by omega)) rfl ?_ | refine wl_pu (y_ix 1 Try.underlying96 (by kernel_rfl) rfl rfl (by omega)) rfl ?_
            refine wl_rd (y_load 2 rfl rfl (v := sl (R.bk o) 0 R.rw R.rw) (R.disk_nth (m := o) (by omega)) (by kernel_rfl)) rfl ?_
            refine wl_pu (y_lenL Try.underlying36 rfl) rfl ?_
            refine wl_pu (y_move rfl) rfl ?_
            refine wl_nil ?_
            refine at_then ?_
            refine wc_block ?_
            -- at: loop
            refine wc_loop (σ := Nat) (fun r => r ≤ R.rw) (fun r => R.rw - r) (fun r => [(1, .slice (some ⟨b0, off, none⟩) ln cp), (5, ptr R.bx 0), (6, int (o : Int)), (7, int (k : Int)), (8, ptr bt 0), (207, int (R.rw : Int)), (208, int (r : Int))])
              (fun r => (bt, row 95 (tv ta tb tc x.toNat)) :: ({ R with f := fun m => if m = (o : Int) then false else R.f m, D := fun m c => if m = (o : Int) ∧ c < (r : Int) then x else R.D m c } : RD).hp F) 0 (Nat.zero_le _) ⟨rfl, rfl, rfl, rfl, rfl, rfl, rfl, trivial⟩ ?_ ?_
            · show _ :: _ :: _ :: _ :: (_ ++ F) = _ :: _ :: _ :: _ :: (_ ++ F)
              exact congrArg (fun z : Hp => (bt, row 95 (tv ta tb tc x.toNat)) :: (R.bx, row 98 (({ R with f := fun m => if m = (o : Int) then false else R.f m } : RD).rec_)) :: (R.bd, row 36 R.disks) :: (R.bp, row 9 (drow R.sz R.P)) :: (z ++ F)) (dks_zero { R with f := fun m => if m = (o : Int) then false else R.f m } o (fun _ => x))
            intro r hr
            show WC _ _ _ _ [(1, .slice (some ⟨b0, off, none⟩) ln cp), (5, ptr R.bx 0), (6, int (o : Int)), (7, int (k : Int)), (8, ptr bt 0), (207, int (R.rw : Int)), (208, int (r : Int))] _
            refine wc_seq ?_
            refine wc_region ?_
            refine wl_pu (y_lss rfl rfl) rfl ?_
            refine wl_nil ?_
            refine at_then ?_
            refine wc_seq ?_
            -- at: cond
            refine wc_condD rfl (fun hrl => ?_) (fun hrl => ?_)
            · skip
              have hr' : r < R.rw := by omega
              refine wc_skip ?_
              refine at_then ?_
              refine wc_seq ?_
              refine wc_block ?_
              refine wc_seq ?_
              refine wc_region ?_
              refine wl_pu (y_move rfl) rfl ?_
              refine wl_pu (y_assign rfl) rfl ?_
              refine wl_nil ?_
              refine at_then ?_
              -- at: draw
              refine wc_anyN (by kernel_rfl) ?_
              refine wy_pu (i := 0) rfl (by kernel_rfl) (y_move rfl) rfl ?_
              refine wy_pu (i := 1) rfl (by kernel_rfl) (y_nil rfl) rfl ?_
              first | refine wy_pu (i := 2) rfl (by kernel_rfl) (y_fieldAddr0 3 Try.underlying98 rfl rfl (by kernel_rfl) rfl) rfl ?_ | refine wy_pu (i := 2) rfl (by kernel_rfl) (y_fieldAddr 3 Try.underlying98 rfl rfl (by kernel_rfl) rfl) rfl ?_
              refine wy_pu (i := 4) rfl (by kernel_rfl) (y_move rfl) rfl ?_
              refine wy_pu (i := 7) rfl (by kernel_rfl) (y_move rfl) rfl ?_
              first | refine wy_pu (i := 8) rfl (by kernel_rfl) (y_fieldAddr0 3 Try.underlying95 rfl rfl (by kernel_rfl) rfl) rfl ?_ | refine wy_pu (i := 8) rfl (by kernel_rfl) (y_fieldAddr 3 Try.underlying95 rfl rfl (by kernel_rfl) rfl) rfl ?_
              refine wy_2 (i := 3) (j := 9) (by kernel_rfl) ?_ ?_
              · skip
                first | refine wo_rd rfl (y_load 1 rfl rfl (v := sl R.bd 0 R.n R.cd) rfl (by kernel_rfl)) rfl ?_ | refine wo_rd rfl (y_load 2 rfl rfl (v := sl R.bd 0 R.n R.cd) rfl (by kernel_rfl)) rfl ?_
                first | refine wy_pu (i := 5) rfl (by kernel_rfl) (y_ix1 Try.underlying96 (by kernel_rfl) rfl rfl (by omega)) rfl ?_ | refine wy_pu (i := 5) rfl (by kernel_rfl) (y_ix 1 Try.underlying96 (by kernel_rfl) rfl rfl (by omega)) rfl ?_
                refine wy_2 (i := 6) (j := 9) (by kernel_rfl) ?_ ?_
                · skip
                  first | refine wo_rd rfl (y_load 2 rfl rfl (v := sl (R.bk o) 0 R.rw R.rw) (R.disk_nth (m := o) (by omega)) (by kernel_rfl)) rfl ?_ | refine wo_rd rfl (y_load 3 rfl rfl (v := sl (R.bk o) 0 R.rw R.rw) (R.disk_nth (m := o) (by omega)) (by kernel_rfl)) rfl ?_
                  refine wy_1 (i := 9) (by kernel_rfl) ?_
                  refine wo_rd rfl (y_load 0 rfl rfl (v := .int .u8 (x.toNat : Int)) rfl (by kernel_rfl)) rfl ?_
                  refine wy_1 (i := 10) (by kernel_rfl) ?_
                  refine wo_do rfl (d_buildSlice [.int .u8 (x.toNat : Int)] Try.underlying24 rfl (built5 _)) rfl ?_
                  rintro _ _ ⟨b1, rfl, rfl⟩
                  refine wy_1 (i := 11) (by kernel_rfl) ?_
                  refine wo_rd rfl (y_toStr 0 [x] Try.underlying24 Try.underlying5 Try.underlying9 rfl rfl rfl rfl) rfl (wy_drop ?_)
                  refine wy_1 (i := 12) (by kernel_rfl) ?_
                  refine wo_do rfl (d_call (by kernel_rfl) rfl (rep1_spec _ x 64 (by omega))) rfl ?_
                  rintro _ L9 ⟨rfl, hL9⟩
                  rw [hL9]
                  clear hL9
                  first | refine wy_pu (i := 13) rfl (by kernel_rfl) (y_ix1 Try.underlying36 (by kernel_rfl) rfl rfl (by omega)) rfl ?_ | refine wy_pu (i := 13) rfl (by kernel_rfl) (y_ix 1 Try.underlying36 (by kernel_rfl) rfl rfl (by omega)) rfl ?_
                  refine wy_1 (i := 14) (by kernel_rfl) ?_
                  refine wo_do0 rfl (d_store (o + 4) rfl rfl (RD.dk_nth _ (m := o) (by show o < R.n; omega) F) (by rw [Int.toNat_natCast, drow_len]; exact Nat.ble_eq_true_of_le hr') rfl (by kernel_rfl)) (fun _ _ hL => ?_)
                  subst hL
                  refine wy_heap ((bt, row 95 (tv ta tb tc x.toNat)) :: ({ R with f := fun m => if m = (o : Int) then false else R.f m, D := fun m c => if m = (o : Int) ∧ c < ((r + 1 : Nat) : Int) then x else R.D m c } : RD).hp F) ?_ ?_
                  · have hps := put_step { R with f := fun m => if m = (o : Int) then false else R.f m } o r (fun _ => x)
                    have hds := RD.dk_set { R with f := fun m => if m = (o : Int) then false else R.f m, D := fun m c => if m = (o : Int) ∧ c < (r : Int) then x else R.D m c } (m := o) (r := r) (by show o < R.n; omega) F x
                    show _ :: _ :: _ :: _ :: setAt _ o _ = _ :: _ :: _ :: _ :: _
                    refine congrArg (fun z => _ :: _ :: _ :: _ :: z) (hds.trans ?_)
                    exact congrArg (fun z : RD => z.dks ++ F) hps
                  refine wy_nil (by kernel_rfl) ?_
                  refine at_nq ?_
                  refine at_block_normal ?_
                  refine at_then ?_
                  refine wc_region ?_
                  refine wl_pu (y_add rfl rfl (by omega)) rfl ?_
                  refine wl_pu (y_move rfl) rfl ?_
                  refine wl_nil ?_
                  exact at_again (r + 1) hr' (by omega) ⟨rfl, rfl, rfl, rfl, rfl, rfl, rfl, trivial⟩ rfl
                · skip
                  refine wo_rd rfl (y_load 0 rfl rfl (v := .int .u8 (x.toNat : Int)) rfl (by kernel_rfl)) rfl ?_
                  refine wy_2 (i := 6) (j := 10) (by kernel_rfl) ?_ ?_
                  · skip
                    first | refine wo_rd rfl (y_load 2 rfl rfl (v := sl (R.bk o) 0 R.rw R.rw) (R.disk_nth (m := o) (by omega)) (by kernel_rfl)) rfl ?_ | refine wo_rd rfl (y_load 3 rfl rfl (v := sl (R.bk o) 0 R.rw R.rw) (R.disk_nth (m := o) (by omega)) (by kernel_rfl)) rfl ?_
                    refine wy_1 (i := 10) (by kernel_rfl) ?_
                    refine wo_do rfl (d_buildSlice [.int .u8 (x.toNat : Int)] Try.underlying24 rfl (built5 _)) rfl ?_
                    rintro _ _ ⟨b1, rfl, rfl⟩
                    refine wy_1 (i := 11) (by kernel_rfl) ?_
                    refine wo_rd rfl (y_toStr 0 [x] Try.underlying24 Try.underlying5 Try.underlying9 rfl rfl rfl rfl) rfl (wy_drop ?_)
                    refine wy_1 (i := 12) (by kernel_rfl) ?_
                    refine wo_do rfl (d_call (by kernel_rfl) rfl (rep1_spec _ x 64 (by omega))) rfl ?_
                    rintro _ L9 ⟨rfl, hL9⟩
                    rw [hL9]
                    clear hL9
                    first | refine wy_pu (i := 13) rfl (by kernel_rfl) (y_ix1 Try.underlying36 (by kernel_rfl) rfl rfl (by omega)) rfl ?_ | refine wy_pu (i := 13) rfl (by kernel_rfl) (y_ix 1 Try.underlying36 (by kernel_rfl) rfl rfl (by omega)) rfl ?_
                    refine wy_1 (i := 14) (by kernel_rfl) ?_
                    refine wo_do0 rfl (d_store (o + 4) rfl rfl (RD.dk_nth _ (m := o) (by show o < R.n; omega) F) (by rw [Int.toNat_natCast, drow_len]; exact Nat.ble_eq_true_of_le hr') rfl (by kernel_rfl)) (fun _ _ hL => ?_)
                    subst hL
                    refine wy_heap ((bt, row 95 (tv ta tb tc x.toNat)) :: ({ R with f := fun m => if m = (o : Int) then false else R.f m, D := fun m c => if m = (o : Int) ∧ c < ((r + 1 : Nat) : Int) then x else R.D m c } : RD).hp F) ?_ ?_
                    · have hps := put_step { R with f := fun m => if m = (o : Int) then false else R.f m } o r (fun _ => x)
                      have hds := RD.dk_set { R with f := fun m => if m = (o : Int) then false else R.f m, D := fun m c => if m = (o : Int) ∧ c < (r : Int) then x else R.D m c } (m := o) (r := r) (by show o < R.n; omega) F x
                      show _ :: _ :: _ :: _ :: setAt _ o _ = _ :: _ :: _ :: _ :: _
                      refine congrArg (fun z => _ :: _ :: _ :: _ :: z) (hds.trans ?_)
                      exact congrArg (fun z : RD => z.dks ++ F) hps
                    refine wy_nil (by kernel_rfl) ?_
                    refine at_nq ?_
                    refine at_block_normal ?_
                    refine at_then ?_
                    refine wc_region ?_
                    refine wl_pu (y_add rfl rfl (by omega)) rfl ?_
                    refine wl_pu (y_move rfl) rfl ?_
                    refine wl_nil ?_
                    exact at_again (r + 1) hr' (by omega) ⟨rfl, rfl, rfl, rfl, rfl, rfl, rfl, trivial⟩ rfl
                  · skip
                    refine wo_do rfl (d_buildSlice [.int .u8 (x.toNat : Int)] Try.underlying24 rfl (built5 _)) rfl ?_
                    rintro _ _ ⟨b1, rfl, rfl⟩
                    refine wy_2 (i := 6) (j := 11) (by kernel_rfl) ?_ ?_
                    · skip
                      first | refine wo_rd rfl (y_load 2 rfl rfl (v := sl (R.bk o) 0 R.rw R.rw) (R.disk_nth (m := o) (by omega)) (by kernel_rfl)) rfl ?_ | refine wo_rd rfl (y_load 3 rfl rfl (v := sl (R.bk o) 0 R.rw R.rw) (R.disk_nth (m := o) (by omega)) (by kernel_rfl)) rfl ?_
                      refine wy_1 (i := 11) (by kernel_rfl) ?_
                      refine wo_rd rfl (y_toStr 0 [x] Try.underlying24 Try.underlying5 Try.underlying9 rfl rfl rfl rfl) rfl (wy_drop ?_)
                      refine wy_1 (i := 12) (by kernel_rfl) ?_
                      refine wo_do rfl (d_call (by kernel_rfl) rfl (rep1_spec _ x 64 (by omega))) rfl ?_
                      rintro _ L9 ⟨rfl, hL9⟩
                      rw [hL9]
                      clear hL9
                      first | refine wy_pu (i := 13) rfl (by kernel_rfl) (y_ix1 Try.underlying36 (by kernel_rfl) rfl rfl (by omega)) rfl ?_ | refine wy_pu (i := 13) rfl (by kernel_rfl) (y_ix 1 Try.underlying36 (by kernel_rfl) rfl rfl (by omega)) rfl ?_
                      refine wy_1 (i := 14) (by kernel_rfl) ?_
                      refine wo_do0 rfl (d_store (o + 4) rfl rfl (RD.dk_nth _ (m := o) (by show o < R.n; omega) F) (by rw [Int.toNat_natCast, drow_len]; exact Nat.ble_eq_true_of_le hr') rfl (by kernel_rfl)) (fun _ _ hL => ?_)
                      subst hL
                      refine wy_heap ((bt, row 95 (tv ta tb tc x.toNat)) :: ({ R with f := fun m => if m = (o : Int) then false else R.f m, D := fun m c => if m = (o : Int) ∧ c < ((r + 1 : Nat) : Int) then x else R.D m c } : RD).hp F) ?_ ?_
                      · have hps := put_step { R with f := fun m => if m = (o : Int) then false else R.f m } o r (fun _ => x)
                        have hds := RD.dk_set { R with f := fun m => if m = (o : Int) then false else R.f m, D := fun m c => if m = (o : Int) ∧ c < (r : Int) then x else R.D m c } (m := o) (r := r) (by show o < R.n; omega) F x
                        show _ :: _ :: _ :: _ :: setAt _ o _ = _ :: _ :: _ :: _ :: _
                        refine congrArg (fun z => _ :: _ :: _ :: _ :: z) (hds.trans ?_)
                        exact congrArg (fun z : RD => z.dks ++ F) hps
                      refine wy_nil (by kernel_rfl) ?_
                      refine at_nq ?_
                      refine at_block_normal ?_
                      refine at_then ?_
                      refine wc_region ?_
                      refine wl_pu (y_add rfl rfl (by omega)) rfl ?_
                      refine wl_pu (y_move rfl) rfl ?_
                      refine wl_nil ?_
                      exact at_again (r + 1) hr' (by omega) ⟨rfl, rfl, rfl, rfl, rfl, rfl, rfl, trivial⟩ rfl
                    · skip
                      refine wo_rd rfl (y_toStr 0 [x] Try.underlying24 Try.underlying5 Try.underlying9 rfl rfl rfl rfl) rfl (wy_drop ?_)
                      refine wy_2 (i := 6) (j := 12) (by kernel_rfl) ?_ ?_
                      · skip
                        first | refine wo_rd rfl (y_load 2 rfl rfl (v := sl (R.bk o) 0 R.rw R.rw) (R.disk_nth (m := o) (by omega)) (by kernel_rfl)) rfl ?_ | refine wo_rd rfl (y_load 3 rfl rfl (v := sl (R.bk o) 0 R.rw R.rw) (R.disk_nth (m := o) (by omega)) (by kernel_rfl)) rfl ?_
                        refine wy_1 (i := 12) (by kernel_rfl) ?_
                        refine wo_do rfl (d_call (by kernel_rfl) rfl (rep1_spec _ x 64 (by omega))) rfl ?_
                        rintro _ L9 ⟨rfl, hL9⟩
                        rw [hL9]
                        clear hL9
                        first | refine wy_pu (i := 13) rfl (by kernel_rfl) (y_ix1 Try.underlying36 (by kernel_rfl) rfl rfl (by omega)) rfl ?_ | refine wy_pu (i := 13) rfl (by kernel_rfl) (y_ix 1 Try.underlying36 (by kernel_rfl) rfl rfl (by omega)) rfl ?_
                        refine wy_1 (i := 14) (by kernel_rfl) ?_
                        refine wo_do0 rfl (d_store (o + 4) rfl rfl (RD.dk_nth _ (m := o) (by show o < R.n; omega) F) (by rw [Int.toNat_natCast, drow_len]; exact Nat.ble_eq_true_of_le hr') rfl (by kernel_rfl)) (fun _ _ hL => ?_)
                        subst hL
                        refine wy_heap ((bt, row 95 (tv ta tb tc x.toNat)) :: ({ R with f := fun m => if m = (o : Int) then false else R.f m, D := fun m c => if m = (o : Int) ∧ c < ((r + 1 : Nat) : Int) then x else R.D m c } : RD).hp F) ?_ ?_
                        · have hps := put_step { R with f := fun m => if m = (o : Int) then false else R.f m } o r (fun _ => x)
                          have hds := RD.dk_set { R with f := fun m => if m = (o : Int) then false else R.f m, D := fun m c => if m = (o : Int) ∧ c < (r : Int) then x else R.D m c } (m := o) (r := r) (by show o < R.n; omega) F x
                          show _ :: _ :: _ :: _ :: setAt _ o _ = _ :: _ :: _ :: _ :: _
                          refine congrArg (fun z => _ :: _ :: _ :: _ :: z) (hds.trans ?_)
                          exact congrArg (fun z : RD => z.dks ++ F) hps
                        refine wy_nil (by kernel_rfl) ?_
                        refine at_nq ?_
                        refine at_block_normal ?_
                        refine at_then ?_
                        refine wc_region ?_
                        refine wl_pu (y_add rfl rfl (by omega)) rfl ?_
                        refine wl_pu (y_move rfl) rfl ?_
                        refine wl_nil ?_
                        exact at_again (r + 1) hr' (by omega) ⟨rfl, rfl, rfl, rfl, rfl, rfl, rfl, trivial⟩ rfl
                      · skip
                        refine wo_do rfl (d_call (by kernel_rfl) rfl (rep1_spec _ x 64 (by omega))) rfl ?_
                        rintro _ L9 ⟨rfl, hL9⟩
                        rw [hL9]
                        clear hL9
                        refine wy_1 (i := 6) (by kernel_rfl) ?_
                        first | refine wo_rd rfl (y_load 2 rfl rfl (v := sl (R.bk o) 0 R.rw R.rw) (R.disk_nth (m := o) (by omega)) (by kernel_rfl)) rfl ?_ | refine wo_rd rfl (y_load 3 rfl rfl (v := sl (R.bk o) 0 R.rw R.rw) (R.disk_nth (m := o) (by omega)) (by kernel_rfl)) rfl ?_
                        first | refine wy_pu (i := 13) rfl (by kernel_rfl) (y_ix1 Try.underlying36 (by kernel_rfl) rfl rfl (by omega)) rfl ?_ | refine wy_pu (i := 13) rfl (by kernel_rfl) (y_ix 1 Try.underlying36 (by kernel_rfl) rfl rfl (by omega)) rfl ?_
                        refine wy_1 (i := 14) (by kernel_rfl) ?_
                        refine wo_do0 rfl (d_store (o + 4) rfl rfl (RD.dk_nth _ (m := o) (by show o < R.n; omega) F) (by rw [Int.toNat_natCast, drow_len]; exact Nat.ble_eq_true_of_le hr') rfl (by kernel_rfl)) (fun _ _ hL => ?_)
                        subst hL
                        refine wy_heap ((bt, row 95 (tv ta tb tc x.toNat)) :: ({ R with f := fun m => if m = (o : Int) then false else R.f m, D := fun m c => if m = (o : Int) ∧ c < ((r + 1 : Nat) : Int) then x else R.D m c } : RD).hp F) ?_ ?_
                        · have hps := put_step { R with f := fun m => if m = (o : Int) then false else R.f m } o r (fun _ => x)
                          have hds := RD.dk_set { R with f := fun m => if m = (o : Int) then false else R.f m, D := fun m c => if m = (o : Int) ∧ c < (r : Int) then x else R.D m c } (m := o) (r := r) (by show o < R.n; omega) F x
                          show _ :: _ :: _ :: _ :: setAt _ o _ = _ :: _ :: _ :: _ :: _
                          refine congrArg (fun z => _ :: _ :: _ :: _ :: z) (hds.trans ?_)
                          exact congrArg (fun z : RD => z.dks ++ F) hps
                        refine wy_nil (by kernel_rfl) ?_
                        refine at_nq ?_
                        refine at_block_normal ?_
                        refine at_then ?_
                        refine wc_region ?_
                        refine wl_pu (y_add rfl rfl (by omega)) rfl ?_
                        refine wl_pu (y_move rfl) rfl ?_
                        refine wl_nil ?_
                        exact at_again (r + 1) hr' (by omega) ⟨rfl, rfl, rfl, rfl, rfl, rfl, rfl, trivial⟩ rfl
              · skip
                refine wo_rd rfl (y_load 0 rfl rfl (v := .int .u8 (x.toNat : Int)) rfl (by kernel_rfl)) rfl ?_
                refine wy_2 (i := 3) (j := 10) (by kernel_rfl) ?_ ?_
                · skip
                  first | refine wo_rd rfl (y_load 1 rfl rfl (v := sl R.bd 0 R.n R.cd) rfl (by kernel_rfl)) rfl ?_ | refine wo_rd rfl (y_load 2 rfl rfl (v := sl R.bd 0 R.n R.cd) rfl (by kernel_rfl)) rfl ?_
                  first | refine wy_pu (i := 5) rfl (by kernel_rfl) (y_ix1 Try.underlying96 (by kernel_rfl) rfl rfl (by omega)) rfl ?_ | refine wy_pu (i := 5) rfl (by kernel_rfl) (y_ix 1 Try.underlying96 (by kernel_rfl) rfl rfl (by omega)) rfl ?_
                  refine wy_2 (i := 6) (j := 10) (by kernel_rfl) ?_ ?_
                  · skip
                    first | refine wo_rd rfl (y_load 2 rfl rfl (v := sl (R.bk o) 0 R.rw R.rw) (R.disk_nth (m := o) (by omega)) (by kernel_rfl)) rfl ?_ | refine wo_rd rfl (y_load 3 rfl rfl (v := sl (R.bk o) 0 R.rw R.rw) (R.disk_nth (m := o) (by omega)) (by kernel_rfl)) rfl ?_
                    refine wy_1 (i := 10) (by kernel_rfl) ?_
                    refine wo_do rfl (d_buildSlice [.int .u8 (x.toNat : Int)] Try.underlying24 rfl (built5 _)) rfl ?_
                    rintro _ _ ⟨b1, rfl, rfl⟩
                    refine wy_1 (i := 11) (by kernel_rfl) ?_
                    refine wo_rd rfl (y_toStr 0 [x] Try.underlying24 Try.underlying5 Try.underlying9 rfl rfl rfl rfl) rfl (wy_drop ?_)
                    refine wy_1 (i := 12) (by kernel_rfl) ?_
                    refine wo_do rfl (d_call (by kernel_rfl) rfl (rep1_spec _ x 64 (by omega))) rfl ?_
                    rintro _ L9 ⟨rfl, hL9⟩
                    rw [hL9]
                    clear hL9
                    first | refine wy_pu (i := 13) rfl (by kernel_rfl) (y_ix1 Try.underlying36 (by kernel_rfl) rfl rfl (by omega)) rfl ?_ | refine wy_pu (i := 13) rfl (by kernel_rfl) (y_ix 1 Try.underlying36 (by kernel_rfl) rfl rfl (by omega)) rfl ?_
                    refine wy_1 (i := 14) (by kernel_rfl) ?_
                    refine wo_do0 rfl (d_store (o + 4) rfl rfl (RD.dk_nth _ (m := o) (by show o < R.n; omega) F) (by rw [Int.toNat_natCast, drow_len]; exact Nat.ble_eq_true_of_le hr') rfl (by kernel_rfl)) (fun _ _ hL => ?_)
                    subst hL
                    refine wy_heap ((bt, row 95 (tv ta tb tc x.toNat)) :: ({ R with f := fun m => if m = (o : Int) then false else R.f m, D := fun m c => if m = (o : Int) ∧ c < ((r + 1 : Nat) : Int) then x else R.D m c } : RD).hp F) ?_ ?_
                    · have hps := put_step { R with f := fun m => if m = (o : Int) then false else R.f m } o r (fun _ => x)
                      have hds := RD.dk_set { R with f := fun m => if m = (o : Int) then false else R.f m, D := fun m c => if m = (o : Int) ∧ c < (r : Int) then x else R.D m c } (m := o) (r := r) (by show o < R.n; omega) F x
                      show _ :: _ :: _ :: _ :: setAt _ o _ = _ :: _ :: _ :: _ :: _
                      refine congrArg (fun z => _ :: _ :: _ :: _ :: z) (hds.trans ?_)
                      exact congrArg (fun z : RD => z.dks ++ F) hps
                    refine wy_nil (by kernel_rfl) ?_
                    refine at_nq ?_
                    refine at_block_normal ?_
                    refine at_then ?_
                    refine wc_region ?_
                    refine wl_pu (y_add rfl rfl (by omega)) rfl ?_
                    refine wl_pu (y_move rfl) rfl ?_
                    refine wl_nil ?_
                    exact at_again (r + 1) hr' (by omega) ⟨rfl, rfl, rfl, rfl, rfl, rfl, rfl, trivial⟩ rfl
                  · skip
                    refine wo_do rfl (d_buildSlice [.int .u8 (x.toNat : Int)] Try.underlying24 rfl (built5 _)) rfl ?_
                    rintro _ _ ⟨b1, rfl, rfl⟩
                    refine wy_2 (i := 6) (j := 11) (by kernel_rfl) ?_ ?_
                    · skip
                      first | refine wo_rd rfl (y_load 2 rfl rfl (v := sl (R.bk o) 0 R.rw R.rw) (R.disk_nth (m := o) (by omega)) (by kernel_rfl)) rfl ?_ | refine wo_rd rfl (y_load 3 rfl rfl (v := sl (R.bk o) 0 R.rw R.rw) (R.disk_nth (m := o) (by omega)) (by kernel_rfl)) rfl ?_
                      refine wy_1 (i := 11) (by kernel_rfl) ?_
                      refine wo_rd rfl (y_toStr 0 [x] Try.underlying24 Try.underlying5 Try.underlying9 rfl rfl rfl rfl) rfl (wy_drop ?_)
                      refine wy_1 (i := 12) (by kernel_rfl) ?_
                      refine wo_do rfl (d_call (by kernel_rfl) rfl (rep1_spec _ x 64 (by omega))) rfl ?_
                      rintro _ L9 ⟨rfl, hL9⟩
                      rw [hL9]
                      clear hL9
                      first | refine wy_pu (i := 13) rfl (by kernel_rfl) (y_ix1 Try.underlying36 (by kernel_rfl) rfl rfl (by omega)) rfl ?_ | refine wy_pu (i := 13) rfl (by kernel_rfl) (y_ix 1 Try.underlying36 (by kernel_rfl) rfl rfl (by omega)) rfl ?_
                      refine wy_1 (i := 14) (by kernel_rfl) ?_
                      refine wo_do0 rfl (d_store (o + 4) rfl rfl (RD.dk_nth _ (m := o) (by show o < R.n; omega) F) (by rw [Int.toNat_natCast, drow_len]; exact Nat.ble_eq_true_of_le hr') rfl (by kernel_rfl)) (fun _ _ hL => ?_)
                      subst hL
                      refine wy_heap ((bt, row 95 (tv ta tb tc x.toNat)) :: ({ R with f := fun m => if m = (o : Int) then false else R.f m, D := fun m c => if m = (o : Int) ∧ c < ((r + 1 : Nat) : Int) then x else R.D m c } : RD).hp F) ?_ ?_
                      · have hps := put_step { R with f := fun m => if m = (o : Int) then false else R.f m } o r (fun _ => x)
                        have hds := RD.dk_set { R with f := fun m => if m = (o : Int) then false else R.f m, D := fun m c => if m = (o : Int) ∧ c < (r : Int) then x else R.D m c } (m := o) (r := r) (by show o < R.n; omega) F x
                        show _ :: _ :: _ :: _ :: setAt _ o _ = _ :: _ :: _ :: _ :: _
                        refine congrArg (fun z => _ :: _ :: _ :: _ :: z) (hds.trans ?_)
                        exact congrArg (fun z : RD => z.dks ++ F) hps
                      refine wy_nil (by kernel_rfl) ?_
                      refine at_nq ?_
                      refine at_block_normal ?_
                      refine at_then ?_
                      refine wc_region ?_
                      refine wl_pu (y_add rfl rfl (by omega)) rfl ?_
                      refine wl_pu (y_move rfl) rfl ?_
                      refine wl_nil ?_
                      exact at_again (r + 1) hr' (by omega) ⟨rfl, rfl, rfl, rfl, rfl, rfl, rfl, trivial⟩ rfl
                    · skip
                      refine wo_rd rfl (y_toStr 0 [x] Try.underlying24 Try.underlying5 Try.underlying9 rfl rfl rfl rfl) rfl (wy_drop ?_)
                      refine wy_2 (i := 6) (j := 12) (by kernel_rfl) ?_ ?_
                      · skip
                        first | refine wo_rd rfl (y_load 2 rfl rfl (v := sl (R.bk o) 0 R.rw R.rw) (R.disk_nth (m := o) (by omega)) (by kernel_rfl)) rfl ?_ | refine wo_rd rfl (y_load 3 rfl rfl (v := sl (R.bk o) 0 R.rw R.rw) (R.disk_nth (m := o) (by omega)) (by kernel_rfl)) rfl ?_
                        refine wy_1 (i := 12) (by kernel_rfl) ?_
                        refine wo_do rfl (d_call (by kernel_rfl) rfl (rep1_spec _ x 64 (by omega))) rfl ?_
                        rintro _ L9 ⟨rfl, hL9⟩
                        rw [hL9]
                        clear hL9
                        first | refine wy_pu (i := 13) rfl (by kernel_rfl) (y_ix1 Try.underlying36 (by kernel_rfl) rfl rfl (by omega)) rfl ?_ | refine wy_pu (i := 13) rfl (by kernel_rfl) (y_ix 1 Try.underlying36 (by kernel_rfl) rfl rfl (by omega)) rfl ?_
                        refine wy_1 (i := 14) (by kernel_rfl) ?_
                        refine wo_do0 rfl (d_store (o + 4) rfl rfl (RD.dk_nth _ (m := o) (by show o < R.n; omega) F) (by rw [Int.toNat_natCast, drow_len]; exact Nat.ble_eq_true_of_le hr') rfl (by kernel_rfl)) (fun _ _ hL => ?_)
                        subst hL
                        refine wy_heap ((bt, row 95 (tv ta tb tc x.toNat)) :: ({ R with f := fun m => if m = (o : Int) then false else R.f m, D := fun m c => if m = (o : Int) ∧ c < ((r + 1 : Nat) : Int) then x else R.D m c } : RD).hp F) ?_ ?_
                        · have hps := put_step { R with f := fun m => if m = (o : Int) then false else R.f m } o r (fun _ => x)
                          have hds := RD.dk_set { R with f := fun m => if m = (o : Int) then false else R.f m, D := fun m c => if m = (o : Int) ∧ c < (r : Int) then x else R.D m c } (m := o) (r := r) (by show o < R.n; omega) F x
                          show _ :: _ :: _ :: _ :: setAt _ o _ = _ :: _ :: _ :: _ :: _
                          refine congrArg (fun z => _ :: _ :: _ :: _ :: z) (hds.trans ?_)
                          exact congrArg (fun z : RD => z.dks ++ F) hps
                        refine wy_nil (by kernel_rfl) ?_
                        refine at_nq ?_
                        refine at_block_normal ?_
                        refine at_then ?_
                        refine wc_region ?_
                        refine wl_pu (y_add rfl rfl (by omega)) rfl ?_
                        refine wl_pu (y_move rfl) rfl ?_
                        refine wl_nil ?_
                        exact at_again (r + 1) hr' (by omega) ⟨rfl, rfl, rfl, rfl, rfl, rfl, rfl, trivial⟩ rfl
                      · skip
                        refine wo_do rfl (d_call (by kernel_rfl) rfl (rep1_spec _ x 64 (by omega))) rfl ?_
                        rintro _ L9 ⟨rfl, hL9⟩
                        rw [hL9]
                        clear hL9
                        refine wy_1 (i := 6) (by kernel_rfl) ?_
                        first | refine wo_rd rfl (y_load 2 rfl rfl (v := sl (R.bk o) 0 R.rw R.rw) (R.disk_nth (m := o) (by omega)) (by kernel_rfl)) rfl ?_ | refine wo_rd rfl (y_load 3 rfl rfl (v := sl (R.bk o) 0 R.rw R.rw) (R.disk_nth (m := o) (by omega)) (by kernel_rfl)) rfl ?_
                        first | refine wy_pu (i := 13) rfl (by kernel_rfl) (y_ix1 Try.underlying36 (by kernel_rfl) rfl rfl (by omega)) rfl ?_ | refine wy_pu (i := 13) rfl (by kernel_rfl) (y_ix 1 Try.underlying36 (by kernel_rfl) rfl rfl (by omega)) rfl ?_
                        refine wy_1 (i := 14) (by kernel_rfl) ?_
                        refine wo_do0 rfl (d_store (o + 4) rfl rfl (RD.dk_nth _ (m := o) (by show o < R.n; omega) F) (by rw [Int.toNat_natCast, drow_len]; exact Nat.ble_eq_true_of_le hr') rfl (by kernel_rfl)) (fun _ _ hL => ?_)
                        subst hL
                        refine wy_heap ((bt, row 95 (tv ta tb tc x.toNat)) :: ({ R with f := fun m => if m = (o : Int) then false else R.f m, D := fun m c => if m = (o : Int) ∧ c < ((r + 1 : Nat) : Int) then x else R.D m c } : RD).hp F) ?_ ?_
                        · have hps := put_step { R with f := fun m => if m = (o : Int) then false else R.f m } o r (fun _ => x)
                          have hds := RD.dk_set { R with f := fun m => if m = (o : Int) then false else R.f m, D := fun m c => if m = (o : Int) ∧ c < (r : Int) then x else R.D m c } (m := o) (r := r) (by show o < R.n; omega) F x
                          show _ :: _ :: _ :: _ :: setAt _ o _ = _ :: _ :: _ :: _ :: _
                          refine congrArg (fun z => _ :: _ :: _ :: _ :: z) (hds.trans ?_)
                          exact congrArg (fun z : RD => z.dks ++ F) hps
                        refine wy_nil (by kernel_rfl) ?_
                        refine at_nq ?_
                        refine at_block_normal ?_
                        refine at_then ?_
                        refine wc_region ?_
                        refine wl_pu (y_add rfl rfl (by omega)) rfl ?_
                        refine wl_pu (y_move rfl) rfl ?_
                        refine wl_nil ?_
                        exact at_again (r + 1) hr' (by omega) ⟨rfl, rfl, rfl, rfl, rfl, rfl, rfl, trivial⟩ rfl
                · skip
                  refine wo_do rfl (d_buildSlice [.int .u8 (x.toNat : Int)] Try.underlying24 rfl (built5 _)) rfl ?_
                  rintro _ _ ⟨b1, rfl, rfl⟩
                  refine wy_2 (i := 3) (j := 11) (by kernel_rfl) ?_ ?_
                  · skip
                    first | refine wo_rd rfl (y_load 1 rfl rfl (v := sl R.bd 0 R.n R.cd) rfl (by kernel_rfl)) rfl ?_ | refine wo_rd rfl (y_load 2 rfl rfl (v := sl R.bd 0 R.n R.cd) rfl (by kernel_rfl)) rfl ?_
                    first | refine wy_pu (i := 5) rfl (by kernel_rfl) (y_ix1 Try.underlying96 (by kernel_rfl) rfl rfl (by omega)) rfl ?_ | refine wy_pu (i := 5) rfl (by kernel_rfl) (y_ix 1 Try.underlying96 (by kernel_rfl) rfl rfl (by omega)) rfl ?_
                    refine wy_2 (i := 6) (j := 11) (by kernel_rfl) ?_ ?_
                    · skip
                      first | refine wo_rd rfl (y_load 2 rfl rfl (v := sl (R.bk o) 0 R.rw R.rw) (R.disk_nth (m := o) (by omega)) (by kernel_rfl)) rfl ?_ | refine wo_rd rfl (y_load 3 rfl rfl (v := sl (R.bk o) 0 R.rw R.rw) (R.disk_nth (m := o) (by omega)) (by kernel_rfl)) rfl ?_
                      refine wy_1 (i := 11) (by kernel_rfl) ?_
                      refine wo_rd rfl (y_toStr 0 [x] Try.underlying24 Try.underlying5 Try.underlying9 rfl rfl rfl rfl) rfl (wy_drop ?_)
                      refine wy_1 (i := 12) (by kernel_rfl) ?_
                      refine wo_do rfl (d_call (by kernel_rfl) rfl (rep1_spec _ x 64 (by omega))) rfl ?_
                      rintro _ L9 ⟨rfl, hL9⟩
                      rw [hL9]
                      clear hL9
                      first | refine wy_pu (i := 13) rfl (by kernel_rfl) (y_ix1 Try.underlying36 (by kernel_rfl) rfl rfl (by omega)) rfl ?_ | refine wy_pu (i := 13) rfl (by kernel_rfl) (y_ix 1 Try.underlying36 (by kernel_rfl) rfl rfl (by omega)) rfl ?_
                      refine wy_1 (i := 14) (by kernel_rfl) ?_
                      refine wo_do0 rfl (d_store (o + 4) rfl rfl (RD.dk_nth _ (m := o) (by show o < R.n; omega) F) (by rw [Int.toNat_natCast, drow_len]; exact Nat.ble_eq_true_of_le hr') rfl (by kernel_rfl)) (fun _ _ hL => ?_)
                      subst hL
                      refine wy_heap ((bt, row 95 (tv ta tb tc x.toNat)) :: ({ R with f := fun m => if m = (o : Int) then false else R.f m, D := fun m c => if m = (o : Int) ∧ c < ((r + 1 : Nat) : Int) then x else R.D m c } : RD).hp F) ?_ ?_
                      · have hps := put_step { R with f := fun m => if m = (o : Int) then false else R.f m } o r (fun _ => x)
                        have hds := RD.dk_set { R with f := fun m => if m = (o : Int) then false else R.f m, D := fun m c => if m = (o : Int) ∧ c < (r : Int) then x else R.D m c } (m := o) (r := r) (by show o < R.n; omega) F x
                        show _ :: _ :: _ :: _ :: setAt _ o _ = _ :: _ :: _ :: _ :: _
                        refine congrArg (fun z => _ :: _ :: _ :: _ :: z) (hds.trans ?_)
                        exact congrArg (fun z : RD => z.dks ++ F) hps
                      refine wy_nil (by kernel_rfl) ?_
                      refine at_nq ?_
                      refine at_block_normal ?_
                      refine at_then ?_
                      refine wc_region ?_
                      refine wl_pu (y_add rfl rfl (by omega)) rfl ?_
                      refine wl_pu (y_move rfl) rfl ?_
                      refine wl_nil ?_
                      exact at_again (r + 1) hr' (by omega) ⟨rfl, rfl, rfl, rfl, rfl, rfl, rfl, trivial⟩ rfl
                    · skip
                      refine wo_rd rfl (y_toStr 0 [x] Try.underlying24 Try.underlying5 Try.underlying9 rfl rfl rfl rfl) rfl (wy_drop ?_)
                      refine wy_2 (i := 6) (j := 12) (by kernel_rfl) ?_ ?_
                      · skip
                        first | refine wo_rd rfl (y_load 2 rfl rfl (v := sl (R.bk o) 0 R.rw R.rw) (R.disk_nth (m := o) (by omega)) (by kernel_rfl)) rfl ?_ | refine wo_rd rfl (y_load 3 rfl rfl (v := sl (R.bk o) 0 R.rw R.rw) (R.disk_nth (m := o) (by omega)) (by kernel_rfl)) rfl ?_
                        refine wy_1 (i := 12) (by kernel_rfl) ?_
                        refine wo_do rfl (d_call (by kernel_rfl) rfl (rep1_spec _ x 64 (by omega))) rfl ?_
                        rintro _ L9 ⟨rfl, hL9⟩
                        rw [hL9]
                        clear hL9
                        first | refine wy_pu (i := 13) rfl (by kernel_rfl) (y_ix1 Try.underlying36 (by kernel_rfl) rfl rfl (by omega)) rfl ?_ | refine wy_pu (i := 13) rfl (by kernel_rfl) (y_ix 1 Try.underlying36 (by kernel_rfl) rfl rfl (by omega)) rfl ?_
                        refine wy_1 (i := 14) (by kernel_rfl) ?_
                        refine wo_do0 rfl (d_store (o + 4) rfl rfl (RD.dk_nth _ (m := o) (by show o < R.n; omega) F) (by rw [Int.toNat_natCast, drow_len]; exact Nat.ble_eq_true_of_le hr') rfl (by kernel_rfl)) (fun _ _ hL => ?_)
                        subst hL
                        refine wy_heap ((bt, row 95 (tv ta tb tc x.toNat)) :: ({ R with f := fun m => if m = (o : Int) then false else R.f m, D := fun m c => if m = (o : Int) ∧ c < ((r + 1 : Nat) : Int) then x else R.D m c } : RD).hp F) ?_ ?_
                        · have hps := put_step { R with f := fun m => if m = (o : Int) then false else R.f m } o r (fun _ => x)
                          have hds := RD.dk_set { R with f := fun m => if m = (o : Int) then false else R.f m, D := fun m c => if m = (o : Int) ∧ c < (r : Int) then x else R.D m c } (m := o) (r := r) (by show o < R.n; omega) F x
                          show _ :: _ :: _ :: _ :: setAt _ o _ = _ :: _ :: _ :: _ :: _
                          refine congrArg (fun z => _ :: _ :: _ :: _ :: z) (hds.trans ?_)
                          exact congrArg (fun z : RD => z.dks ++ F) hps
                        refine wy_nil (by kernel_rfl) ?_
                        refine at_nq ?_
                        refine at_block_normal ?_
                        refine at_then ?_
                        refine wc_region ?_
                        refine wl_pu (y_add rfl rfl (by omega)) rfl ?_
                        refine wl_pu (y_move rfl) rfl ?_
                        refine wl_nil ?_
                        exact at_again (r + 1) hr' (by omega) ⟨rfl, rfl, rfl, rfl, rfl, rfl, rfl, trivial⟩ rfl
                      · skip
                        refine wo_do rfl (d_call (by kernel_rfl) rfl (rep1_spec _ x 64 (by omega))) rfl ?_
                        rintro _ L9 ⟨rfl, hL9⟩
                        rw [hL9]
                        clear hL9
                        refine wy_1 (i := 6) (by kernel_rfl) ?_
                        first | refine wo_rd rfl (y_load 2 rfl rfl (v := sl (R.bk o) 0 R.rw R.rw) (R.disk_nth (m := o) (by omega)) (by kernel_rfl)) rfl ?_ | refine wo_rd rfl (y_load 3 rfl rfl (v := sl (R.bk o) 0 R.rw R.rw) (R.disk_nth (m := o) (by omega)) (by kernel_rfl)) rfl ?_
                        first | refine wy_pu (i := 13) rfl (by kernel_rfl) (y_ix1 Try.underlying36 (by kernel_rfl) rfl rfl (by omega)) rfl ?_ | refine wy_pu (i := 13) rfl (by kernel_rfl) (y_ix 1 Try.underlying36 (by kernel_rfl) rfl rfl (by omega)) rfl ?_
                        refine wy_1 (i := 14) (by kernel_rfl) ?_
                        refine wo_do0 rfl (d_store (o + 4) rfl rfl (RD.dk_nth _ (m := o) (by show o < R.n; omega) F) (by rw [Int.toNat_natCast, drow_len]; exact Nat.ble_eq_true_of_le hr') rfl (by kernel_rfl)) (fun _ _ hL => ?_)
                        subst hL
                        refine wy_heap ((bt, row 95 (tv ta tb tc x.toNat)) :: ({ R with f := fun m => if m = (o : Int) then false else R.f m, D := fun m c => if m = (o : Int) ∧ c < ((r + 1 : Nat) : Int) then x else R.D m c } : RD).hp F) ?_ ?_
                        · have hps := put_step { R with f := fun m => if m = (o : Int) then false else R.f m } o r (fun _ => x)
                          have hds := RD.dk_set { R with f := fun m => if m = (o : Int) then false else R.f m, D := fun m c => if m = (o : Int) ∧ c < (r : Int) then x else R.D m c } (m := o) (r := r) (by show o < R.n; omega) F x
                          show _ :: _ :: _ :: _ :: setAt _ o _ = _ :: _ :: _ :: _ :: _
                          refine congrArg (fun z => _ :: _ :: _ :: _ :: z) (hds.trans ?_)
                          exact congrArg (fun z : RD => z.dks ++ F) hps
                        refine wy_nil (by kernel_rfl) ?_
                        refine at_nq ?_
                        refine at_block_normal ?_
                        refine at_then ?_
                        refine wc_region ?_
                        refine wl_pu (y_add rfl rfl (by omega)) rfl ?_
                        refine wl_pu (y_move rfl) rfl ?_
                        refine wl_nil ?_
                        exact at_again (r + 1) hr' (by omega) ⟨rfl, rfl, rfl, rfl, rfl, rfl, rfl, trivial⟩ rfl
                  · skip
                    refine wo_rd rfl (y_toStr 0 [x] Try.underlying24 Try.underlying5 Try.underlying9 rfl rfl rfl rfl) rfl (wy_drop ?_)
                    refine wy_2 (i := 3) (j := 12) (by kernel_rfl) ?_ ?_
                    · skip
                      first | refine wo_rd rfl (y_load 1 rfl rfl (v := sl R.bd 0 R.n R.cd) rfl (by kernel_rfl)) rfl ?_ | refine wo_rd rfl (y_load 2 rfl rfl (v := sl R.bd 0 R.n R.cd) rfl (by kernel_rfl)) rfl ?_
                      first | refine wy_pu (i := 5) rfl (by kernel_rfl) (y_ix1 Try.underlying96 (by kernel_rfl) rfl rfl (by omega)) rfl ?_ | refine wy_pu (i := 5) rfl (by kernel_rfl) (y_ix 1 Try.underlying96 (by kernel_rfl) rfl rfl (by omega)) rfl ?_
                      refine wy_2 (i := 6) (j := 12) (by kernel_rfl) ?_ ?_
                      · skip
                        first | refine wo_rd rfl (y_load 2 rfl rfl (v := sl (R.bk o) 0 R.rw R.rw) (R.disk_nth (m := o) (by omega)) (by kernel_rfl)) rfl ?_ | refine wo_rd rfl (y_load 3 rfl rfl (v := sl (R.bk o) 0 R.rw R.rw) (R.disk_nth (m := o) (by omega)) (by kernel_rfl)) rfl ?_
                        refine wy_1 (i := 12) (by kernel_rfl) ?_
                        refine wo_do rfl (d_call (by kernel_rfl) rfl (rep1_spec _ x 64 (by omega))) rfl ?_
                        rintro _ L9 ⟨rfl, hL9⟩
                        rw [hL9]
                        clear hL9
                        first | refine wy_pu (i := 13) rfl (by kernel_rfl) (y_ix1 Try.underlying36 (by kernel_rfl) rfl rfl (by omega)) rfl ?_ | refine wy_pu (i := 13) rfl (by kernel_rfl) (y_ix 1 Try.underlying36 (by kernel_rfl) rfl rfl (by omega)) rfl ?_
                        refine wy_1 (i := 14) (by kernel_rfl) ?_
                        refine wo_do0 rfl (d_store (o + 4) rfl rfl (RD.dk_nth _ (m := o) (by show o < R.n; omega) F) (by rw [Int.toNat_natCast, drow_len]; exact Nat.ble_eq_true_of_le hr') rfl (by kernel_rfl)) (fun _ _ hL => ?_)
                        subst hL
                        refine wy_heap ((bt, row 95 (tv ta tb tc x.toNat)) :: ({ R with f := fun m => if m = (o : Int) then false else R.f m, D := fun m c => if m = (o : Int) ∧ c < ((r + 1 : Nat) : Int) then x else R.D m c } : RD).hp F) ?_ ?_
                        · have hps := put_step { R with f := fun m => if m = (o : Int) then false else R.f m } o r (fun _ => x)
                          have hds := RD.dk_set { R with f := fun m => if m = (o : Int) then false else R.f m, D := fun m c => if m = (o : Int) ∧ c < (r : Int) then x else R.D m c } (m := o) (r := r) (by show o < R.n; omega) F x
                          show _ :: _ :: _ :: _ :: setAt _ o _ = _ :: _ :: _ :: _ :: _
                          refine congrArg (fun z => _ :: _ :: _ :: _ :: z) (hds.trans ?_)
                          exact congrArg (fun z : RD => z.dks ++ F) hps
                        refine wy_nil (by kernel_rfl) ?_
                        refine at_nq ?_
                        refine at_block_normal ?_
                        refine at_then ?_
                        refine wc_region ?_
                        refine wl_pu (y_add rfl rfl (by omega)) rfl ?_
                        refine wl_pu (y_move rfl) rfl ?_
                        refine wl_nil ?_
                        exact at_again (r + 1) hr' (by omega) ⟨rfl, rfl, rfl, rfl, rfl, rfl, rfl, trivial⟩ rfl
                      · skip
                        refine wo_do rfl (d_call (by kernel_rfl) rfl (rep1_spec _ x 64 (by omega))) rfl ?_
                        rintro _ L9 ⟨rfl, hL9⟩
                        rw [hL9]
                        clear hL9
                        refine wy_1 (i := 6) (by kernel_rfl) ?_
                        first | refine wo_rd rfl (y_load 2 rfl rfl (v := sl (R.bk o) 0 R.rw R.rw) (R.disk_nth (m := o) (by omega)) (by kernel_rfl)) rfl ?_ | refine wo_rd rfl (y_load 3 rfl rfl (v := sl (R.bk o) 0 R.rw R.rw) (R.disk_nth (m := o) (by omega)) (by kernel_rfl)) rfl ?_
                        first | refine wy_pu (i := 13) rfl (by kernel_rfl) (y_ix1 Try.underlying36 (by kernel_rfl) rfl rfl (by omega)) rfl ?_ | refine wy_pu (i := 13) rfl (by kernel_rfl) (y_ix 1 Try.underlying36 (by kernel_rfl) rfl rfl (by omega)) rfl ?_
                        refine wy_1 (i := 14) (by kernel_rfl) ?_
                        refine wo_do0 rfl (d_store (o + 4) rfl rfl (RD.dk_nth _ (m := o) (by show o < R.n; omega) F) (by rw [Int.toNat_natCast, drow_len]; exact Nat.ble_eq_true_of_le hr') rfl (by kernel_rfl)) (fun _ _ hL => ?_)
                        subst hL
                        refine wy_heap ((bt, row 95 (tv ta tb tc x.toNat)) :: ({ R with f := fun m => if m = (o : Int) then false else R.f m, D := fun m c => if m = (o : Int) ∧ c < ((r + 1 : Nat) : Int) then x else R.D m c } : RD).hp F) ?_ ?_
                        · have hps := put_step { R with f := fun m => if m = (o : Int) then false else R.f m } o r (fun _ => x)
                          have hds := RD.dk_set { R with f := fun m => if m = (o : Int) then false else R.f m, D := fun m c => if m = (o : Int) ∧ c < (r : Int) then x else R.D m c } (m := o) (r := r) (by show o < R.n; omega) F x
                          show _ :: _ :: _ :: _ :: setAt _ o _ = _ :: _ :: _ :: _ :: _
                          refine congrArg (fun z => _ :: _ :: _ :: _ :: z) (hds.trans ?_)
                          exact congrArg (fun z : RD => z.dks ++ F) hps
                        refine wy_nil (by kernel_rfl) ?_
                        refine at_nq ?_
                        refine at_block_normal ?_
                        refine at_then ?_
                        refine wc_region ?_
                        refine wl_pu (y_add rfl rfl (by omega)) rfl ?_
                        refine wl_pu (y_move rfl) rfl ?_
                        refine wl_nil ?_
                        exact at_again (r + 1) hr' (by omega) ⟨rfl, rfl, rfl, rfl, rfl, rfl, rfl, trivial⟩ rfl
                    · skip
                      refine wo_do rfl (d_call (by kernel_rfl) rfl (rep1_spec _ x 64 (by omega))) rfl ?_
                      rintro _ L9 ⟨rfl, hL9⟩
                      rw [hL9]
                      clear hL9
                      refine wy_1 (i := 3) (by kernel_rfl) ?_
                      first | refine wo_rd rfl (y_load 1 rfl rfl (v := sl R.bd 0 R.n R.cd) rfl (by kernel_rfl)) rfl ?_ | refine wo_rd rfl (y_load 2 rfl rfl (v := sl R.bd 0 R.n R.cd) rfl (by kernel_rfl)) rfl ?_
                      first | refine wy_pu (i := 5) rfl (by kernel_rfl) (y_ix1 Try.underlying96 (by kernel_rfl) rfl rfl (by omega)) rfl ?_ | refine wy_pu (i := 5) rfl (by kernel_rfl) (y_ix 1 Try.underlying96 (by kernel_rfl) rfl rfl (by omega)) rfl ?_
                      refine wy_1 (i := 6) (by kernel_rfl) ?_
                      first | refine wo_rd rfl (y_load 2 rfl rfl (v := sl (R.bk o) 0 R.rw R.rw) (R.disk_nth (m := o) (by omega)) (by kernel_rfl)) rfl ?_ | refine wo_rd rfl (y_load 3 rfl rfl (v := sl (R.bk o) 0 R.rw R.rw) (R.disk_nth (m := o) (by omega)) (by kernel_rfl)) rfl ?_
                      first | refine wy_pu (i := 13) rfl (by kernel_rfl) (y_ix1 Try.underlying36 (by kernel_rfl) rfl rfl (by omega)) rfl ?_ | refine wy_pu (i := 13) rfl (by kernel_rfl) (y_ix 1 Try.underlying36 (by kernel_rfl) rfl rfl (by omega)) rfl ?_
                      refine wy_1 (i := 14) (by kernel_rfl) ?_
                      refine wo_do0 rfl (d_store (o + 4) rfl rfl (RD.dk_nth _ (m := o) (by show o < R.n; omega) F) (by rw [Int.toNat_natCast, drow_len]; exact Nat.ble_eq_true_of_le hr') rfl (by kernel_rfl)) (fun _ _ hL => ?_)
                      subst hL
                      refine wy_heap ((bt, row 95 (tv ta tb tc x.toNat)) :: ({ R with f := fun m => if m = (o : Int) then false else R.f m, D := fun m c => if m = (o : Int) ∧ c < ((r + 1 : Nat) : Int) then x else R.D m c } : RD).hp F) ?_ ?_
                      · have hps := put_step { R with f := fun m => if m = (o : Int) then false else R.f m } o r (fun _ => x)
                        have hds := RD.dk_set { R with f := fun m => if m = (o : Int) then false else R.f m, D := fun m c => if m = (o : Int) ∧ c < (r : Int) then x else R.D m c } (m := o) (r := r) (by show o < R.n; omega) F x
                        show _ :: _ :: _ :: _ :: setAt _ o _ = _ :: _ :: _ :: _ :: _
                        refine congrArg (fun z => _ :: _ :: _ :: _ :: z) (hds.trans ?_)
                        exact congrArg (fun z : RD => z.dks ++ F) hps
                      refine wy_nil (by kernel_rfl) ?_
                      refine at_nq ?_
                      refine at_block_normal ?_
                      refine at_then ?_
                      refine wc_region ?_
                      refine wl_pu (y_add rfl rfl (by omega)) rfl ?_
                      refine wl_pu (y_move rfl) rfl ?_
                      refine wl_nil ?_
                      exact at_again (r + 1) hr' (by omega) ⟨rfl, rfl, rfl, rfl, rfl, rfl, rfl, trivial⟩ rfl
            · skip
              have hre : r = R.rw := by omega
              subst hre
              refine wc_exit ?_
              refine at_then_exit ?_
              refine at_then_exit ?_
              refine at_block_same ?_
              refine at_block_normal ?_
              -- at: join
              refine at_drop ?_
              exact at_join (_, V, (o : Int)) ⟨rs_out hR hall o _ (fun a c ha => if_neg (fun hc => ha hc.1)), .inr ⟨by show (0 : Int) ≤ o; omega, hom.2, if_pos rfl⟩⟩ ⟨rfl, rfl, rfl, rfl, trivial⟩ rfl
          · skip
            refine wc_join (σ := Unit) (fun _ => True) (fun _ => [(1, .slice (some ⟨b0, off, none⟩) ln cp), (5, ptr R.bx 0), (6, int out), (7, int (k : Int)), (8, ptr bt 0), (226, .bool (decide (ta % 4 = 3 ∧ out ≥ 0)))]) (fun _ => (bt, row 95 (tv ta tb tc x.toNat)) :: R.hp F) ?_ ?_
            · skip
              refine wc_region ?_
              first | refine wl_pu (y_fieldAddr0 0 Try.underlying95 rfl rfl (by kernel_rfl) rfl) rfl ?_ | refine wl_pu (y_fieldAddr 0 Try.underlying95 rfl rfl (by kernel_rfl) rfl) rfl ?_
              first | refine wl_rd (y_load 0 rfl rfl rfl (by kernel_rfl)) rfl ?_ | refine wl_rd (y_load 1 rfl rfl rfl (by kernel_rfl)) rfl ?_ | refine wl_rd (y_load 2 rfl rfl rfl (by kernel_rfl)) rfl ?_ | refine wl_rd (y_load 3 rfl rfl rfl (by kernel_rfl)) rfl ?_ | refine wl_rd (y_load 4 rfl rfl rfl (by kernel_rfl)) rfl ?_ | refine wl_rd (y_load 5 rfl rfl rfl (by kernel_rfl)) rfl ?_
              refine wl_pu (y_rem rfl rfl (by omega)) rfl ?_
              refine wl_pu (y_eql rfl rfl) rfl ?_
              refine wl_pu (y_move rfl) rfl ?_
              -- at: guard 4
              refine wl_splitD 231 rfl (fun hc => ?_) (fun hc => ?_)
              · skip
                refine wl_gon rfl rfl ?_
                refine wl_pu (y_move rfl) rfl ?_
                refine wl_gon rfl rfl ?_
                refine wl_pu (y_geq rfl rfl) rfl ?_
                first | refine wl_pu (y_pickT rfl rfl) rfl ?_ | refine wl_pu (y_pickF rfl rfl) rfl ?_
                refine wl_pu (y_assign rfl) rfl ?_
                refine wl_nil ?_
                -- at: join
                exact at_join () trivial ⟨rfl, rfl, rfl, rfl, rfl, by show some _ = some _; simp [hc], trivial⟩ rfl
              · skip
                refine wl_goff rfl rfl rfl rfl ?_
                refine wl_goff rfl rfl rfl rfl ?_
                first | refine wl_pu (y_pickT rfl rfl) rfl ?_ | refine wl_pu (y_pickF rfl rfl) rfl ?_
                refine wl_pu (y_assign rfl) rfl ?_
                refine wl_nil ?_
                -- at: join
                exact at_join () trivial ⟨rfl, rfl, rfl, rfl, rfl, by show some _ = some _; simp [hc], trivial⟩ rfl
            · skip
              rintro _ _
              show WC _ _ _ _ [(1, .slice (some ⟨b0, off, none⟩) ln cp), (5, ptr R.bx 0), (6, int out), (7, int (k : Int)), (8, ptr bt 0), (226, .bool (decide (ta % 4 = 3 ∧ out ≥ 0)))] ((bt, row 95 (tv ta tb tc x.toNat)) :: R.hp F)
              refine wc_condD rfl (fun hc2 => ?_) (fun hc2 => ?_)
              · skip
                have hof : 0 ≤ out ∧ out < R.n ∧ R.f out = false := by
                  rcases hO with ⟨h, _⟩ | h
                  · omega
                  · exact h
                obtain ⟨o, rfl⟩ : ∃ o : Nat, out = (o : Int) := ⟨out.toNat, by omega⟩
                have hoN : o < R.n := by omega
                have hkeep : ∀ r : Nat, RS ({ R with D := fun m c => if m = (o : Int) ∧ c < (r : Int) then V o c else R.D m c } : RD) V := fun r => rs_keep hR hof.2.2 _ (fun a c ha => if_neg (fun hc => ha hc.1))
                refine wc_drop ?_
                refine wc_seq ?_
                refine wc_seq ?_
                refine wc_region ?_
                refine wl_pu (y_move rfl) rfl ?_
                refine wl_pu (y_nil rfl) rfl ?_
                first | refine wl_pu (y_fieldAddr0 0 Try.underlying98 rfl rfl (by kernel_rfl) rfl) rfl ?_ | refine wl_pu (y_fieldAddr 0 Try.underlying98 rfl rfl (by kernel_rfl) rfl) rfl ?_
                first | refine wl_pu (y_fieldAddr0 2 Try.underlying72 rfl rfl (by kernel_rfl) rfl) rfl ?_ | refine wl_pu (y_fieldAddr 2 Try.underlying72 rfl rfl (by kernel_rfl) rfl) rfl ?_
                first | refine wl_rd (y_load 0 rfl rfl rfl (by kernel_rfl)) rfl ?_ | refine wl_rd (y_load 1 rfl rfl rfl (by kernel_rfl)) rfl ?_ | refine wl_rd (y_load 2 rfl rfl rfl (by kernel_rfl)) rfl ?_ | refine wl_rd (y_load 3 rfl rfl rfl (by kernel_rfl)) rfl ?_ | refine wl_rd (y_load 4 rfl rfl rfl (by kernel_rfl)) rfl ?_ | refine wl_rd (y_load 5 rfl rfl rfl (by kernel_rfl)) rfl ?_
                refine wl_pu (y_move rfl) rfl ?_
                refine wl_nil ?_
                refine at_then ?_
                refine wc_block ?_
                -- at: loop
                refine wc_loop (σ := Nat) (fun r => r ≤ R.rw) (fun r => R.rw - r) (fun r => [(1, .slice (some ⟨b0, off, none⟩) ln cp), (5, ptr R.bx 0), (6, int (o : Int)), (7, int (k : Int)), (239, int (R.rw : Int)), (240, int (r : Int))])
                  (fun r => ({ R with D := fun m c => if m = (o : Int) ∧ c < (r : Int) then V o c else R.D m c } : RD).hp F) 0 (Nat.zero_le _) ⟨rfl, rfl, rfl, rfl, rfl, rfl, trivial⟩ ?_ ?_
                · show _ :: _ :: _ :: (_ ++ F) = _ :: _ :: _ :: (_ ++ F)
                  exact congrArg (fun z : Hp => (R.bx, row 98 R.rec_) :: (R.bd, row 36 R.disks) :: (R.bp, row 9 (drow R.sz R.P)) :: (z ++ F)) (dks_zero R o (V o))
                intro r hr
                show WC _ _ _ _ [(1, .slice (some ⟨b0, off, none⟩) ln cp), (5, ptr R.bx 0), (6, int (o : Int)), (7, int (k : Int)), (239, int (R.rw : Int)), (240, int (r : Int))] _
                refine wc_seq ?_
                refine wc_region ?_
                refine wl_pu (y_lss rfl rfl) rfl ?_
                refine wl_nil ?_
                refine at_then ?_
                refine wc_seq ?_
                -- at: cond
                refine wc_condD rfl (fun hrl => ?_) (fun hrl => ?_)
                · skip
                  have hr' : r < R.rw := by omega
                  refine wc_skip ?_
                  refine at_then ?_
                  refine wc_seq ?_
                  refine wc_block ?_
                  refine wc_seq ?_
                  refine wc_region ?_
                  refine wl_pu (y_move rfl) rfl ?_
                  refine wl_pu (y_assign rfl) rfl ?_
                  refine wl_nil ?_
                  refine at_then ?_
                  refine wc_seq ?_
                  refine wc_region ?_
                  refine wl_pu (y_move rfl) rfl ?_
                  refine wl_pu (y_move rfl) rfl ?_
                  refine wl_pu (y_move rfl) rfl ?_
                  -- at: op (call {callee:(value (func 40)), args:[t244, t245, t246], argTypes:[92, 3, 3]})
                  refine wl_do (d_call (by kernel_rfl) rfl (value'_spec ({ R with D := fun m c => if m = (o : Int) ∧ c < (r : Int) then V o c else R.D m c } : RD) V (hkeep r).toRS0 F r ⟨by omega, by show (r : Int) < R.rw; omega⟩ o ⟨by omega, by show (o : Int) < R.n; omega⟩)) rfl ?_
                  rintro _ _ ⟨rfl, rfl⟩
                  refine wl_pu (y_move rfl) rfl ?_
                  refine wl_pu (y_extract rfl rfl) rfl ?_
                  refine wl_pu (y_extract rfl rfl) rfl ?_
                  refine wl_pu (y_assign rfl) rfl ?_
                  refine wl_pu (y_assign rfl) rfl ?_
                  refine wl_nil ?_
                  refine at_then ?_
                  refine wc_seq ?_
                  refine wc_seq ?_
                  refine wc_region ?_
                  refine wl_pu (y_move rfl) rfl ?_
                  first | refine wl_pu (y_notT rfl) rfl ?_ | refine wl_pu (y_notF rfl) rfl ?_ | refine wl_pu (y_not rfl) rfl ?_ | refine wl_pu (y_notB rfl) rfl ?_
                  refine wl_nil ?_
                  refine at_then ?_
                  -- at: cond
                  refine wc_condF rfl ?_
                  refine wc_skip ?_
                  refine at_then ?_
                  refine wc_region ?_
                  refine wl_pu (y_move rfl) rfl ?_
                  refine wl_pu (y_nil rfl) rfl ?_
                  first | refine wl_pu (y_fieldAddr0 3 Try.underlying98 rfl rfl (by kernel_rfl) rfl) rfl ?_ | refine wl_pu (y_fieldAddr 3 Try.underlying98 rfl rfl (by kernel_rfl) rfl) rfl ?_
                  refine wl_rd (y_load 0 rfl rfl (v := sl R.bd 0 R.n R.cd) rfl (by kernel_rfl)) rfl ?_
                  refine wl_pu (y_move rfl) rfl ?_
                  first | refine wl_pu (y_ix1 Try.underlying96 (by kernel_rfl) rfl rfl (by omega)) rfl ?_ | refine wl_pu (y_ix 1 Try.underlying96 (by kernel_rfl) rfl rfl (by omega)) rfl ?_
                  refine wl_rd (y_load 1 rfl rfl (v := sl (R.bk o) 0 R.rw R.rw) (R.disk_nth (m := o) hoN) (by kernel_rfl)) rfl ?_
                  refine wl_pu (y_move rfl) rfl ?_
                  refine wl_pu (y_move rfl) rfl ?_
                  first | refine wl_pu (y_ix1 Try.underlying36 (by kernel_rfl) rfl rfl (by omega)) rfl ?_ | refine wl_pu (y_ix 1 Try.underlying36 (by kernel_rfl) rfl rfl (by omega)) rfl ?_
                  refine wl_do0 (d_store (o + 3) rfl rfl (RD.dk_nth _ (m := o) (by show o < R.n; omega) F) (by rw [Int.toNat_natCast, drow_len]; exact Nat.ble_eq_true_of_le hr') rfl (by kernel_rfl)) (fun _ _ hL => ?_)
                  subst hL
                  refine wl_heap (({ R with D := fun m c => if m = (o : Int) ∧ c < ((r + 1 : Nat) : Int) then V o c else R.D m c } : RD).hp F) ?_ ?_
                  · have hps := put_step R o r (V o)
                    have hds := RD.dk_set { R with D := fun m c => if m = (o : Int) ∧ c < (r : Int) then V o c else R.D m c } (m := o) (r := r) (by show o < R.n; omega) F (V o r)
                    show _ :: _ :: _ :: setAt _ o _ = _ :: _ :: _ :: _
                    refine congrArg (fun z => _ :: _ :: _ :: z) (hds.trans ?_)
                    exact congrArg (fun z : RD => z.dks ++ F) hps
                  refine wl_nil ?_
                  refine at_block_normal ?_
                  refine at_then ?_
                  refine wc_region ?_
                  refine wl_pu (y_add rfl rfl (by omega)) rfl ?_
                  refine wl_pu (y_move rfl) rfl ?_
                  refine wl_nil ?_
                  -- at: round
                  exact at_again (r + 1) hr' (by omega) ⟨rfl, rfl, rfl, rfl, rfl, rfl, trivial⟩ rfl
                · skip
                  have hre : r = R.rw := by omega
                  subst hre
                  have hri := rs_in (hkeep R.rw) (o := o) ⟨by omega, hof.2.1⟩ hof.2.2 (fun c _ hc => if_pos ⟨rfl, hc⟩)
                  refine wc_exit ?_
                  refine at_then_exit ?_
                  refine at_then_exit ?_
                  refine at_block_same ?_
                  refine at_then ?_
                  refine wc_region ?_
                  refine wl_pu (y_move rfl) rfl ?_
                  refine wl_pu (y_move rfl) rfl ?_
                  refine wl_pu (y_nil rfl) rfl ?_
                  first | refine wl_pu (y_fieldAddr0 4 Try.underlying98 rfl rfl (by kernel_rfl) rfl) rfl ?_ | refine wl_pu (y_fieldAddr 4 Try.underlying98 rfl rfl (by kernel_rfl) rfl) rfl ?_
                  refine wl_pu (y_ixA 1 Try.underlying84 (by kernel_rfl) rfl rfl (by omega)) rfl ?_
                  refine wl_do0 (d_store 0 rfl rfl rfl (Nat.ble_eq_true_of_le (by show 4 + ((o : Nat) : Int).toNat * 1 + 1 ≤ 9; omega)) rfl (by kernel_rfl)) (fun _ _ hL => ?_)
                  subst hL
                  refine wl_pu (y_assign rfl) rfl ?_
                  refine wl_nil ?_
                  refine at_block_normal ?_
                  -- at: join
                  refine at_join (_, V, -1) ⟨hri.1, .inl ⟨rfl, hri.2⟩⟩ ⟨rfl, rfl, rfl, rfl, trivial⟩ ?_
                  show _ = (R.bx, row 98 (R.rec_.set (4 + ((o : Nat) : Int).toNat * 1) _)) :: _
                  rw [R.rec_setf (by omega)]
                  rfl
              · skip
                have hem : 0 ≤ tb % (R.sz : Int) ∧ tb % (R.sz : Int) < R.sz := ⟨Int.emod_nonneg _ (by omega), Int.emod_lt_of_pos _ (by omega)⟩
                refine wc_seq ?_
                -- at: draw
                apply wc_draw 10 (pl := [_, _, _, _, _, _, _, _, _, _]) (by kernel_rfl)
                rotate_left
                first | refine hw_pu (y_fieldAddr0 1 Try.underlying95 rfl rfl (by kernel_rfl) rfl) ?_ | refine hw_pu (y_fieldAddr 1 Try.underlying95 rfl rfl (by kernel_rfl) rfl) ?_
                first | refine hw_rd (y_load 0 rfl rfl rfl (by kernel_rfl)) ?_ | refine hw_rd (y_load 1 rfl rfl rfl (by kernel_rfl)) ?_ | refine hw_rd (y_load 2 rfl rfl rfl (by kernel_rfl)) ?_ | refine hw_rd (y_load 3 rfl rfl rfl (by kernel_rfl)) ?_ | refine hw_rd (y_load 4 rfl rfl rfl (by kernel_rfl)) ?_ | refine hw_rd (y_load 5 rfl rfl rfl (by kernel_rfl)) ?_
                first | refine hw_pu (y_conv Try.underlying5 Try.underlying3 rfl (IntWalk.i64_in _ (by omega))) ?_ | refine hw_pu (y_conv Try.underlying5 Try.underlying3 rfl rfl) ?_
                refine hw_pu (y_move rfl) ?_
                refine hw_pu (y_nil rfl) ?_
                first | refine hw_pu (y_fieldAddr0 8 Try.underlying98 rfl rfl (by kernel_rfl) rfl) ?_ | refine hw_pu (y_fieldAddr 8 Try.underlying98 rfl rfl (by kernel_rfl) rfl) ?_
                first | refine hw_rd (y_load 0 rfl rfl rfl (by kernel_rfl)) ?_ | refine hw_rd (y_load 1 rfl rfl rfl (by kernel_rfl)) ?_ | refine hw_rd (y_load 2 rfl rfl rfl (by kernel_rfl)) ?_ | refine hw_rd (y_load 3 rfl rfl rfl (by kernel_rfl)) ?_ | refine hw_rd (y_load 4 rfl rfl rfl (by kernel_rfl)) ?_ | refine hw_rd (y_load 5 rfl rfl rfl (by kernel_rfl)) ?_
                refine hw_pu (y_lenL Try.underlying36 rfl) ?_
                refine hw_pu (y_rem rfl rfl (by omega)) ?_
                refine hw_pu (y_assign rfl) ?_
                refine hw_end [] rfl ?_
                case hB => kernel_rfl
                refine wl_nil ?_
                refine at_nq ?_
                refine at_then ?_
                refine wc_seq ?_
                -- at: draw
                apply wc_draw 14 (pl := [_, _, _, _, _, _, _, _, _, _, _, _, _, _]) (by kernel_rfl)
                rotate_left
                first | refine hw_pu (y_fieldAddr0 2 Try.underlying95 rfl rfl (by kernel_rfl) rfl) ?_ | refine hw_pu (y_fieldAddr 2 Try.underlying95 rfl rfl (by kernel_rfl) rfl) ?_
                first | refine hw_rd (y_load 0 rfl rfl rfl (by kernel_rfl)) ?_ | refine hw_rd (y_load 1 rfl rfl rfl (by kernel_rfl)) ?_ | refine hw_rd (y_load 2 rfl rfl rfl (by kernel_rfl)) ?_ | refine hw_rd (y_load 3 rfl rfl rfl (by kernel_rfl)) ?_ | refine hw_rd (y_load 4 rfl rfl rfl (by kernel_rfl)) ?_ | refine hw_rd (y_load 5 rfl rfl rfl (by kernel_rfl)) ?_
                refine hw_pu (y_rem rfl rfl (by omega)) ?_
                first | refine hw_pu (y_conv Try.underlying5 Try.underlying3 rfl (IntWalk.i64_in _ (by omega))) ?_ | refine hw_pu (y_conv Try.underlying5 Try.underlying3 rfl rfl) ?_
                refine hw_pu (y_add rfl rfl (by omega)) ?_
                refine hw_pu (y_move rfl) ?_
                refine hw_pu (y_nil rfl) ?_
                first | refine hw_pu (y_fieldAddr0 8 Try.underlying98 rfl rfl (by kernel_rfl) rfl) ?_ | refine hw_pu (y_fieldAddr 8 Try.underlying98 rfl rfl (by kernel_rfl) rfl) ?_
                first | refine hw_rd (y_load 0 rfl rfl rfl (by kernel_rfl)) ?_ | refine hw_rd (y_load 1 rfl rfl rfl (by kernel_rfl)) ?_ | refine hw_rd (y_load 2 rfl rfl rfl (by kernel_rfl)) ?_ | refine hw_rd (y_load 3 rfl rfl rfl (by kernel_rfl)) ?_ | refine hw_rd (y_load 4 rfl rfl rfl (by kernel_rfl)) ?_ | refine hw_rd (y_load 5 rfl rfl rfl (by kernel_rfl)) ?_
                refine hw_pu (y_lenL Try.underlying36 rfl) ?_
                refine hw_pu (y_move rfl) ?_
                refine hw_pu (y_sub rfl rfl (by omega)) ?_
                refine hw_pu (y_min rfl rfl) ?_
                refine hw_pu (y_assign rfl) ?_
                refine hw_end [] rfl ?_
                case hB => kernel_rfl
                refine wl_nil ?_
                refine at_nq ?_
                refine at_then ?_
                obtain ⟨a, ha⟩ : ∃ a, tb % (R.sz : Int) = a := ⟨_, rfl⟩
                rw [ha] at hem ⊢
                obtain ⟨m, hm⟩ : ∃ m, min (1 + tc % 4) ((R.sz : Int) - a) = m := ⟨_, rfl⟩
                rw [hm]
                have hmb : 1 ≤ m ∧ m ≤ 4 ∧ a + m ≤ R.sz := by omega
                refine wc_env [(1, .slice (some ⟨b0, off, none⟩) ln cp), (5, ptr R.bx 0), (6, int out), (7, int (k : Int)), (8, ptr bt 0), (13, int a), (14, int m)] ⟨rfl, rfl, rfl, rfl, rfl, rfl, rfl, trivial⟩ ?_
                refine wc_seq ?_
                refine wc_region ?_
                refine wl_pu (y_move rfl) rfl ?_
                refine wl_pu (y_nil rfl) rfl ?_
                first | refine wl_pu (y_fieldAddr0 0 Try.underlying98 rfl rfl (by kernel_rfl) rfl) rfl ?_ | refine wl_pu (y_fieldAddr 0 Try.underlying98 rfl rfl (by kernel_rfl) rfl) rfl ?_
                refine wl_rd (y_loadAgg (k := 3) (vs := geo R.lv R.n R.rw) 1 rfl rfl rfl rfl (by kernel_rfl) (by kernel_rfl)) rfl ?_
                refine wl_pu (y_move rfl) rfl ?_
                refine wl_pu (y_move rfl) rfl ?_
                -- at: op (call {callee:(value (func 41)), args:[t67, t68, t69], argTypes:[72, 3, 3]})
                refine wl_do (d_call (by kernel_rfl) rfl (rows_spec _ hG a m hem.1 ⟨hmb.1, hmb.2.1⟩ (by omega))) rfl ?_
                rintro u _ ⟨ys, fr, hys, hyl, hSy, rfl⟩
                obtain ⟨py, cy, hu⟩ := slF_form hSy
                subst hu
                refine wl_pu (y_lenL Try.underlying74 rfl) rfl ?_
                refine wl_pu (y_move rfl) rfl ?_
                refine wl_nil ?_
                refine at_then ?_
                refine wc_block ?_
                -- at: loop
                refine wc_loop (σ := Nat × (Int → Int → UInt8) × (Int → UInt8) × (Int → Int → UInt8)) (fun s => s.1 ≤ ys.length ∧ RS (R.dp s.2.1 s.2.2.1) s.2.2.2) (fun s => ys.length - s.1)
                  (fun s => [(1, .slice (some ⟨b0, off, none⟩) ln cp), (5, ptr R.bx 0), (6, int out), (7, int (k : Int)), (8, ptr bt 0), (13, int a), (14, int m), (70, .slice py ys.length cy), (71, int (ys.length : Int)), (72, int (s.1 : Int))])
                  (fun s => fr ++ ((bt, row 95 (tv ta tb tc x.toNat)) :: (R.dp s.2.1 s.2.2.1).hp F)) (0, R.D, R.P, V) ⟨Nat.zero_le _, hR⟩ ⟨rfl, rfl, rfl, rfl, rfl, rfl, rfl, rfl, rfl, rfl, trivial⟩ rfl ?_
                rintro ⟨ix, D, P, V1⟩ ⟨hix, hR1⟩
                simp only [] at hix hR1
                show WC _ _ _ _ [(1, .slice (some ⟨b0, off, none⟩) ln cp), (5, ptr R.bx 0), (6, int out), (7, int (k : Int)), (8, ptr bt 0), (13, int a), (14, int m), (70, .slice py ys.length cy), (71, int (ys.length : Int)), (72, int (ix : Int))] (fr ++ ((bt, row 95 (tv ta tb tc x.toNat)) :: (R.dp D P).hp F))
                refine wc_seq ?_
                refine wc_region ?_
                refine wl_pu (y_lss rfl rfl) rfl ?_
                refine wl_nil ?_
                refine at_then ?_
                refine wc_seq ?_
                -- at: cond
                refine wc_condD rfl (fun hixl => ?_) (fun hixl => ?_)
                · skip
                  have hix' : ix < ys.length := by omega
                  obtain ⟨by_, cy2, spy, hpy, rfl, hcy, hly⟩ := slF_cons hSy (by omega)
                  obtain ⟨i0, hi0a, hi0b, hi0r⟩ := hys _ (List.getElem_mem hix')
                  refine wc_heap ((by_, row 3 (ys.map int ++ spy)) :: (bt, row 95 (tv ta tb tc x.toNat)) :: (R.dp D P).hp F) rfl ?_
                  refine wc_env [(1, .slice (some ⟨b0, off, none⟩) ln cp), (5, ptr R.bx 0), (6, int out), (7, int (k : Int)), (8, ptr bt 0), (13, int a), (14, int m), (70, sl by_ 0 ys.length cy2), (71, int (ys.length : Int)), (72, int (ix : Int))] ⟨rfl, rfl, rfl, rfl, rfl, rfl, rfl, by rw [← hpy]; rfl, rfl, rfl, trivial⟩ ?_
                  refine wc_skip ?_
                  refine at_then ?_
                  refine wc_seq ?_
                  refine wc_block ?_
                  refine wc_seq ?_
                  refine wc_region ?_
                  first | refine wl_pu (y_ix1 Try.underlying74 (by kernel_rfl) rfl rfl (by omega)) rfl ?_ | refine wl_pu (y_ix 1 Try.underlying74 (by kernel_rfl) rfl rfl (by omega)) rfl ?_
                  refine wl_rd (y_load 0 rfl rfl (v := int ys[ix]) (by rw [Int.toNat_natCast]; exact ints_at hix') (by kernel_rfl)) rfl ?_
                  obtain ⟨r, hrE⟩ : ∃ r, ys[ix] = r := ⟨_, rfl⟩
                  rw [hrE] at hi0r ⊢
                  have hrb : 0 ≤ r ∧ r < R.rw := by rw [hi0r]; exact atR_lo hG (by omega)
                  refine wl_pu (y_assign rfl) rfl ?_
                  refine wl_nil ?_
                  refine at_then ?_
                  refine wc_seq ?_
                  refine wc_region ?_
                  refine wl_do d_makeMap rfl ?_
                  rintro _ _ ⟨bw, rfl, rfl⟩
                  refine wl_heap ((bw, mrow int (wmap [] fun _ => 0)) :: (by_, row 3 (ys.map int ++ spy)) :: (bt, row 95 (tv ta tb tc x.toNat)) :: (R.dp D P).hp F) rfl ?_
                  refine wl_pu (y_assign rfl) rfl ?_
                  refine wl_nil ?_
                  refine at_then ?_
                  refine wc_seq ?_
                  refine wc_seq ?_
                  refine wc_region ?_
                  refine wl_pu (y_move rfl) rfl ?_
                  refine wl_pu (y_assign rfl) rfl ?_
                  refine wl_nil ?_
                  refine at_then ?_
                  refine wc_block ?_
                  -- at: loop
                  refine wc_loop (σ := Nat × List Int × (Int → UInt8) × (Int → UInt8)) (fun s => (s.1 : Int) ≤ m ∧ Col R.n R.sz r a s.1 s.2.1 s.2.2.1 P s.2.2.2) (fun s => m.toNat - s.1)
                    (fun s => [(1, .slice (some ⟨b0, off, none⟩) ln cp), (5, ptr R.bx 0), (6, int out), (7, int (k : Int)), (8, ptr bt 0), (13, int a), (14, int m), (70, sl by_ 0 ys.length cy2), (71, int (ys.length : Int)), (72, int (ix : Int)), (16, int r), (17, .map (some bw)), (18, int (a + s.1))])
                    (fun s => (bw, mrow int (wmap s.2.1 s.2.2.1)) :: (by_, row 3 (ys.map int ++ spy)) :: (bt, row 95 (tv ta tb tc x.toNat)) :: (R.dp D s.2.2.2).hp F) (0, [], (fun _ => 0), P) ⟨by show ((0 : Nat) : Int) ≤ m; omega, ⟨List.nodup_nil, by simp, fun i h1 h2 _ => by exfalso; have h3 : i < a + ((0 : Nat) : Int) := h2; omega, fun i _ _ => by simp⟩⟩ ⟨rfl, rfl, rfl, rfl, rfl, rfl, rfl, rfl, rfl, rfl, rfl, rfl, by show some _ = some _; simp, trivial⟩ rfl ?_
                  rintro ⟨j, ks, gw, P1⟩ ⟨hj, hC⟩
                  simp only [] at hj hC
                  show WC _ _ _ _ [(1, .slice (some ⟨b0, off, none⟩) ln cp), (5, ptr R.bx 0), (6, int out), (7, int (k : Int)), (8, ptr bt 0), (13, int a), (14, int m), (70, sl by_ 0 ys.length cy2), (71, int (ys.length : Int)), (72, int (ix : Int)), (16, int r), (17, .map (some bw)), (18, int (a + j))] ((bw, mrow int (wmap ks gw)) :: (by_, row 3 (ys.map int ++ spy)) :: (bt, row 95 (tv ta tb tc x.toNat)) :: (R.dp D P1).hp F)
                  have hki : ∀ q ∈ ks, 0 ≤ q ∧ q < 4 := fun q hq => by
                    obtain ⟨i, h1, h2, h3, h4⟩ := hC.src q hq
                    have := dats_in hG _ _ (atM_mem hG (i := i) (by omega))
                    rw [← h4] at this
                    omega
                  refine wc_seq ?_
                  refine wc_seq ?_
                  refine wc_region ?_
                  refine wl_pu (y_move rfl) rfl ?_
                  refine wl_pu (y_move rfl) rfl ?_
                  refine wl_pu (y_move rfl) rfl ?_
                  refine wl_pu (y_add rfl rfl (by omega)) rfl ?_
                  refine wl_pu (y_lss rfl rfl) rfl ?_
                  refine wl_nil ?_
                  refine at_then ?_
                  -- at: cond
                  refine wc_condD rfl (fun hjm => ?_) (fun hjm => ?_)
                  · skip
                    have hij : 0 ≤ a + (j : Int) ∧ a + (j : Int) < (R.rw : Int) * ((R.n : Int) - 1) := by omega
                    have hmi := dats_in hG _ _ (atM_mem hG (i := a + j) hij.1)
                    refine wc_skip ?_
                    refine at_then ?_
                    refine wc_seq ?_
                    refine wc_block ?_
                    refine wc_seq ?_
                    refine wc_region ?_
                    refine wl_pu (y_move rfl) rfl ?_
                    refine wl_pu (y_nil rfl) rfl ?_
                    first | refine wl_pu (y_fieldAddr0 0 Try.underlying98 rfl rfl (by kernel_rfl) rfl) rfl ?_ | refine wl_pu (y_fieldAddr 0 Try.underlying98 rfl rfl (by kernel_rfl) rfl) rfl ?_
                    refine wl_rd (y_loadAgg (k := 3) (vs := geo R.lv R.n R.rw) 3 rfl rfl rfl rfl (by kernel_rfl) (by kernel_rfl)) rfl ?_
                    refine wl_pu (y_move rfl) rfl ?_
                    -- at: op (call {callee:(value (func 42)), args:[t89, t90], argTypes:[72, 3]})
                    refine wl_do (d_call (by kernel_rfl) rfl (at_spec _ hG (a + j) hij)) rfl ?_
                    rintro _ _ ⟨rfl, rfl⟩
                    refine wl_pu (y_move rfl) rfl ?_
                    refine wl_pu (y_extract rfl rfl) rfl ?_
                    refine wl_pu (y_extract rfl rfl) rfl ?_
                    refine wl_pu (y_extract rfl rfl) rfl ?_
                    refine wl_pu (y_assign rfl) rfl ?_
                    refine wl_pu (y_assign rfl) rfl ?_
                    refine wl_pu (y_assign rfl) rfl ?_
                    refine wl_nil ?_
                    refine at_then ?_
                    refine wc_seq ?_
                    refine wc_region ?_
                    refine wl_pu (y_move rfl) rfl ?_
                    refine wl_pu (y_move rfl) rfl ?_
                    refine wl_pu (y_eql rfl rfl) rfl ?_
                    refine wl_nil ?_
                    refine at_then ?_
                    -- at: cond
                    refine wc_condD rfl (fun her => ?_) (fun her => ?_)
                    · skip
                      have hnew := hC.new hG hem.1 (by omega) her
                      obtain ⟨y, hy⟩ := u8_byte (wrap8 ((x.toNat : Int) + IntKind.u8.wrap (a + (j : Int))))
                      refine wc_seq ?_
                      refine wc_region ?_
                      refine wl_pu (y_move rfl) rfl ?_
                      refine wl_pu (y_move rfl) rfl ?_
                      first | refine wl_pu (y_fieldAddr0 3 Try.underlying95 rfl rfl (by kernel_rfl) rfl) rfl ?_ | refine wl_pu (y_fieldAddr 3 Try.underlying95 rfl rfl (by kernel_rfl) rfl) rfl ?_
                      refine wl_rd (y_load 2 rfl rfl (v := .int .u8 (x.toNat : Int)) rfl (by kernel_rfl)) rfl ?_
                      refine wl_pu (y_move rfl) rfl ?_
                      refine wl_pu (v := .int .u8 (IntKind.u8.wrap (a + (j : Int)))) (y_conv Try.underlying3 Try.underlying5 rfl rfl) rfl ?_
                      refine wl_pu (v := .int .u8 (y.toNat : Int)) (by rw [← hy]; exact y_addW rfl rfl) rfl ?_
                      refine wl_do (d_buildSlice [.int .u8 (y.toNat : Int)] Try.underlying24 rfl (built5 _)) rfl ?_
                      rintro _ _ ⟨b1, rfl, rfl⟩
                      refine wl_rd (y_toStr 0 [y] Try.underlying24 Try.underlying5 Try.underlying9 rfl rfl rfl rfl) rfl (wl_drop ?_)
                      refine wl_do (d_call (by kernel_rfl) rfl (rep1_spec _ y 64 (by omega))) rfl ?_
                      rintro _ L9 ⟨rfl, hL9⟩
                      rw [hL9]
                      clear hL9
                      refine wl_do0 (d_mapUpdate (k := atM R.n (a + j)) (v := S (rep y)) 0 rkey Try.underlying102 ⟨by omega, by omega⟩ (wmap_ok gw hC.nodup hki) rfl rfl rfl rfl) (fun _ _ hL => ?_)
                      subst hL
                      have hput : mput (atM R.n (a + j)) (S (rep y)) (wmap ks gw) = wmap (ks ++ [atM R.n (a + j)]) (fun q => if q = atM R.n (a + j) then y else gw q) := by
                        rw [← mput_new hnew, if_pos rfl, wmap_congr (g' := fun q => if q = atM R.n (a + j) then y else gw q) (fun q hq => (if_neg (by rintro rfl; exact hnew hq)).symm)]
                      have hC' := hC.step hG hem.1 (by omega) her y
                      have hki' : ∀ q ∈ ks ++ [atM R.n (a + j)], 0 ≤ q ∧ q < 4 := fun q hq => by
                        rcases List.mem_append.1 hq with hq | hq
                        · exact hki q hq
                        · simp only [List.mem_singleton] at hq
                          omega
                      refine wl_heap ((bw, mrow int (wmap (ks ++ [atM R.n (a + j)]) (fun q => if q = atM R.n (a + j) then y else gw q))) :: (by_, row 3 (ys.map int ++ spy)) :: (bt, row 95 (tv ta tb tc x.toNat)) :: (R.dp D P1).hp F) (by show (bw, mrow int (mput _ _ _)) :: _ = _; rw [hput]) ?_
                      refine wl_nil ?_
                      refine at_then ?_
                      -- at: draw
                      apply wc_draw 9 (pl := [_, _, _, _, _, _, _, _, _]) (by kernel_rfl)
                      rotate_left
                      refine hw_pu (y_move rfl) ?_
                      refine hw_pu (y_nil rfl) ?_
                      first | refine hw_pu (y_fieldAddr0 8 Try.underlying98 rfl rfl (by kernel_rfl) rfl) ?_ | refine hw_pu (y_fieldAddr 8 Try.underlying98 rfl rfl (by kernel_rfl) rfl) ?_
                      refine hw_rd (y_load 3 rfl rfl (v := sl R.bp 0 R.sz R.sz) rfl (by kernel_rfl)) ?_
                      refine hw_pu (y_move rfl) ?_
                      refine hw_pu (y_move rfl) ?_
                      refine hw_pu (y_move rfl) ?_
                      refine hw_rd (y_rlook (u := S []) (v := S (rep y)) (k := atM R.n (a + j)) (l := wmap (ks ++ [atM R.n (a + j)]) (fun q => if q = atM R.n (a + j) then y else gw q)) 0 rkey Try.underlying102 (zeroB_of (by kernel_rfl)) ⟨by omega, by omega⟩ (wmap_ok _ hC'.nodup hki') rfl rfl rfl (by rw [wmap_mem (by simp), if_pos rfl]; rfl)) ?_
                      obtain ⟨iN, hiN⟩ : ∃ i : Nat, a + (j : Int) = (i : Int) := ⟨(a + (j : Int)).toNat, by omega⟩
                      first | refine hw_pu (y_ix1 Try.underlying36 (by kernel_rfl) rfl rfl (by omega)) ?_ | refine hw_pu (y_ix 1 Try.underlying36 (by kernel_rfl) rfl rfl (by omega)) ?_
                      refine hw_end1 rfl ?_
                      case hB => kernel_rfl
                      refine wl_do0 (d_store 5 rfl rfl rfl (by rw [drow_len]; exact Nat.ble_eq_true_of_le (by show (a + (j : Int)).toNat + 1 ≤ R.sz; omega)) rfl (by kernel_rfl)) (fun _ _ hL => ?_)
                      subst hL
                      refine wl_heap ((bw, mrow int (wmap (ks ++ [atM R.n (a + j)]) (fun q => if q = atM R.n (a + j) then y else gw q))) :: (by_, row 3 (ys.map int ++ spy)) :: (bt, row 95 (tv ta tb tc x.toNat)) :: (R.dp D (fun c => if c = a + j then y else P1 c)).hp F) ?_ ?_
                      · show _ :: _ :: _ :: _ :: _ :: (R.bp, row 9 ((drow R.sz P1).set (a + (j : Int)).toNat (S (rep y)))) :: _ = _
                        rw [drow_set, Int.toNat_of_nonneg hij.1]
                        rfl
                      refine wl_nil ?_
                      refine at_nq ?_
                      refine at_block_normal ?_
                      refine at_then ?_
                      refine wc_region ?_
                      refine wl_pu (y_move rfl) rfl ?_
                      refine wl_pu (y_add rfl rfl (by omega)) rfl ?_
                      refine wl_pu (y_assign rfl) rfl ?_
                      refine wl_nil ?_
                      -- at: round
                      exact at_again (j + 1, ks ++ [atM R.n (a + j)], _, _) ⟨by show ((j + 1 : Nat) : Int) ≤ m; omega, hC'⟩ (by show m.toNat - (j + 1) < m.toNat - j; omega) ⟨rfl, rfl, rfl, rfl, rfl, rfl, rfl, rfl, rfl, rfl, rfl, rfl, by show some _ = some _; congr 2; omega, trivial⟩ rfl
                    · skip
                      refine wc_skip ?_
                      refine at_block_normal ?_
                      refine at_then ?_
                      refine wc_region ?_
                      refine wl_pu (y_move rfl) rfl ?_
                      refine wl_pu (y_add rfl rfl (by omega)) rfl ?_
                      refine wl_pu (y_assign rfl) rfl ?_
                      refine wl_nil ?_
                      -- at: round
                      exact at_again (j + 1, ks, gw, P1) ⟨by show ((j + 1 : Nat) : Int) ≤ m; omega, hC.skip her⟩ (by show m.toNat - (j + 1) < m.toNat - j; omega) ⟨rfl, rfl, rfl, rfl, rfl, rfl, rfl, rfl, rfl, rfl, rfl, rfl, by show some _ = some _; congr 2; omega, trivial⟩ rfl
                  · skip
                    have hjm' : (j : Int) = m := by omega
                    have hW : WOk R.n r ks := ⟨fun hc => by
                      have := hC.has i0 hi0a (by omega) hi0r.symm
                      rw [hc] at this; simp at this, hC.nodup, fun q hq => by
                      obtain ⟨i, h1, h2, h3, h4⟩ := hC.src q hq
                      rw [h4, ← h3]
                      exact atM_mem hG (by omega)⟩
                    refine wc_perm (hp_in3 (R.dp D P1) _ _ _ _).symm ?_
                    refine wc_exit ?_
                    refine at_then_exit ?_
                    refine at_then_exit ?_
                    refine at_block_same ?_
                    refine at_then ?_
                    refine wc_seq ?_
                    refine wc_region ?_
                    refine wl_pu (y_move rfl) rfl ?_
                    refine wl_pu (y_move rfl) rfl ?_
                    refine wl_pu (y_move rfl) rfl ?_
                    -- at: op (call {callee:(value (func 43)), args:[t118, t119, t120], argTypes:[92, 3, 102]})
                    refine wl_do (d_call (by kernel_rfl) rfl (makes'_spec (R.dp D P1) V1 ⟨hR1.G, hR1.one, hR1.bal, hR1.dsk⟩ _ r hrb bw ks gw hW)) rfl ?_
                    rintro _ _ ⟨bo, ko, go, rfl, hM, rfl⟩
                    refine wl_perm (hp_in3 (R.dp D P1) _ _ _ _) ?_
                    obtain ⟨rN, rfl⟩ : ∃ rN : Nat, r = (rN : Int) := ⟨r.toNat, by omega⟩
                    refine wl_pu (y_move rfl) rfl ?_
                    refine wl_pu (y_extract rfl rfl) rfl ?_
                    refine wl_pu (y_extract rfl rfl) rfl ?_
                    refine wl_pu (y_assign rfl) rfl ?_
                    refine wl_pu (y_assign rfl) rfl ?_
                    refine wl_nil ?_
                    refine at_then ?_
                    refine wc_seq ?_
                    refine wc_seq ?_
                    refine wc_region ?_
                    refine wl_pu (y_move rfl) rfl ?_
                    first | refine wl_pu (y_notT rfl) rfl ?_ | refine wl_pu (y_notF rfl) rfl ?_ | refine wl_pu (y_not rfl) rfl ?_ | refine wl_pu (y_notB rfl) rfl ?_
                    refine wl_pu (y_move rfl) rfl ?_
                    -- at: guard 2
                    refine wl_gon rfl rfl ?_
                    refine wl_pu (y_move rfl) rfl ?_
                    refine wl_gon rfl rfl ?_
                    refine wl_pu (y_lss rfl rfl) rfl ?_
                    first | refine wl_pu (y_pickT rfl rfl) rfl ?_ | refine wl_pu (y_pickF rfl rfl) rfl ?_
                    refine wl_pu (y_move rfl) rfl ?_
                    -- at: guard 6
                    refine wl_splitD 130 rfl (fun hc => absurd hc ((by omega))) (fun _ => ?_)
                    refine wl_gon rfl rfl ?_
                    refine wl_pu (y_move rfl) rfl ?_
                    refine wl_gon rfl rfl ?_
                    refine wl_pu (y_move rfl) rfl ?_
                    refine wl_gon rfl rfl ?_
                    refine wl_pu (y_nil rfl) rfl ?_
                    refine wl_gon rfl rfl ?_
                    first | refine wl_pu (y_fieldAddr0 0 Try.underlying98 rfl rfl (by kernel_rfl) rfl) rfl ?_ | refine wl_pu (y_fieldAddr 0 Try.underlying98 rfl rfl (by kernel_rfl) rfl) rfl ?_
                    refine wl_gon rfl rfl ?_
                    first | refine wl_pu (y_fieldAddr0 2 Try.underlying72 rfl rfl (by kernel_rfl) rfl) rfl ?_ | refine wl_pu (y_fieldAddr 2 Try.underlying72 rfl rfl (by kernel_rfl) rfl) rfl ?_
                    refine wl_gon rfl rfl ?_
                    first | refine wl_rd (y_load 0 rfl rfl rfl (by kernel_rfl)) rfl ?_ | refine wl_rd (y_load 1 rfl rfl rfl (by kernel_rfl)) rfl ?_ | refine wl_rd (y_load 2 rfl rfl rfl (by kernel_rfl)) rfl ?_ | refine wl_rd (y_load 3 rfl rfl rfl (by kernel_rfl)) rfl ?_ | refine wl_rd (y_load 4 rfl rfl rfl (by kernel_rfl)) rfl ?_ | refine wl_rd (y_load 5 rfl rfl rfl (by kernel_rfl)) rfl ?_
                    refine wl_gon rfl rfl ?_
                    refine wl_pu (y_geq rfl rfl) rfl ?_
                    first | refine wl_pu (y_pickT rfl rfl) rfl ?_ | refine wl_pu (y_pickF rfl rfl) rfl ?_
                    refine wl_nil ?_
                    refine at_then ?_
                    -- at: cond
                    refine wc_condD rfl (fun hc => absurd hc ((by show ¬ (rN : Int) ≥ R.rw; omega))) (fun _ => ?_)
                    refine wc_skip ?_
                    refine at_then ?_
                    refine wc_seq ?_
                    refine wc_region ?_
                    refine wl_pu (y_move rfl) rfl ?_
                    -- at: op (range 102 t139)
                    refine wl_do (d_range 0 Try.underlying102 rfl rfl) rfl ?_
                    rintro _ _ ⟨rr, rfl, rfl⟩
                    refine wl_nil ?_
                    refine at_then ?_
                    refine wc_block ?_
                    -- at: loop
                    have hD0 : (fun q c => if c = (rN : Int) ∧ q ∈ (([] : List Nat).map fun z => keyAt (wmap ko go) z) then go q else D q c) = D := by
                      funext q c
                      simp
                    refine wc_loop (σ := List Nat) (fun s => ∃ left, (s ++ left).Perm (List.range (wmap ko go).length)) (fun s => (wmap ko go).length - s.length)
                      (fun _ => [(1, .slice (some ⟨b0, off, none⟩) ln cp), (5, ptr R.bx 0), (6, int out), (7, int (k : Int)), (8, ptr bt 0), (13, int a), (14, int m), (70, sl by_ 0 ys.length cy2), (71, int (ys.length : Int)), (72, int (ix : Int)), (16, int (rN : Int)), (140, ptr rr 0)])
                      (fun s => (rr, itr bo (wmap ko go).length s) :: (bo, mrow int (wmap ko go)) :: (by_, row 3 (ys.map int ++ spy)) :: (bt, row 95 (tv ta tb tc x.toNat)) :: (R.dp (fun q c => if c = (rN : Int) ∧ q ∈ (s.map fun z => keyAt (wmap ko go) z) then go q else D q c) P1).hp F) [] ⟨List.range _, List.Perm.refl _⟩ ⟨rfl, rfl, rfl, rfl, rfl, rfl, rfl, rfl, rfl, rfl, rfl, rfl, trivial⟩
                      (congrArg (fun z => (rr, itr bo (wmap ko go).length []) :: (bo, mrow int (wmap ko go)) :: (by_, row 3 (ys.map int ++ spy)) :: (bt, row 95 (tv ta tb tc x.toNat)) :: (R.dp z P1).hp F) hD0) ?_
                    rintro seen ⟨left, hp⟩
                    show WC _ _ _ _ [(1, .slice (some ⟨b0, off, none⟩) ln cp), (5, ptr R.bx 0), (6, int out), (7, int (k : Int)), (8, ptr bt 0), (13, int a), (14, int m), (70, sl by_ 0 ys.length cy2), (71, int (ys.length : Int)), (72, int (ix : Int)), (16, int (rN : Int)), (140, ptr rr 0)] ((rr, itr bo (wmap ko go).length seen) :: (bo, mrow int (wmap ko go)) :: (by_, row 3 (ys.map int ++ spy)) :: (bt, row 95 (tv ta tb tc x.toNat)) :: (R.dp (fun q c => if c = (rN : Int) ∧ q ∈ (seen.map fun z => keyAt (wmap ko go) z) then go q else D q c) P1).hp F)
                    refine wc_seq ?_
                    refine wc_region ?_
                    refine wl_do (d_next 0 1 rfl rfl rfl) rfl ?_
                    rintro _ _ (⟨rfl, rfl, hall⟩ | ⟨q, kq, v, hq, hns, rfl, rfl⟩)
                    · skip
                      have hkk := wmap_keys ko go (seen_all hp hall)
                      have hDe : (fun q c => if c = (rN : Int) ∧ q ∈ ko then go q else D q c) = (fun q c => if c = (rN : Int) ∧ q ∈ (seen.map fun z => keyAt (wmap ko go) z) then go q else D q c) := by
                        funext q c
                        simp only [hkk.mem_iff]
                      have hRS := rs_write hR1 hrb hW hM P1 (fun i h1 h2 => hC.val i h1 (by rw [← hsz]; exact h2))
                      refine wl_pu (y_extract rfl rfl) rfl ?_
                      refine wl_nil ?_
                      refine at_then ?_
                      refine wc_seq ?_
                      -- at: cond
                      refine wc_condF rfl ?_
                      refine wc_exit ?_
                      refine at_then_exit ?_
                      refine at_then_exit ?_
                      refine at_block_same ?_
                      refine at_block_normal ?_
                      refine at_then ?_
                      refine wc_region ?_
                      refine wl_pu (y_add rfl rfl (by omega)) rfl ?_
                      refine wl_pu (y_move rfl) rfl ?_
                      refine wl_nil ?_
                      -- at: round
                      refine at_drop (at_drop ?_)
                      exact at_again (ix + 1, _, P1, _) ⟨hix', hRS⟩ (by show ys.length - (ix + 1) < ys.length - ix; omega) ⟨rfl, rfl, rfl, rfl, rfl, rfl, rfl, by rw [hpy]; rfl, rfl, rfl, trivial⟩ (congrArg (fun z => (by_, row 3 (ys.map int ++ spy)) :: (bt, row 95 (tv ta tb tc x.toNat)) :: (R.dp z P1).hp F) hDe)
                    · skip
                      obtain ⟨hp', hlt⟩ := seen_step hp (List.getElem?_eq_some_iff.1 hq).1 hns
                      have hkq := keyAt_of hq
                      obtain ⟨hqk, rfl⟩ := wmap_at hq
                      have hkm : kq ∈ ko := List.mem_of_getElem? hqk
                      have hkf : 0 ≤ kq ∧ kq < R.n ∧ R.f kq = true := by
                        rcases (hM.mem kq).1 hkm with ⟨h3, h4⟩ | ⟨h3, h4⟩
                        · have := dats_in hG _ _ (hW.sub _ h3)
                          exact ⟨this.1, this.2, h4⟩
                        · have := par_lo hG (rN : Int)
                          rw [h3]
                          exact ⟨this.1, this.2, h4⟩
                      obtain ⟨kN, rfl⟩ : ∃ kN : Nat, kq = (kN : Int) := ⟨kq.toNat, by omega⟩
                      have hkN : kN < R.n := by omega
                      refine wl_pu (y_extract rfl rfl) rfl ?_
                      refine wl_nil ?_
                      refine at_then ?_
                      refine wc_seq ?_
                      -- at: cond
                      refine wc_condT rfl ?_
                      refine wc_skip ?_
                      refine at_then ?_
                      refine wc_block ?_
                      refine wc_seq ?_
                      refine wc_region ?_
                      -- at: op (entry t140)
                      refine wl_rd (y_entry 0 1 q hq rfl rfl rfl) rfl ?_
                      refine wl_pu (y_extract rfl rfl) rfl ?_
                      refine wl_pu (y_extract rfl rfl) rfl ?_
                      refine wl_pu (y_assign rfl) rfl ?_
                      refine wl_pu (y_assign rfl) rfl ?_
                      refine wl_nil ?_
                      refine at_then ?_
                      refine wc_seq ?_
                      refine wc_seq ?_
                      refine wc_region ?_
                      refine wl_pu (y_move rfl) rfl ?_
                      refine wl_pu (y_lss rfl rfl) rfl ?_
                      refine wl_pu (y_move rfl) rfl ?_
                      -- at: guard 2
                      refine wl_splitD 148 rfl (fun hc => absurd hc ((by omega))) (fun _ => ?_)
                      refine wl_gon rfl rfl ?_
                      refine wl_pu (y_move rfl) rfl ?_
                      refine wl_gon rfl rfl ?_
                      refine wl_pu (y_move rfl) rfl ?_
                      refine wl_gon rfl rfl ?_
                      refine wl_pu (y_nil rfl) rfl ?_
                      refine wl_gon rfl rfl ?_
                      first | refine wl_pu (y_fieldAddr0 0 Try.underlying98 rfl rfl (by kernel_rfl) rfl) rfl ?_ | refine wl_pu (y_fieldAddr 0 Try.underlying98 rfl rfl (by kernel_rfl) rfl) rfl ?_
                      refine wl_gon rfl rfl ?_
                      first | refine wl_pu (y_fieldAddr0 1 Try.underlying72 rfl rfl (by kernel_rfl) rfl) rfl ?_ | refine wl_pu (y_fieldAddr 1 Try.underlying72 rfl rfl (by kernel_rfl) rfl) rfl ?_
                      refine wl_gon rfl rfl ?_
                      first | refine wl_rd (y_load 0 rfl rfl rfl (by kernel_rfl)) rfl ?_ | refine wl_rd (y_load 1 rfl rfl rfl (by kernel_rfl)) rfl ?_ | refine wl_rd (y_load 2 rfl rfl rfl (by kernel_rfl)) rfl ?_ | refine wl_rd (y_load 3 rfl rfl rfl (by kernel_rfl)) rfl ?_ | refine wl_rd (y_load 4 rfl rfl rfl (by kernel_rfl)) rfl ?_ | refine wl_rd (y_load 5 rfl rfl rfl (by kernel_rfl)) rfl ?_
                      refine wl_gon rfl rfl ?_
                      refine wl_pu (y_geq rfl rfl) rfl ?_
                      first | refine wl_pu (y_pickT rfl rfl) rfl ?_ | refine wl_pu (y_pickF rfl rfl) rfl ?_
                      refine wl_pu (y_move rfl) rfl ?_
                      -- at: guard 11
                      refine wl_splitD 157 rfl (fun hc => absurd hc ((by show ¬ (kN : Int) ≥ R.n; omega))) (fun _ => ?_)
                      refine wl_gon rfl rfl ?_
                      refine wl_pu (y_move rfl) rfl ?_
                      refine wl_gon rfl rfl ?_
                      refine wl_pu (y_move rfl) rfl ?_
                      refine wl_gon rfl rfl ?_
                      refine wl_pu (y_nil rfl) rfl ?_
                      refine wl_gon rfl rfl ?_
                      first | refine wl_pu (y_fieldAddr0 4 Try.underlying98 rfl rfl (by kernel_rfl) rfl) rfl ?_ | refine wl_pu (y_fieldAddr 4 Try.underlying98 rfl rfl (by kernel_rfl) rfl) rfl ?_
                      refine wl_gon rfl rfl ?_
                      refine wl_pu (y_ixA 1 Try.underlying84 (by kernel_rfl) rfl rfl (by omega)) rfl ?_
                      refine wl_gon rfl rfl ?_
                      refine wl_rd (y_load 4 rfl rfl (v := .bool true) (by rw [← hkf.2.2]; exact R.in_nth (by omega)) (by kernel_rfl)) rfl ?_
                      refine wl_gon rfl rfl ?_
                      first | refine wl_pu (y_notT rfl) rfl ?_ | refine wl_pu (y_notF rfl) rfl ?_ | refine wl_pu (y_not rfl) rfl ?_ | refine wl_pu (y_notB rfl) rfl ?_
                      first | refine wl_pu (y_pickT rfl rfl) rfl ?_ | refine wl_pu (y_pickF rfl rfl) rfl ?_
                      refine wl_nil ?_
                      refine at_then ?_
                      -- at: cond
                      refine wc_condF rfl ?_
                      refine wc_skip ?_
                      refine at_then ?_
                      refine wc_region ?_
                      refine wl_pu (y_move rfl) rfl ?_
                      refine wl_pu (y_nil rfl) rfl ?_
                      first | refine wl_pu (y_fieldAddr0 3 Try.underlying98 rfl rfl (by kernel_rfl) rfl) rfl ?_ | refine wl_pu (y_fieldAddr 3 Try.underlying98 rfl rfl (by kernel_rfl) rfl) rfl ?_
                      refine wl_rd (y_load 4 rfl rfl (v := sl R.bd 0 R.n R.cd) rfl (by kernel_rfl)) rfl ?_
                      refine wl_pu (y_move rfl) rfl ?_
                      first | refine wl_pu (y_ix1 Try.underlying96 (by kernel_rfl) rfl rfl (by omega)) rfl ?_ | refine wl_pu (y_ix 1 Try.underlying96 (by kernel_rfl) rfl rfl (by omega)) rfl ?_
                      refine wl_rd (y_load 5 rfl rfl (v := sl (R.bk kN) 0 R.rw R.rw) (R.disk_nth (m := kN) hkN) (by kernel_rfl)) rfl ?_
                      refine wl_pu (y_move rfl) rfl ?_
                      refine wl_pu (y_move rfl) rfl ?_
                      first | refine wl_pu (y_ix1 Try.underlying36 (by kernel_rfl) rfl rfl (by omega)) rfl ?_ | refine wl_pu (y_ix 1 Try.underlying36 (by kernel_rfl) rfl rfl (by omega)) rfl ?_
                      refine wl_do0 (d_store (kN + 7) rfl rfl (RD.dk_nth _ (m := kN) (by show kN < R.n; exact hkN) F) (by rw [Int.toNat_natCast, drow_len]; exact Nat.ble_eq_true_of_le (by show rN + 1 ≤ R.rw; omega)) rfl (by kernel_rfl)) (fun _ _ hL => ?_)
                      subst hL
                      refine wl_heap ((rr, itr bo (wmap ko go).length (seen ++ [q])) :: (bo, mrow int (wmap ko go)) :: (by_, row 3 (ys.map int ++ spy)) :: (bt, row 95 (tv ta tb tc x.toNat)) :: (R.dp (fun z9 c9 => if c9 = (rN : Int) ∧ z9 ∈ ((seen ++ [q]).map fun z => keyAt (wmap ko go) z) then go z9 else D z9 c9) P1).hp F) ?_ ?_
                      · have hps : (R.dp (fun z9 c9 => if c9 = (rN : Int) ∧ z9 ∈ (seen.map fun z => keyAt (wmap ko go) z) then go z9 else D z9 c9) P1).put kN rN (go kN) = R.dp (fun z9 c9 => if c9 = (rN : Int) ∧ z9 ∈ ((seen ++ [q]).map fun z => keyAt (wmap ko go) z) then go z9 else D z9 c9) P1 := by
                          unfold RD.put
                          refine congrArg (fun z => R.dp z P1) ?_
                          funext z9 c9
                          show (if z9 = (kN : Int) ∧ c9 = (rN : Int) then go kN else if c9 = (rN : Int) ∧ z9 ∈ (seen.map fun z => keyAt (wmap ko go) z) then go z9 else D z9 c9) = if c9 = (rN : Int) ∧ z9 ∈ ((seen ++ [q]).map fun z => keyAt (wmap ko go) z) then go z9 else D z9 c9
                          rw [List.map_append, List.map_cons, List.map_nil, hkq]
                          by_cases hc : c9 = (rN : Int)
                          · by_cases hz : z9 = (kN : Int)
                            · subst hz
                              rw [if_pos ⟨rfl, hc⟩, if_pos ⟨hc, by simp⟩]
                            · rw [if_neg (fun h => hz h.1)]
                              by_cases hs : z9 ∈ (seen.map fun z => keyAt (wmap ko go) z)
                              · rw [if_pos ⟨hc, hs⟩, if_pos ⟨hc, List.mem_append_left _ hs⟩]
                              · rw [if_neg (fun h => hs h.2), if_neg (fun h => by
                                  rcases List.mem_append.1 h.2 with h | h
                                  · exact hs h
                                  · exact hz (by simpa using h))]
                          · rw [if_neg (fun h => hc h.2), if_neg (fun h => hc h.1), if_neg (fun h => hc h.1)]
                        have hds := RD.dk_set (R.dp (fun z9 c9 => if c9 = (rN : Int) ∧ z9 ∈ (seen.map fun z => keyAt (wmap ko go) z) then go z9 else D z9 c9) P1) (m := kN) (r := rN) (by show kN < R.n; exact hkN) F (go kN)
                        show _ :: _ :: _ :: _ :: _ :: _ :: _ :: setAt _ kN _ = _ :: _ :: _ :: _ :: _ :: _ :: _ :: _
                        refine congrArg (fun z => _ :: _ :: _ :: _ :: _ :: _ :: _ :: z) (hds.trans ?_)
                        exact congrArg (fun z : RD => z.dks ++ F) hps
                      refine wl_nil ?_
                      refine at_block_normal ?_
                      -- at: round
                      exact at_again (seen ++ [q]) ⟨_, hp'⟩ (by simp; omega) ⟨rfl, rfl, rfl, rfl, rfl, rfl, rfl, rfl, rfl, rfl, rfl, rfl, trivial⟩ rfl
                · skip
                  refine wc_exit ?_
                  refine at_then_exit ?_
                  refine at_then_exit ?_
                  refine at_block_same ?_
                  refine at_block_normal ?_
                  -- at: join
                  refine at_dropL (at_drop ?_)
                  exact at_join (R.dp D P, V1, out) ⟨hR1, hO⟩ ⟨rfl, rfl, rfl, rfl, trivial⟩ rfl
      · skip
        rintro ⟨R', V', out'⟩ ⟨hR', hO'⟩
        simp only [] at hR' hO'
        show WC _ _ _ _ [(1, .slice (some ⟨b0, off, none⟩) ln cp), (5, ptr R'.bx 0), (6, int out'), (7, int (k : Int))] (R'.hp F)
        refine wc_seq ?_
        refine wc_region ?_
        refine wl_pu (y_move rfl) rfl ?_
        -- at: op (call {callee:(value (func 44)), args:[t268], argTypes:[92]})
        refine wl_do (d_call (by kernel_rfl) rfl (reads'_spec R' V' hR' F)) rfl ?_
        rintro _ _ ⟨rfl, rfl⟩
        first | refine wl_pu (y_notT rfl) rfl ?_ | refine wl_pu (y_notF rfl) rfl ?_ | refine wl_pu (y_not rfl) rfl ?_ | refine wl_pu (y_notB rfl) rfl ?_
        refine wl_nil ?_
        refine at_then ?_
        -- at: cond
        refine wc_condF rfl ?_
        refine wc_skip ?_
        refine at_block_normal ?_
        refine at_then ?_
        refine wc_region ?_
        refine wl_pu (y_move rfl) rfl ?_
        refine wl_pu (y_add rfl rfl (by omega)) rfl ?_
        refine wl_pu (y_assign rfl) rfl ?_
        refine wl_nil ?_
        -- at: round
        exact at_again (k + 1, R', V', out') ⟨by show k + 1 ≤ 16; omega, hR', hO'⟩ (by show 16 - (k + 1) < 16 - k; omega) ⟨rfl, rfl, rfl, rfl, trivial⟩ rfl
    · skip
      refine wc_exit ?_
      refine at_then_exit ?_
      refine at_then_exit ?_
      refine at_block_same ?_
      refine at_then ?_
      refine wc_seq ?_
      refine wc_region ?_
      refine wl_pu (y_move rfl) rfl ?_
      -- at: op (call {callee:(value (func 44)), args:[t271], argTypes:[92]})
      refine wl_do (d_call (by kernel_rfl) rfl (reads'_spec R V hR F)) rfl ?_
      rintro _ _ ⟨rfl, rfl⟩
      refine wl_pu (y_assign rfl) rfl ?_
      refine wl_nil ?_
      refine at_then ?_
      refine wc_ret ?_
      -- at: ret
      refine at_drop (at_drop (at_drop (at_dropL ?_)))
      refine at_ret1 rfl rfl ?_
      exact ⟨rfl, rfl⟩
  · skip
    refine wl_goff rfl rfl rfl rfl ?_
    refine wl_goff rfl rfl rfl rfl ?_
    first | refine wl_pu (y_pickT rfl rfl) rfl ?_ | refine wl_pu (y_pickF rfl rfl) rfl ?_
    refine wl_nil ?_
    refine at_then ?_
    -- at: cond
    refine wc_condF rfl ?_
    refine wc_exit ?_
    refine at_then_exit ?_
    refine at_then_exit ?_
    refine at_block_same ?_
    refine at_then ?_
    refine wc_seq ?_
    refine wc_region ?_
    refine wl_pu (y_move rfl) rfl ?_
    -- at: op (call {callee:(value (func 44)), args:[t271], argTypes:[92]})
    refine wl_do (d_call (by kernel_rfl) rfl (reads'_spec R V hR F)) rfl ?_
    rintro _ _ ⟨rfl, rfl⟩
    refine wl_pu (y_assign rfl) rfl ?_
    refine wl_nil ?_
    refine at_then ?_
    refine wc_ret ?_
    -- at: ret
    refine at_drop (at_drop (at_drop (at_dropL ?_)))
    refine at_ret1 rfl rfl ?_
    exact ⟨rfl, rfl⟩
end Go.Proofs.Ytkpndnjhfocheaa
