/- TopSupers' walk: the disks are dealt out, and laid empty. -/
import Derived.Test.YtkpndnjhfocheaaSupersT
namespace Go.Proofs.Ytkpndnjhfocheaa
open Go.SL
variable {X : Inhabited SL.Outside}

theorem spc_setst (ar me lv mb rw ev ep : Int) (f : Nat → Int) (i : Nat) (h : i < 4) (x : Int) : (spc ar me lv mb rw ev ep f 0).set (7 + i) (int x) = spc ar me lv mb rw ev ep (upf f i x) 0 := by
  rcases i with _|_|_|_|i <;> first | rfl | omega
theorem spc_congr {ar me lv mb rw ev ep : Int} {f f' : Nat → Int} (h : ∀ i, i < 4 → f i = f' i) : spc ar me lv mb rw ev ep f 0 = spc ar me lv mb rw ev ep f' 0 := by
  simp only [spc, h 0 (by omega), h 1 (by omega), h 2 (by omega), h 3 (by omega)]
theorem spc_len (ar me lv mb rw ev ep : Int) (f : Nat → Int) : (spc ar me lv mb rw ev ep f 0).length = 12 := rfl

theorem odd_or (y : Nat) : (y ||| 1) % 2 = 1 := by
  simp
theorem sbd_st {lv mb rw : Int} {st : Int → Nat → Int} {me ev : Nat → Int} {dk : Nat → Int} {iv : Nat → Bool} {d : Nat} (m : Nat) (h : m < 4) : nth (mdc (sbd lv mb rw st me ev d) dk iv) (7 + m) = some (int (st (ev d) m)) := by
  rcases m with _|_|_|_|m <;> first | rfl | omega
theorem Perm.onto {n : Nat} {me : Nat → Int} (h : Perm n me) (hn : 2 ≤ n ∧ n ≤ 4) {k : Nat} (hk : k < n) : ∃ j, j < n ∧ me j = k := by
  refine Classical.byContradiction fun hc => ?_
  have hno : ∀ j, j < n → me j ≠ k := fun j hj he => hc ⟨j, hj, he⟩
  have l := h.lo
  have i := h.inj
  rcases (by omega : n = 2 ∨ n = 3 ∨ n = 4) with rfl | rfl | rfl
  · have a0 := hno 0 (by omega); have a1 := hno 1 (by omega)
    have b0 := l 0 (by omega); have b1 := l 1 (by omega)
    have c01 : me 0 ≠ me 1 := fun e => absurd (i 0 1 (by omega) (by omega) e) (by omega)
    omega
  · have a0 := hno 0 (by omega); have a1 := hno 1 (by omega); have a2 := hno 2 (by omega)
    have b0 := l 0 (by omega); have b1 := l 1 (by omega); have b2 := l 2 (by omega)
    have c01 : me 0 ≠ me 1 := fun e => absurd (i 0 1 (by omega) (by omega) e) (by omega)
    have c02 : me 0 ≠ me 2 := fun e => absurd (i 0 2 (by omega) (by omega) e) (by omega)
    have c12 : me 1 ≠ me 2 := fun e => absurd (i 1 2 (by omega) (by omega) e) (by omega)
    omega
  · have a0 := hno 0 (by omega); have a1 := hno 1 (by omega); have a2 := hno 2 (by omega); have a3 := hno 3 (by omega)
    have b0 := l 0 (by omega); have b1 := l 1 (by omega); have b2 := l 2 (by omega); have b3 := l 3 (by omega)
    have c01 : me 0 ≠ me 1 := fun e => absurd (i 0 1 (by omega) (by omega) e) (by omega)
    have c02 : me 0 ≠ me 2 := fun e => absurd (i 0 2 (by omega) (by omega) e) (by omega)
    have c03 : me 0 ≠ me 3 := fun e => absurd (i 0 3 (by omega) (by omega) e) (by omega)
    have c12 : me 1 ≠ me 2 := fun e => absurd (i 1 2 (by omega) (by omega) e) (by omega)
    have c13 : me 1 ≠ me 3 := fun e => absurd (i 1 3 (by omega) (by omega) e) (by omega)
    have c23 : me 2 ≠ me 3 := fun e => absurd (i 2 3 (by omega) (by omega) e) (by omega)
    omega
/-- What is known behind the disks' laying out, and all through. -/
structure Pre (kind puts sm dead tear by_ : Int) : Prop where
  k : 0 ≤ kind ∧ kind < 256
  p : 0 ≤ puts ∧ puts < 256
  s : 0 ≤ sm ∧ sm < 256
  d : 0 ≤ dead ∧ dead < 256
  t : 0 ≤ tear ∧ tear < 65536
  b : 0 ≤ by_ ∧ by_ < 256

/-- The environment ahead of the events. -/
abbrev envE (tear by_ g : Int) (n b15 b17 b22 : Nat) (T W want e : Int) : Env :=
  [(5, .int .u16 tear), (6, .int .u8 by_), (15, ptr b15 0), (16, int g), (17, sl b17 0 n n), (22, sl b22 0 n n), (24, int T), (25, int W), (26, int want), (27, int e)]
abbrev hpE (lv mb rw : Int) (n b15 b17 b22 : Nat) (me : Nat → Int) (c : Nat → List UInt8) (F : Hp) : Hp :=
  (b22, row 77 (frow (n * 2) fun q => S (c q))) :: (b17, row 3 (frow n (fint me))) :: (b15, row 72 (geo lv mb rw)) :: F

set_option maxHeartbeats 4000000 in
theorem supers_spec (F : Hp) (kind puts sm dead tear by_ : Int) (po : Option Addr) (lo co : Nat) (hA : Pre kind puts sm dead tear by_) (hU : U16s F po lo) :
    Ctr Try.prog 5 [.int .u8 kind, .int .u8 puts, .int .u8 sm, .int .u8 dead, .slice po lo co, .int .u16 tear, .int .u8 by_] F (fun v L' => v = .bool true ∧ L' = F) := by
  obtain ⟨hk, hpu, hs, hd, ht, hby⟩ := hA
  obtain ⟨yb, rfl⟩ : ∃ yb : Nat, by_ = (yb : Int) := ⟨by_.toNat, by omega⟩
  have hG := shape_ok kind
  obtain ⟨n, hn⟩ : ∃ n : Nat, 2 + kind % 3 = (n : Int) := ⟨(2 + kind % 3).toNat, by omega⟩
  have hn4 : 2 ≤ n ∧ n ≤ 4 := by omega
  refine spec_body Try.func5 Try.ntmps5 rfl rfl ?_
  refine wc_seq ?_
  refine wc_region ?_
  refine wl_pu (y_assign rfl) rfl ?_
  refine wl_nil ?_
  refine at_then ?_
  refine wc_seq ?_
  refine wc_region ?_
  refine wl_pu (y_move rfl) rfl ?_
  -- at: op (call {callee:(value (func 33)), args:[t46], argTypes:[5]})
  refine wl_do (d_call (by kernel_rfl) rfl (shape_spec _ kind hk)) rfl ?_
  rintro _ L9 ⟨rfl, hL9⟩
  rw [hL9]
  clear hL9
  refine wl_do (d_alloc (z := .agg #[int 0, int 0, int 0]) (zeroB_of (by kernel_rfl))) rfl ?_
  rintro _ _ ⟨b15, rfl, rfl⟩
  rw [hn] at hG ⊢
  generalize hlv : shLv kind = lv at hG ⊢
  generalize hrw : 2 + kind / 3 % 8 * 2 = rw' at hG ⊢
  refine wl_do0 (d_storeAgg (k := 3) 0 rfl rfl rfl (by decide) rfl rfl (by kernel_rfl)) (fun _ _ hL => ?_)
  subst hL
  refine wl_heap ((b15, row 72 (geo lv n rw')) :: F) rfl ?_
  refine wl_nil ?_
  refine at_then ?_
  refine wc_seq ?_
  refine wc_region ?_
  refine wl_pu (y_move rfl) rfl ?_
  first | refine wl_pu (y_conv Try.underlying5 Try.underlying3 rfl (IntWalk.i64_in _ (by omega))) rfl ?_ | refine wl_pu (y_conv Try.underlying5 Try.underlying3 rfl rfl) rfl ?_
  first | refine wl_pu (y_fieldAddr0 1 Try.underlying72 rfl rfl (by kernel_rfl) rfl) rfl ?_ | refine wl_pu (y_fieldAddr 1 Try.underlying72 rfl rfl (by kernel_rfl) rfl) rfl ?_
  first | refine wl_rd (y_load 0 rfl rfl rfl (by kernel_rfl)) rfl ?_ | refine wl_rd (y_load 1 rfl rfl rfl (by kernel_rfl)) rfl ?_ | refine wl_rd (y_load 2 rfl rfl rfl (by kernel_rfl)) rfl ?_ | refine wl_rd (y_load 3 rfl rfl rfl (by kernel_rfl)) rfl ?_ | refine wl_rd (y_load 4 rfl rfl rfl (by kernel_rfl)) rfl ?_ | refine wl_rd (y_load 5 rfl rfl rfl (by kernel_rfl)) rfl ?_
  refine wl_pu (y_add rfl rfl (by omega)) rfl ?_
  refine wl_pu (y_rem rfl rfl (by omega)) rfl ?_
  generalize hg : dead % ((n : Int) + 1) = g
  refine wl_pu (y_assign rfl) rfl ?_
  refine wl_nil ?_
  refine at_then ?_
  refine wc_seq ?_
  refine wc_region ?_
  first | refine wl_pu (y_fieldAddr0 1 Try.underlying72 rfl rfl (by kernel_rfl) rfl) rfl ?_ | refine wl_pu (y_fieldAddr 1 Try.underlying72 rfl rfl (by kernel_rfl) rfl) rfl ?_
  first | refine wl_rd (y_load 0 rfl rfl rfl (by kernel_rfl)) rfl ?_ | refine wl_rd (y_load 1 rfl rfl rfl (by kernel_rfl)) rfl ?_ | refine wl_rd (y_load 2 rfl rfl rfl (by kernel_rfl)) rfl ?_ | refine wl_rd (y_load 3 rfl rfl rfl (by kernel_rfl)) rfl ?_ | refine wl_rd (y_load 4 rfl rfl rfl (by kernel_rfl)) rfl ?_ | refine wl_rd (y_load 5 rfl rfl rfl (by kernel_rfl)) rfl ?_
  refine wl_do (d_make (z := int 0) (by_ := 8) Try.underlying74 (zeroB_of (by kernel_rfl)) (by kernel_rfl) rfl (by kernel_rfl) rfl rfl (by omega)) rfl ?_
  rintro _ _ ⟨b17, rfl, rfl⟩
  rw [Int.toNat_natCast]
  refine wl_heap ((b17, row 3 (frow n (fint fun _ => 0))) :: (b15, row 72 (geo lv n rw')) :: F) (by rw [zeros, frow_zeros]; rfl) ?_
  refine wl_pu (y_assign rfl) rfl ?_
  refine wl_nil ?_
  refine at_then ?_
  refine wc_seq ?_
  refine wc_seq ?_
  refine wc_region ?_
  refine wl_pu (y_move rfl) rfl ?_
  refine wl_pu (y_lenL Try.underlying74 rfl) rfl ?_
  refine wl_pu (y_move rfl) rfl ?_
  refine wl_nil ?_
  refine at_then ?_
  refine wc_block ?_
  -- at: loop
  refine wc_loop (σ := Nat) (fun i => i ≤ n) (fun i => n - i) (fun i => [(1, .int .u8 puts), (2, .int .u8 sm), (4, .slice po lo co), (5, .int .u16 tear), (6, .int .u8 yb), (15, ptr b15 0), (16, int g), (17, sl b17 0 n n), (58, int n), (59, int (i : Int))])
    (fun i => (b17, row 3 (frow n (fint fun q => if q < i then (q : Int) else 0))) :: (b15, row 72 (geo lv n rw')) :: F) 0 (by omega) ⟨rfl, rfl, rfl, rfl, rfl, rfl, rfl, rfl, rfl, rfl, trivial⟩ rfl ?_
  intro i hi
  show WC _ _ _ _ [(1, .int .u8 puts), (2, .int .u8 sm), (4, .slice po lo co), (5, .int .u16 tear), (6, .int .u8 yb), (15, ptr b15 0), (16, int g), (17, sl b17 0 n n), (58, int n), (59, int (i : Int))] _
  refine wc_seq ?_
  refine wc_region ?_
  refine wl_pu (y_lss rfl rfl) rfl ?_
  refine wl_nil ?_
  refine at_then ?_
  refine wc_seq ?_
  -- at: cond
  refine wc_condD rfl (fun hin => ?_) (fun hin => ?_)
  · skip
    refine wc_skip ?_
    refine at_then ?_
    refine wc_seq ?_
    refine wc_block ?_
    refine wc_seq ?_
    refine wc_region ?_
    refine wl_pu (y_move rfl) rfl ?_
    refine wl_pu (y_assign rfl) rfl ?_
    refine wl_nil ?_
    refine at_then ?_
    refine wc_region ?_
    refine wl_pu (y_move rfl) rfl ?_
    refine wl_pu (y_move rfl) rfl ?_
    refine wl_pu (y_move rfl) rfl ?_
    first | refine wl_pu (y_ix1 Try.underlying74 (by kernel_rfl) rfl rfl (by omega)) rfl ?_ | refine wl_pu (y_ix 1 Try.underlying74 (by kernel_rfl) rfl rfl (by omega)) rfl ?_
    refine wl_do0 (d_store 0 rfl rfl rfl (by rw [frow_len]; exact Nat.ble_eq_true_of_le (by omega)) rfl (by kernel_rfl)) (fun _ _ hL => ?_)
    subst hL
    refine wl_heap ((b17, row 3 (frow n (fint fun q => if q < i + 1 then (q : Int) else 0))) :: (b15, row 72 (geo lv n rw')) :: F) (by
      simp only [setAt]
      rw [frow_set, Int.toNat_natCast, fint_upf]
      refine congrArg (fun m => (b17, row 3 (frow n (fint m))) :: (b15, row 72 (geo lv n rw')) :: F) ?_
      funext q
      simp only [upf]
      by_cases e : q = i
      · rw [if_pos e, if_pos (by omega), e]
      · rw [if_neg e]
        by_cases h : q < i
        · rw [if_pos h, if_pos (by omega)]
        · rw [if_neg h, if_neg (by omega)]) ?_
    refine wl_nil ?_
    refine at_block_normal ?_
    refine at_then ?_
    refine wc_region ?_
    refine wl_pu (y_add rfl rfl (by omega)) rfl ?_
    refine wl_pu (y_move rfl) rfl ?_
    refine wl_nil ?_
    -- at: round
    exact at_again (i + 1) (by omega) (by omega) ⟨rfl, rfl, rfl, rfl, rfl, rfl, rfl, rfl, rfl, rfl, trivial⟩ rfl
  · skip
    have hie : i = n := by omega
    subst hie
    refine wc_exit ?_
    refine at_then_exit ?_
    refine at_then_exit ?_
    refine at_block_same ?_
    refine at_then ?_
    refine wc_seq ?_
    refine wc_seq ?_
    refine wc_region ?_
    refine wl_pu (y_move rfl) rfl ?_
    refine wl_pu (y_lenL Try.underlying74 rfl) rfl ?_
    refine wl_pu (y_move rfl) rfl ?_
    refine wl_nil ?_
    refine at_then ?_
    refine wc_block ?_
    -- at: loop
    refine wc_loop (σ := Nat × (Nat → Int)) (fun s => s.1 ≤ i ∧ Perm i s.2) (fun s => i - s.1) (fun s => [(1, .int .u8 puts), (2, .int .u8 sm), (4, .slice po lo co), (5, .int .u16 tear), (6, .int .u8 yb), (15, ptr b15 0), (16, int g), (17, sl b17 0 i i), (68, int i), (69, int (s.1 : Int))])
      (fun s => (b17, row 3 (frow i (fint s.2))) :: (b15, row 72 (geo lv i rw')) :: F) (0, fun q => if q < i then (q : Int) else 0) ⟨by omega, ⟨fun j hj => by show 0 ≤ (if j < i then (j : Int) else 0) ∧ (if j < i then (j : Int) else 0) < i; rw [if_pos hj]; omega, fun a b ha hb hab => by
        have hab' : (if a < i then (a : Int) else 0) = (if b < i then (b : Int) else 0) := hab
        rw [if_pos ha, if_pos hb] at hab'
        omega⟩⟩ ⟨rfl, rfl, rfl, rfl, rfl, rfl, rfl, rfl, rfl, rfl, trivial⟩ rfl ?_
    rintro ⟨j, me⟩ ⟨hj, hP⟩
    simp only [] at hj hP
    show WC _ _ _ _ [(1, .int .u8 puts), (2, .int .u8 sm), (4, .slice po lo co), (5, .int .u16 tear), (6, .int .u8 yb), (15, ptr b15 0), (16, int g), (17, sl b17 0 i i), (68, int i), (69, int (j : Int))] ((b17, row 3 (frow i (fint me))) :: (b15, row 72 (geo lv i rw')) :: F)
    refine wc_seq ?_
    refine wc_region ?_
    refine wl_pu (y_lss rfl rfl) rfl ?_
    refine wl_nil ?_
    refine at_then ?_
    refine wc_seq ?_
    -- at: cond
    refine wc_condD rfl (fun hjn => ?_) (fun hjn => ?_)
    · skip
      refine wc_skip ?_
      refine at_then ?_
      refine wc_seq ?_
      refine wc_block ?_
      refine wc_seq ?_
      refine wc_region ?_
      refine wl_pu (y_move rfl) rfl ?_
      refine wl_pu (y_assign rfl) rfl ?_
      refine wl_nil ?_
      refine at_then ?_
      refine wc_seq ?_
      refine wc_region ?_
      refine wl_pu (y_move rfl) rfl ?_
      refine wl_pu (y_move rfl) rfl ?_
      refine wl_pu (y_move rfl) rfl ?_
      refine wl_pu (y_move rfl) rfl ?_
      refine wl_pu (y_lenL Try.underlying74 rfl) rfl ?_
      refine wl_pu (y_move rfl) rfl ?_
      refine wl_pu (y_sub rfl rfl (by omega)) rfl ?_
      -- at: op (call {callee:(value (func 10)), args:[t73, t74, t78], argTypes:[27, 3, 3]})
      refine wl_do (d_call (by kernel_rfl) rfl (share_spec _ po lo co j ((i : Int) - j) (hU.mono (fun x hx => List.mem_cons_of_mem _ (List.mem_cons_of_mem _ hx))) (by omega) (by omega))) rfl ?_
      rintro _ _ ⟨⟨r, rfl, hr0, hr1⟩, rfl⟩
      refine wl_pu (y_add rfl rfl (by omega)) rfl ?_
      refine wl_pu (y_assign rfl) rfl ?_
      refine wl_nil ?_
      refine at_then ?_
      -- at: draw
      obtain ⟨k, hk'⟩ : ∃ k : Nat, (j : Int) + r = (k : Int) := ⟨((j : Int) + r).toNat, by omega⟩
      rw [hk']
      apply wc_draw 13 (pl := [_, _, _, _, _, _, _, _, _, _, _, _, _]) (by kernel_rfl)
      rotate_left
      refine hw_pu (y_move rfl) ?_
      refine hw_pu (y_move rfl) ?_
      refine hw_pu (y_move rfl) ?_
      refine hw_pu (y_move rfl) ?_
      refine hw_pu (y_move rfl) ?_
      refine hw_pu (y_move rfl) ?_
      first | refine hw_pu (y_ix1 Try.underlying74 (by kernel_rfl) rfl rfl (by omega)) ?_ | refine hw_pu (y_ix 1 Try.underlying74 (by kernel_rfl) rfl rfl (by omega)) ?_
      refine hw_rd (y_load 0 rfl rfl (v := int (me k)) (by rw [Int.toNat_natCast]; exact frow_at _ (by omega)) (by kernel_rfl)) ?_
      refine hw_pu (y_move rfl) ?_
      refine hw_pu (y_move rfl) ?_
      first | refine hw_pu (y_ix1 Try.underlying74 (by kernel_rfl) rfl rfl (by omega)) ?_ | refine hw_pu (y_ix 1 Try.underlying74 (by kernel_rfl) rfl rfl (by omega)) ?_
      refine hw_rd (y_load 0 rfl rfl (v := int (me j)) (by rw [Int.toNat_natCast]; exact frow_at _ (by omega)) (by kernel_rfl)) ?_
      first | refine hw_pu (y_ix1 Try.underlying74 (by kernel_rfl) rfl rfl (by omega)) ?_ | refine hw_pu (y_ix 1 Try.underlying74 (by kernel_rfl) rfl rfl (by omega)) ?_
      refine hw_end3 rfl ?_
      case hB => kernel_rfl
      refine wl_do0 (d_store 0 rfl rfl rfl (by rw [frow_len]; exact Nat.ble_eq_true_of_le (by omega)) rfl (by kernel_rfl)) (fun _ _ hL => ?_)
      subst hL
      refine wl_heap ((b17, row 3 (frow i (fint (upf me j (me k))))) :: (b15, row 72 (geo lv i rw')) :: F) (by simp only [setAt]; rw [frow_set, Int.toNat_natCast, fint_upf]) ?_
      first | refine wl_pu (y_ix1 Try.underlying74 (by kernel_rfl) rfl rfl (by omega)) rfl ?_ | refine wl_pu (y_ix 1 Try.underlying74 (by kernel_rfl) rfl rfl (by omega)) rfl ?_
      refine wl_do0 (d_store 0 rfl rfl rfl (by rw [frow_len]; exact Nat.ble_eq_true_of_le (by omega)) rfl (by kernel_rfl)) (fun _ _ hL => ?_)
      subst hL
      refine wl_heap ((b17, row 3 (frow i (fint (upf (upf me j (me k)) k (me j))))) :: (b15, row 72 (geo lv i rw')) :: F) (by simp only [setAt]; rw [frow_set, Int.toNat_natCast, fint_upf]) ?_
      refine wl_nil ?_
      refine at_nq ?_
      refine at_block_normal ?_
      refine at_then ?_
      refine wc_region ?_
      refine wl_pu (y_add rfl rfl (by omega)) rfl ?_
      refine wl_pu (y_move rfl) rfl ?_
      refine wl_nil ?_
      -- at: round
      exact at_again (j + 1, upf (upf me j (me k)) k (me j)) ⟨by show j + 1 ≤ i; omega, hP.swap (by omega) (by omega)⟩ (by show i - (j + 1) < i - j; omega) ⟨rfl, rfl, rfl, rfl, rfl, rfl, rfl, rfl, rfl, rfl, trivial⟩ rfl
    · skip
      refine wc_exit ?_
      refine at_then_exit ?_
      refine at_then_exit ?_
      refine at_block_same ?_
      refine at_then ?_
      refine wc_seq ?_
      refine wc_region ?_
      -- at: op (call {callee:(value (func 34)), args:[c:(string {data:[0]}), c:(int i64 64)], argTypes:[9, 3]})
      refine wl_do (d_call (by kernel_rfl) rfl (rep1_spec _ 0 64 (by omega))) rfl ?_
      rintro _ _ ⟨rfl, rfl⟩
      refine wl_pu (y_assign rfl) rfl ?_
      refine wl_nil ?_
      refine at_then ?_
      refine wc_seq ?_
      refine wc_region ?_
      first | refine wl_pu (y_fieldAddr0 1 Try.underlying72 rfl rfl (by kernel_rfl) rfl) rfl ?_ | refine wl_pu (y_fieldAddr 1 Try.underlying72 rfl rfl (by kernel_rfl) rfl) rfl ?_
      first | refine wl_rd (y_load 0 rfl rfl rfl (by kernel_rfl)) rfl ?_ | refine wl_rd (y_load 1 rfl rfl rfl (by kernel_rfl)) rfl ?_ | refine wl_rd (y_load 2 rfl rfl rfl (by kernel_rfl)) rfl ?_ | refine wl_rd (y_load 3 rfl rfl rfl (by kernel_rfl)) rfl ?_ | refine wl_rd (y_load 4 rfl rfl rfl (by kernel_rfl)) rfl ?_ | refine wl_rd (y_load 5 rfl rfl rfl (by kernel_rfl)) rfl ?_
      -- at: op (makeSlice 76 t98 t98)
      refine wl_do (d_makeN (a := S []) 32 2 Try.underlying76 (z := .agg #[S [], S []]) (zeroB_of (by kernel_rfl)) (by kernel_rfl) rfl (by decide) (by kernel_rfl) rfl rfl (by omega)) rfl ?_
      rintro _ _ ⟨b22, rfl, rfl⟩
      rw [Int.toNat_natCast]
      refine wl_heap ((b22, row 77 (frow (i * 2) fun _ => S [])) :: (b17, row 3 (frow i (fint me))) :: (b15, row 72 (geo lv i rw')) :: F) (by rw [frow_zeros]) ?_
      refine wl_pu (y_assign rfl) rfl ?_
      refine wl_nil ?_
      refine at_then ?_
      refine wc_seq ?_
      refine wc_seq ?_
      refine wc_region ?_
      refine wl_pu (y_move rfl) rfl ?_
      refine wl_pu (y_lenL Try.underlying76 rfl) rfl ?_
      refine wl_pu (y_move rfl) rfl ?_
      refine wl_nil ?_
      refine at_then ?_
      refine wc_block ?_
      -- at: loop
      refine wc_loop (σ := Nat) (fun m => m ≤ i) (fun m => i - m) (fun m => [(1, .int .u8 puts), (2, .int .u8 sm), (5, .int .u16 tear), (6, .int .u8 yb), (15, ptr b15 0), (16, int g), (17, sl b17 0 i i), (21, S noughts64), (22, sl b22 0 i i), (101, int i), (102, int (m : Int))])
        (fun m => (b22, row 77 (frow (i * 2) fun q => if q < m * 2 then S noughts64 else S [])) :: (b17, row 3 (frow i (fint me))) :: (b15, row 72 (geo lv i rw')) :: F) 0 (by omega) ⟨rfl, rfl, rfl, rfl, rfl, rfl, rfl, rfl, rfl, rfl, rfl, trivial⟩ rfl ?_
      intro m hm
      show WC _ _ _ _ [(1, .int .u8 puts), (2, .int .u8 sm), (5, .int .u16 tear), (6, .int .u8 yb), (15, ptr b15 0), (16, int g), (17, sl b17 0 i i), (21, S noughts64), (22, sl b22 0 i i), (101, int i), (102, int (m : Int))] _
      refine wc_seq ?_
      refine wc_region ?_
      refine wl_pu (y_lss rfl rfl) rfl ?_
      refine wl_nil ?_
      refine at_then ?_
      refine wc_seq ?_
      -- at: cond
      refine wc_condD rfl (fun hmn => ?_) (fun hmn => ?_)
      · skip
        refine wc_skip ?_
        refine at_then ?_
        refine wc_seq ?_
        refine wc_block ?_
        refine wc_seq ?_
        refine wc_region ?_
        refine wl_pu (y_move rfl) rfl ?_
        refine wl_pu (y_assign rfl) rfl ?_
        refine wl_nil ?_
        refine at_then ?_
        refine wc_region ?_
        refine wl_pu (y_move rfl) rfl ?_
        refine wl_pu (y_move rfl) rfl ?_
        refine wl_pu (y_move rfl) rfl ?_
        refine wl_pu (y_move rfl) rfl ?_
        -- at: op (build 77 [(0, t107), (1, t108)])
        refine wl_pu (y_build [S noughts64, S noughts64] rfl (by kernel_rfl)) rfl ?_
        refine wl_pu (y_ix 2 Try.underlying76 (by kernel_rfl) rfl rfl (by omega)) rfl ?_
        refine wl_do0 (d_storeAgg (k := 2) (vs := [S noughts64, S noughts64]) 0 rfl rfl rfl (by rw [frow_len]; omega) rfl rfl (by kernel_rfl)) (fun _ _ hL => ?_)
        subst hL
        refine wl_heap ((b22, row 77 (frow (i * 2) fun q => if q < (m + 1) * 2 then S noughts64 else S [])) :: (b17, row 3 (frow i (fint me))) :: (b15, row 72 (geo lv i rw')) :: F) (by
          simp only [setAt]
          rw [show 0 + (m : Int).toNat * 2 = m * 2 by omega, frow_set2 _ _ _ (by omega)]
          refine congrArg (fun c => (b22, row 77 (frow (i * 2) c)) :: (b17, row 3 (frow i (fint me))) :: (b15, row 72 (geo lv i rw')) :: F) ?_
          funext q
          simp only [upf]
          by_cases e : q = m * 2 + 1
          · rw [if_pos e, if_pos (by omega)]
          · rw [if_neg e]
            by_cases e' : q = m * 2
            · rw [if_pos e', if_pos (by omega)]
            · rw [if_neg e']
              by_cases h : q < m * 2
              · rw [if_pos h, if_pos (by omega)]
              · rw [if_neg h, if_neg (by omega)]) ?_
        refine wl_nil ?_
        refine at_block_normal ?_
        refine at_then ?_
        refine wc_region ?_
        refine wl_pu (y_add rfl rfl (by omega)) rfl ?_
        refine wl_pu (y_move rfl) rfl ?_
        refine wl_nil ?_
        -- at: round
        exact at_again (m + 1) (by omega) (by omega) ⟨rfl, rfl, rfl, rfl, rfl, rfl, rfl, rfl, rfl, rfl, rfl, trivial⟩ rfl
      · skip
        have hme : m = i := by omega
        subst hme
        refine wc_exit ?_
        refine at_then_exit ?_
        refine at_then_exit ?_
        refine at_block_same ?_
        refine at_then ?_
        refine wc_seq ?_
        refine wc_region ?_
        refine wl_pu (y_move rfl) rfl ?_
        refine wl_pu (y_rem rfl rfl (by omega)) rfl ?_
        first | refine wl_pu (y_conv Try.underlying5 Try.underlying3 rfl (IntWalk.i64_in _ (by omega))) rfl ?_ | refine wl_pu (y_conv Try.underlying5 Try.underlying3 rfl rfl) rfl ?_
        refine wl_pu (y_add rfl rfl (by omega)) rfl ?_
        refine wl_pu (y_assign rfl) rfl ?_
        refine wl_nil ?_
        refine at_then ?_
        refine wc_seq ?_
        refine wc_region ?_
        refine wl_pu (y_move rfl) rfl ?_
        first | refine wl_pu (y_conv Try.underlying5 Try.underlying3 rfl (IntWalk.i64_in _ (by omega))) rfl ?_ | refine wl_pu (y_conv Try.underlying5 Try.underlying3 rfl rfl) rfl ?_
        first | refine wl_pu (y_fieldAddr0 1 Try.underlying72 rfl rfl (by kernel_rfl) rfl) rfl ?_ | refine wl_pu (y_fieldAddr 1 Try.underlying72 rfl rfl (by kernel_rfl) rfl) rfl ?_
        first | refine wl_rd (y_load 0 rfl rfl rfl (by kernel_rfl)) rfl ?_ | refine wl_rd (y_load 1 rfl rfl rfl (by kernel_rfl)) rfl ?_ | refine wl_rd (y_load 2 rfl rfl rfl (by kernel_rfl)) rfl ?_ | refine wl_rd (y_load 3 rfl rfl rfl (by kernel_rfl)) rfl ?_ | refine wl_rd (y_load 4 rfl rfl rfl (by kernel_rfl)) rfl ?_ | refine wl_rd (y_load 5 rfl rfl rfl (by kernel_rfl)) rfl ?_
        refine wl_pu (y_add rfl rfl (by omega)) rfl ?_
        refine wl_pu (y_rem rfl rfl (by omega)) rfl ?_
        refine wl_pu (y_assign rfl) rfl ?_
        refine wl_nil ?_
        refine at_then ?_
        refine wc_seq ?_
        refine wc_region ?_
        refine wl_pu (y_assign rfl) rfl ?_
        refine wl_nil ?_
        refine at_then ?_
        refine wc_seq ?_
        refine wc_seq ?_
        refine wc_region ?_
        refine wl_pu (y_assign rfl) rfl ?_
        refine wl_nil ?_
        refine at_then ?_
        refine wc_block ?_
        -- at: loop
        generalize hT : 1 + puts % 8 = T
        generalize hW : sm % ((m : Int) + 1) = W
        have hT8 : 1 ≤ T ∧ T ≤ 8 := by omega
        clear hin hjn hmn
        refine wc_loop (σ := Int × (Nat → List UInt8) × (Nat → Nat) × (Nat → Int) × Int) (fun s => 1 ≤ s.1 ∧ ((s.1 ≤ T ∧ Inv X lv m rw' g T m me s.1 0 s.2.1 s.2.2.1 s.2.2.2.1 s.2.2.2.2) ∨ (s.1 = T + 1 ∧ FinD X lv m rw' g T m me s.2.1 s.2.2.1 s.2.2.2.1 s.2.2.2.2))) (fun s => (T + 1 - s.1).toNat)
          (fun s => [(5, .int .u16 tear), (6, .int .u8 yb), (15, ptr b15 0), (16, int g), (17, sl b17 0 m m), (22, sl b22 0 m m), (24, int T), (25, int W), (26, int s.2.2.2.2), (27, int s.1)]) (fun s => (b22, row 77 (frow (m * 2) fun q => S (s.2.1 q))) :: (b17, row 3 (frow m (fint me))) :: (b15, row 72 (geo lv m rw')) :: F)
          (1, fun _ => noughts64, fun _ => 0, fun _ => 0, 0) ⟨by omega, .inl ⟨hT8.1, Inv.begin fun _ => rfl⟩⟩ ⟨rfl, rfl, rfl, rfl, rfl, rfl, rfl, rfl, rfl, rfl, trivial⟩ (congrArg (fun r => (b22, row 77 r) :: (b17, row 3 (frow m (fint me))) :: (b15, row 72 (geo lv m rw')) :: F) (frow_congr fun q hq => by rw [if_pos hq])) ?_
        rintro ⟨e, c, s, ev, want⟩ ⟨he1, hI⟩
        simp only [] at he1 hI
        show WC _ _ _ _ [(5, .int .u16 tear), (6, .int .u8 yb), (15, ptr b15 0), (16, int g), (17, sl b17 0 m m), (22, sl b22 0 m m), (24, int T), (25, int W), (26, int want), (27, int e)] ((b22, row 77 (frow (m * 2) fun q => S (c q))) :: (b17, row 3 (frow m (fint me))) :: (b15, row 72 (geo lv m rw')) :: F)
        refine wc_seq ?_
        refine wc_seq ?_
        refine wc_region ?_
        refine wl_pu (y_move rfl) rfl ?_
        refine wl_pu (y_move rfl) rfl ?_
        refine wl_pu (y_leq rfl rfl) rfl ?_
        refine wl_nil ?_
        refine at_then ?_
        -- at: cond
        refine wc_condD rfl (fun heT => ?_) (fun heT => ?_)
        · skip
          have hI0 : Inv X lv m rw' g T m me e 0 c s ev want := by
            rcases hI with hI | hI
            · exact hI.2
            · omega
          clear hI
          refine wc_skip ?_
          refine at_then ?_
          refine wc_seq ?_
          refine wc_block ?_
          refine wc_seq ?_
          refine wc_region ?_
          refine wl_rd (y_loadAgg (k := 3) (vs := geo lv m rw') 2 rfl rfl rfl rfl (by kernel_rfl) (by kernel_rfl)) rfl ?_
          refine wl_pu (y_move rfl) rfl ?_
          refine wl_pu (y_move rfl) rfl ?_
          -- at: op (build 80 [(0, c:(int i64 7)), (2, t127), (3, t128), (4, t129)])
          refine wl_pu (y_build [int 7, int 0, int lv, int m, int rw', int e, int e, int 0, int 0, int 0, int 0, int 0] rfl (by kernel_rfl)) rfl ?_
          refine wl_do (d_alloc (z := .agg #[int 0, int 0, int 0, int 0, int 0, int 0, int 0, int 0, int 0, int 0, int 0, int 0]) (zeroB_of (by kernel_rfl))) rfl ?_
          rintro _ _ ⟨b28, rfl, rfl⟩
          refine wl_do0 (d_storeAgg (k := 12) 0 rfl rfl rfl (by decide) rfl rfl (by kernel_rfl)) (fun _ _ hL => ?_)
          subst hL
          refine wl_nil ?_
          refine at_then ?_
          refine wc_seq ?_
          refine wc_seq ?_
          refine wc_region ?_
          first | refine wl_pu (y_fieldAddr0 1 Try.underlying72 rfl rfl (by kernel_rfl) rfl) rfl ?_ | refine wl_pu (y_fieldAddr 1 Try.underlying72 rfl rfl (by kernel_rfl) rfl) rfl ?_
          first | refine wl_rd (y_load 0 rfl rfl rfl (by kernel_rfl)) rfl ?_ | refine wl_rd (y_load 1 rfl rfl rfl (by kernel_rfl)) rfl ?_ | refine wl_rd (y_load 2 rfl rfl rfl (by kernel_rfl)) rfl ?_ | refine wl_rd (y_load 3 rfl rfl rfl (by kernel_rfl)) rfl ?_ | refine wl_rd (y_load 4 rfl rfl rfl (by kernel_rfl)) rfl ?_ | refine wl_rd (y_load 5 rfl rfl rfl (by kernel_rfl)) rfl ?_
          refine wl_pu (y_move rfl) rfl ?_
          refine wl_nil ?_
          refine at_then ?_
          refine wc_block ?_
          -- at: loop
          refine wc_loop (σ := Nat) (fun q => q ≤ m) (fun q => m - q) (fun q => [(5, .int .u16 tear), (6, .int .u8 yb), (15, ptr b15 0), (16, int g), (17, sl b17 0 m m), (22, sl b22 0 m m), (24, int T), (25, int W), (26, int want), (27, int e), (28, ptr b28 0), (132, int m), (133, int (q : Int))])
            (fun q => (b28, row 80 (spc 7 0 lv m rw' e e (fun p => if p < q then 1 else 0) 0)) :: (b22, row 77 (frow (m * 2) fun q => S (c q))) :: (b17, row 3 (frow m (fint me))) :: (b15, row 72 (geo lv m rw')) :: F) 0 (by omega) ⟨rfl, rfl, rfl, rfl, rfl, rfl, rfl, rfl, rfl, rfl, rfl, rfl, rfl, trivial⟩ rfl ?_
          intro q hq
          show WC _ _ _ _ [(5, .int .u16 tear), (6, .int .u8 yb), (15, ptr b15 0), (16, int g), (17, sl b17 0 m m), (22, sl b22 0 m m), (24, int T), (25, int W), (26, int want), (27, int e), (28, ptr b28 0), (132, int m), (133, int (q : Int))] _
          refine wc_seq ?_
          refine wc_region ?_
          refine wl_pu (y_lss rfl rfl) rfl ?_
          refine wl_nil ?_
          refine at_then ?_
          refine wc_seq ?_
          -- at: cond
          refine wc_condD rfl (fun hqm => ?_) (fun hqm => ?_)
          · skip
            refine wc_skip ?_
            refine at_then ?_
            refine wc_seq ?_
            refine wc_block ?_
            refine wc_seq ?_
            refine wc_region ?_
            refine wl_pu (y_move rfl) rfl ?_
            refine wl_pu (y_assign rfl) rfl ?_
            refine wl_nil ?_
            refine at_then ?_
            refine wc_region ?_
            refine wl_pu (y_move rfl) rfl ?_
            first | refine wl_pu (y_fieldAddr0 7 Try.underlying80 rfl rfl (by kernel_rfl) rfl) rfl ?_ | refine wl_pu (y_fieldAddr 7 Try.underlying80 rfl rfl (by kernel_rfl) rfl) rfl ?_
            refine wl_pu (y_ixA 1 Try.underlying78 (by kernel_rfl) rfl rfl (by omega)) rfl ?_
            refine wl_do0 (d_store 0 rfl rfl rfl (by rw [spc_len]; exact Nat.ble_eq_true_of_le (by omega)) rfl (by kernel_rfl)) (fun _ _ hL => ?_)
            subst hL
            refine wl_heap ((b28, row 80 (spc 7 0 lv m rw' e e (fun p => if p < q + 1 then 1 else 0) 0)) :: (b22, row 77 (frow (m * 2) fun q => S (c q))) :: (b17, row 3 (frow m (fint me))) :: (b15, row 72 (geo lv m rw')) :: F) (by
              simp only [setAt]
              rw [show 0 + 7 + (q : Int).toNat * 1 = 7 + q by omega, spc_setst _ _ _ _ _ _ _ _ _ (by omega)]
              refine congrArg (fun r => (b28, row 80 r) :: (b22, row 77 (frow (m * 2) fun q => S (c q))) :: (b17, row 3 (frow m (fint me))) :: (b15, row 72 (geo lv m rw')) :: F) (spc_congr fun p _ => ?_)
              show upf (fun p => if p < q then (1 : Int) else 0) q 1 p = if p < q + 1 then 1 else 0
              unfold upf
              by_cases e' : p = q
              · rw [if_pos e', if_pos (by omega)]
              · rw [if_neg e']
                show (if p < q then (1 : Int) else 0) = _
                by_cases h : p < q
                · rw [if_pos h, if_pos (by omega)]
                · rw [if_neg h, if_neg (by omega)]) ?_
            refine wl_nil ?_
            refine at_block_normal ?_
            refine at_then ?_
            refine wc_region ?_
            refine wl_pu (y_add rfl rfl (by omega)) rfl ?_
            refine wl_pu (y_move rfl) rfl ?_
            refine wl_nil ?_
            -- at: round
            exact at_again (q + 1) (by omega) (by omega) ⟨rfl, rfl, rfl, rfl, rfl, rfl, rfl, rfl, rfl, rfl, rfl, rfl, rfl, trivial⟩ rfl
          · skip
            have hqe : q = m := by omega
            subst hqe
            have hst1 : ¬ (1 < e ∧ g < q) → spc 7 0 lv q rw' e e (fun p => if p < q then 1 else 0) 0 = spc 7 0 lv q rw' e e (stg q g e) 0 := fun hno => spc_congr fun p _ => by
              show (if p < q then (1 : Int) else 0) = stg q g e p
              unfold stg
              by_cases h : p < q
              · rw [if_pos h, if_pos (by omega), if_neg (by omega)]
              · rw [if_neg h, if_neg (by omega)]
            have hg0 : 0 ≤ g := by rw [← hg]; exact Int.emod_nonneg _ (by omega)
            have hst2 : 1 < e → g < q → spc 7 0 lv q rw' e e (upf (fun p => if p < q then 1 else 0) g.toNat 2) 0 = spc 7 0 lv q rw' e e (stg q g e) 0 := fun h1 h2 => spc_congr fun p _ => by
              show upf (fun p => if p < q then (1 : Int) else 0) g.toNat 2 p = stg q g e p
              unfold stg upf
              by_cases h : p = g.toNat
              · rw [if_pos h, if_pos (by omega), if_pos (by omega)]
              · rw [if_neg h]
                show (if p < q then (1 : Int) else 0) = _
                by_cases h' : p < q
                · rw [if_pos h', if_pos (by omega), if_neg (by omega)]
                · rw [if_neg h', if_neg (by omega)]
            refine wc_exit ?_
            refine at_then_exit ?_
            refine at_then_exit ?_
            refine at_block_same ?_
            refine at_then ?_
            refine wc_join (σ := Unit) (fun _ => True) (fun _ => [(5, .int .u16 tear), (6, .int .u8 yb), (15, ptr b15 0), (16, int g), (17, sl b17 0 q q), (22, sl b22 0 q q), (24, int T), (25, int W), (26, int want), (27, int e), (28, ptr b28 0)]) (fun _ => (b28, row 80 (spc 7 0 lv q rw' e e (stg q g e) 0)) :: (b22, row 77 (frow (q * 2) fun q => S (c q))) :: (b17, row 3 (frow q (fint me))) :: (b15, row 72 (geo lv q rw')) :: F) ?_ ?_
            · skip
              refine wc_seq ?_
              refine wc_region ?_
              refine wl_pu (y_move rfl) rfl ?_
              refine wl_pu (y_gtr rfl rfl) rfl ?_
              refine wl_pu (y_move rfl) rfl ?_
              refine wl_splitD 142 rfl (fun h1e => ?_) (fun h1e => ?_)
              · skip
                refine wl_gon rfl rfl ?_
                refine wl_pu (y_move rfl) rfl ?_
                refine wl_gon rfl rfl ?_
                first | refine wl_pu (y_fieldAddr0 1 Try.underlying72 rfl rfl (by kernel_rfl) rfl) rfl ?_ | refine wl_pu (y_fieldAddr 1 Try.underlying72 rfl rfl (by kernel_rfl) rfl) rfl ?_
                refine wl_gon rfl rfl ?_
                first | refine wl_rd (y_load 0 rfl rfl rfl (by kernel_rfl)) rfl ?_ | refine wl_rd (y_load 1 rfl rfl rfl (by kernel_rfl)) rfl ?_ | refine wl_rd (y_load 2 rfl rfl rfl (by kernel_rfl)) rfl ?_ | refine wl_rd (y_load 3 rfl rfl rfl (by kernel_rfl)) rfl ?_ | refine wl_rd (y_load 4 rfl rfl rfl (by kernel_rfl)) rfl ?_ | refine wl_rd (y_load 5 rfl rfl rfl (by kernel_rfl)) rfl ?_
                refine wl_gon rfl rfl ?_
                refine wl_pu (y_lss rfl rfl) rfl ?_
                first | refine wl_pu (y_pickT rfl rfl) rfl ?_ | refine wl_pu (y_pickF rfl rfl) rfl ?_
                refine wl_nil ?_
                refine at_then ?_
                -- at: cond
                refine wc_condD rfl (fun hgm => ?_) (fun hgm => ?_)
                · skip
                  refine wc_region ?_
                  refine wl_pu (y_move rfl) rfl ?_
                  first | refine wl_pu (y_fieldAddr0 7 Try.underlying80 rfl rfl (by kernel_rfl) rfl) rfl ?_ | refine wl_pu (y_fieldAddr 7 Try.underlying80 rfl rfl (by kernel_rfl) rfl) rfl ?_
                  refine wl_pu (y_ixA 1 Try.underlying78 (by kernel_rfl) rfl rfl (by omega)) rfl ?_
                  refine wl_do0 (d_store 0 rfl rfl rfl (by rw [spc_len]; exact Nat.ble_eq_true_of_le (by omega)) rfl (by kernel_rfl)) (fun _ _ hL => ?_)
                  subst hL
                  refine wl_nil ?_
                  -- at: join
                  refine at_join () trivial ⟨rfl, rfl, rfl, rfl, rfl, rfl, rfl, rfl, rfl, rfl, rfl, trivial⟩ ?_
                  simp only [setAt]
                  rw [show 0 + 7 + g.toNat * 1 = 7 + g.toNat by omega, spc_setst _ _ _ _ _ _ _ _ _ (by omega), hst2 h1e hgm]
                · skip
                  refine wc_skip ?_
                  -- at: join
                  refine at_join () trivial ⟨rfl, rfl, rfl, rfl, rfl, rfl, rfl, rfl, rfl, rfl, rfl, trivial⟩ ?_
                  rw [hst1 (fun h => hgm h.2)]
              · skip
                refine wl_goff rfl rfl rfl rfl ?_
                refine wl_goff rfl rfl rfl rfl ?_
                refine wl_goff rfl rfl rfl rfl ?_
                refine wl_goff rfl rfl rfl rfl ?_
                first | refine wl_pu (y_pickT rfl rfl) rfl ?_ | refine wl_pu (y_pickF rfl rfl) rfl ?_
                refine wl_nil ?_
                refine at_then ?_
                -- at: cond
                refine wc_condF rfl ?_
                refine wc_skip ?_
                -- at: join
                refine at_join () trivial ⟨rfl, rfl, rfl, rfl, rfl, rfl, rfl, rfl, rfl, rfl, rfl, trivial⟩ ?_
                rw [hst1 (fun h => h1e h.1)]
            · rintro ⟨⟩ _
              clear hst1 hst2
              refine wc_seq ?_
              refine wc_region ?_
              refine wl_pu (y_assign rfl) rfl ?_
              refine wl_nil ?_
              refine at_then ?_
              refine wc_seq ?_
              refine wc_region ?_
              refine wl_pu (y_move rfl) rfl ?_
              refine wl_pu (y_lenL Try.underlying74 rfl) rfl ?_
              refine wl_pu (y_move rfl) rfl ?_
              refine wl_nil ?_
              refine at_then ?_
              refine wc_block ?_
              -- at: loop
              refine wc_loop (σ := Nat × (Nat → List UInt8) × (Nat → Nat) × (Nat → Int) × Int × Int × Int) (fun s => s.1 ≤ q ∧ Inv X lv q rw' g T q me e s.1 s.2.1 s.2.2.1 s.2.2.2.1 s.2.2.2.2.1 ∧ 0 ≤ s.2.2.2.2.2.1 ∧ s.2.2.2.2.2.1 ≤ s.1) (fun s => q - s.1)
                (fun s => [(5, .int .u16 tear), (6, .int .u8 yb), (15, ptr b15 0), (16, int g), (17, sl b17 0 q q), (22, sl b22 0 q q), (24, int T), (25, int W), (26, int s.2.2.2.2.1), (27, int e), (28, ptr b28 0), (30, int s.2.2.2.2.2.1), (151, sl b17 0 q q), (152, int q), (153, int (s.1 : Int))]) (fun s => (b28, row 80 (spc 7 s.2.2.2.2.2.2 lv q rw' e e (stg q g e) 0)) :: (b22, row 77 (frow (q * 2) fun q => S (s.2.1 q))) :: (b17, row 3 (frow q (fint me))) :: (b15, row 72 (geo lv q rw')) :: F)
                (0, c, s, ev, want, 0, 0) ⟨by omega, hI0, Int.le_refl 0, Int.le_refl 0⟩ ⟨rfl, rfl, rfl, rfl, rfl, rfl, rfl, rfl, rfl, rfl, rfl, rfl, rfl, rfl, rfl, trivial⟩ rfl ?_
              clear hI0
              rintro ⟨i, c, s, ev, want, many, m0⟩ ⟨hi, hI, hm0, hm1⟩
              simp only [] at hi hI hm0 hm1
              show WC _ _ _ _ [(5, .int .u16 tear), (6, .int .u8 yb), (15, ptr b15 0), (16, int g), (17, sl b17 0 q q), (22, sl b22 0 q q), (24, int T), (25, int W), (26, int want), (27, int e), (28, ptr b28 0), (30, int many), (151, sl b17 0 q q), (152, int q), (153, int (i : Int))] ((b28, row 80 (spc 7 m0 lv q rw' e e (stg q g e) 0)) :: (b22, row 77 (frow (q * 2) fun q => S (c q))) :: (b17, row 3 (frow q (fint me))) :: (b15, row 72 (geo lv q rw')) :: F)
              refine wc_seq ?_
              refine wc_region ?_
              refine wl_pu (y_lss rfl rfl) rfl ?_
              refine wl_nil ?_
              refine at_then ?_
              refine wc_seq ?_
              -- at: cond
              refine wc_condD rfl (fun hiq => ?_) (fun hiq => ?_)
              · skip
                have hiq' : i < q := by omega
                have hme := hP.lo i hiq'
                refine wc_skip ?_
                refine at_then ?_
                refine wc_seq ?_
                refine wc_block ?_
                refine wc_seq ?_
                refine wc_region ?_
                refine wl_pu (y_move rfl) rfl ?_
                first | refine wl_pu (y_ix1 Try.underlying74 (by kernel_rfl) rfl rfl (by omega)) rfl ?_ | refine wl_pu (y_ix 1 Try.underlying74 (by kernel_rfl) rfl rfl (by omega)) rfl ?_
                refine wl_rd (y_load 2 rfl rfl (v := int (me i)) (by rw [Int.toNat_natCast]; exact frow_at _ hiq') (by kernel_rfl)) rfl ?_
                refine wl_pu (y_assign rfl) rfl ?_
                refine wl_pu (y_assign rfl) rfl ?_
                refine wl_nil ?_
                refine at_then ?_
                refine wc_join (σ := Unit) (fun _ => e = 1 ∨ me i ≠ g) (fun _ => [(5, .int .u16 tear), (6, .int .u8 yb), (15, ptr b15 0), (16, int g), (17, sl b17 0 q q), (22, sl b22 0 q q), (24, int T), (25, int W), (26, int want), (27, int e), (28, ptr b28 0), (30, int many), (31, int (i : Int)), (32, int (me i)), (151, sl b17 0 q q), (152, int q), (153, int (i : Int))]) (fun _ => (b28, row 80 (spc 7 m0 lv q rw' e e (stg q g e) 0)) :: (b22, row 77 (frow (q * 2) fun q => S (c q))) :: (b17, row 3 (frow q (fint me))) :: (b15, row 72 (geo lv q rw')) :: F) ?_ ?_
                · skip
                  refine wc_seq ?_
                  refine wc_region ?_
                  refine wl_pu (y_move rfl) rfl ?_
                  refine wl_pu (y_gtr rfl rfl) rfl ?_
                  refine wl_pu (y_move rfl) rfl ?_
                  refine wl_splitD 160 rfl (fun h1e => ?_) (fun h1e => ?_)
                  · skip
                    refine wl_gon rfl rfl ?_
                    refine wl_pu (y_move rfl) rfl ?_
                    refine wl_gon rfl rfl ?_
                    refine wl_pu (y_move rfl) rfl ?_
                    refine wl_gon rfl rfl ?_
                    refine wl_pu (y_eql rfl rfl) rfl ?_
                    first | refine wl_pu (y_pickT rfl rfl) rfl ?_ | refine wl_pu (y_pickF rfl rfl) rfl ?_
                    refine wl_nil ?_
                    refine at_then ?_
                    -- at: cond
                    refine wc_condD rfl (fun hgi => ?_) (fun hgi => ?_)
                    · skip
                      refine wc_exit ?_
                      refine at_then_exit ?_
                      refine at_block_same ?_
                      refine at_then ?_
                      refine wc_region ?_
                      refine wl_pu (y_add rfl rfl (by omega)) rfl ?_
                      refine wl_pu (y_move rfl) rfl ?_
                      refine wl_nil ?_
                      -- at: round
                      exact at_again (i + 1, c, s, ev, want, many, m0) ⟨by show i + 1 ≤ q; omega, hI.skip h1e (.inl hgi), hm0, by show many ≤ ((i + 1 : Nat) : Int); omega⟩ (by show q - (i + 1) < q - i; omega) ⟨rfl, rfl, rfl, rfl, rfl, rfl, rfl, rfl, rfl, rfl, rfl, rfl, rfl, rfl, rfl, trivial⟩ rfl
                    · skip
                      refine wc_skip ?_
                      -- at: join
                      exact at_join () (.inr hgi) ⟨rfl, rfl, rfl, rfl, rfl, rfl, rfl, rfl, rfl, rfl, rfl, rfl, rfl, rfl, rfl, rfl, rfl, trivial⟩ rfl
                  · skip
                    refine wl_goff rfl rfl rfl rfl ?_
                    refine wl_goff rfl rfl rfl rfl ?_
                    refine wl_goff rfl rfl rfl rfl ?_
                    first | refine wl_pu (y_pickT rfl rfl) rfl ?_ | refine wl_pu (y_pickF rfl rfl) rfl ?_
                    refine wl_nil ?_
                    refine at_then ?_
                    -- at: cond
                    refine wc_condF rfl ?_
                    refine wc_skip ?_
                    -- at: join
                    exact at_join () (.inl (by omega)) ⟨rfl, rfl, rfl, rfl, rfl, rfl, rfl, rfl, rfl, rfl, rfl, rfl, rfl, rfl, rfl, rfl, rfl, trivial⟩ rfl
                · rintro ⟨⟩ hlive
                  obtain ⟨ar, me', lv', mb', rw'', ev', ep', f', t, ht, ht1, ht2, hof⟩ := hI.of hG rfl hP ⟨heT, hT8.2⟩ hiq'
                  refine wc_seq ?_
                  refine wc_region ?_
                  refine wl_pu (y_move rfl) rfl ?_
                  first | refine wl_pu (y_fieldAddr0 1 Try.underlying80 rfl rfl (by kernel_rfl) rfl) rfl ?_ | refine wl_pu (y_fieldAddr 1 Try.underlying80 rfl rfl (by kernel_rfl) rfl) rfl ?_
                  refine wl_do0 (d_store 0 rfl rfl rfl rfl rfl (by kernel_rfl)) (fun _ _ hL => ?_)
                  subst hL
                  refine wl_heap ((b28, row 80 (spc 7 (me i) lv q rw' e e (stg q g e) 0)) :: (b22, row 77 (frow (q * 2) fun q => S (c q))) :: (b17, row 3 (frow q (fint me))) :: (b15, row 72 (geo lv q rw')) :: F) rfl ?_
                  refine wl_nil ?_
                  refine at_then ?_
                  refine wc_seq ?_
                  refine wc_region ?_
                  refine wl_rd (y_loadAgg (k := 12) (vs := spc 7 (me i) lv q rw' e e (stg q g e) 0) 0 rfl rfl rfl rfl (by kernel_rfl) (by kernel_rfl)) rfl ?_
                  -- at: op (call {callee:(value (func 35)), args:[t168], argTypes:[80]})
                  refine wl_do (d_call (by kernel_rfl) rfl (bytes_spec _ 7 (me i) lv q rw' e e (stg q g e) (sok_of hG (by omega) (by omega)))) rfl ?_
                  rintro _ _ ⟨rfl, rfl⟩
                  refine wl_pu (y_move rfl) rfl ?_
                  refine wl_pu (y_extract rfl rfl) rfl ?_
                  refine wl_pu (y_extract rfl rfl) rfl ?_
                  refine wl_pu (y_assign rfl) rfl ?_
                  refine wl_pu (y_assign rfl) rfl ?_
                  refine wl_nil ?_
                  refine at_then ?_
                  refine wc_seq ?_
                  -- at: draw
                  apply wc_draw 16 (pl := [_, _, _, _, _, _, _, _, _, _, _, _, _, _, _, _]) (by kernel_rfl)
                  rotate_left
                  refine hw_pu (y_move rfl) ?_
                  refine hw_pu (y_move rfl) ?_
                  refine hw_pu (y_ix 2 Try.underlying76 (by kernel_rfl) rfl rfl (by omega)) ?_
                  refine hw_pu (y_ixA 1 Try.underlying77 (by kernel_rfl) rfl rfl (by omega)) ?_
                  refine hw_rd (y_load 1 rfl rfl (v := S (c (2 * i))) (by rw [show (0 + (i : Int).toNat * 2 + (0 : Int).toNat * 1) = 2 * i by omega]; exact frow_at (fun q => S (c q)) (by omega)) (by kernel_rfl)) ?_
                  refine hw_pu (y_move rfl) ?_
                  refine hw_pu (y_move rfl) ?_
                  refine hw_pu (y_ix 2 Try.underlying76 (by kernel_rfl) rfl rfl (by omega)) ?_
                  refine hw_pu (y_ixA 1 Try.underlying77 (by kernel_rfl) rfl rfl (by omega)) ?_
                  refine hw_rd (y_load 1 rfl rfl (v := S (c (2 * i + 1))) (by rw [show (0 + (i : Int).toNat * 2 + (1 : Int).toNat * 1) = 2 * i + 1 by omega]; exact frow_at (fun q => S (c q)) (by omega)) (by kernel_rfl)) ?_
                  -- at: hw op (call {callee:(value (func 36)), args:[t177, t182], argTypes:[9, 9]})
                  refine hw_call (by kernel_rfl) rfl ((fun F' => hof _)) ?_
                  refine hw_pu (y_move rfl) ?_
                  refine hw_pu (y_extract rfl rfl) ?_
                  refine hw_pu (y_extract rfl rfl) ?_
                  refine hw_pu (y_extract rfl rfl) ?_
                  -- at: hw op (alloc 80)
                  refine hw_alloc (z := .agg #[int 0, int 0, int 0, int 0, int 0, int 0, int 0, int 0, int 0, int 0, int 0, int 0]) (zeroB_of (by kernel_rfl)) ?_
                  intro g1
                  -- at: hw_end with new blocks
                  refine hw_endG3 rfl ?_
                  case hB => kernel_rfl
                  rintro b35 rfl
                  refine wl_do0 (d_storeAgg (k := 12) 0 rfl rfl rfl (by decide) rfl rfl (by kernel_rfl)) (fun _ _ hL => ?_)
                  subst hL
                  refine wl_drop ?_
                  refine wl_pu (y_assign rfl) rfl ?_
                  refine wl_pu (y_assign rfl) rfl ?_
                  refine wl_nil ?_
                  refine at_nq ?_
                  refine at_then ?_
                  refine wc_seq ?_
                  refine wc_seq ?_
                  refine wc_region ?_
                  refine wl_pu (y_move rfl) rfl ?_
                  refine wl_pu (y_neq rfl rfl) rfl ?_
                  refine wl_pu (y_move rfl) rfl ?_
                  -- at: guard 2
                  refine wl_splitD 189 rfl (fun hc => absurd hc ((by simp))) (fun _ => ?_)
                  refine wl_gon rfl rfl ?_
                  refine wl_pu (y_move rfl) rfl ?_
                  refine wl_gon rfl rfl ?_
                  refine wl_pu (y_move rfl) rfl ?_
                  refine wl_gon rfl rfl ?_
                  refine wl_pu (y_gtr rfl rfl) rfl ?_
                  refine wl_gon rfl rfl ?_
                  refine wl_pu (y_neB (r := false) Try.underlying4 rfl rfl (by simp)) rfl ?_
                  first | refine wl_pu (y_pickT rfl rfl) rfl ?_ | refine wl_pu (y_pickF rfl rfl) rfl ?_
                  refine wl_pu (y_move rfl) rfl ?_
                  -- at: guard 8
                  refine wl_gon rfl rfl ?_
                  refine wl_pu (y_move rfl) rfl ?_
                  refine wl_gon rfl rfl ?_
                  refine wl_pu (y_lenS Try.underlying9 rfl) rfl ?_
                  refine wl_gon rfl rfl ?_
                  refine wl_pu (y_neq rfl rfl) rfl ?_
                  first | refine wl_pu (y_pickT rfl rfl) rfl ?_ | refine wl_pu (y_pickF rfl rfl) rfl ?_
                  refine wl_pu (y_move rfl) rfl ?_
                  -- at: guard 13
                  refine wl_splitD 200 rfl (fun hc => absurd hc ((by rw [text_len]; simp))) (fun _ => ?_)
                  refine wl_gon rfl rfl ?_
                  refine wl_pu (y_move rfl) rfl ?_
                  refine wl_gon rfl rfl ?_
                  refine wl_pu (y_lss rfl rfl) rfl ?_
                  first | refine wl_pu (y_pickT rfl rfl) rfl ?_ | refine wl_pu (y_pickF rfl rfl) rfl ?_
                  refine wl_pu (y_move rfl) rfl ?_
                  -- at: guard 17
                  refine wl_splitD 204 rfl (fun hc => absurd hc ((by omega))) (fun _ => ?_)
                  refine wl_gon rfl rfl ?_
                  refine wl_pu (y_move rfl) rfl ?_
                  refine wl_gon rfl rfl ?_
                  refine wl_pu (y_gtr rfl rfl) rfl ?_
                  first | refine wl_pu (y_pickT rfl rfl) rfl ?_ | refine wl_pu (y_pickF rfl rfl) rfl ?_
                  refine wl_nil ?_
                  refine at_then ?_
                  -- at: cond
                  refine wc_condD rfl (fun hc => absurd hc ((by omega))) (fun _ => ?_)
                  refine wc_skip ?_
                  refine at_then ?_
                  refine wc_join (σ := Unit) (fun _ => True) (fun _ => [(5, .int .u16 tear), (6, .int .u8 yb), (15, ptr b15 0), (16, int g), (17, sl b17 0 q q), (22, sl b22 0 q q), (24, int T), (25, int W), (26, int want), (27, int e), (28, ptr b28 0), (30, int many), (31, int (i : Int)), (33, S (tx lv q rw' (stg q g) (me i) e)), (36, int (t : Int)), (151, sl b17 0 q q), (152, int q), (153, int (i : Int))]) (fun _ => (b28, row 80 (spc 7 (me i) lv q rw' e e (stg q g e) 0)) :: (b22, row 77 (frow (q * 2) fun z9 => S (c z9))) :: (b17, row 3 (frow q (fint me))) :: (b15, row 72 (geo lv q rw')) :: F) ?_ ?_
                  · skip
                    refine wc_seq ?_
                    refine wc_region ?_
                    refine wl_pu (y_move rfl) rfl ?_
                    refine wl_pu (y_move rfl) rfl ?_
                    refine wl_pu (y_eql rfl rfl) rfl ?_
                    refine wl_pu (y_move rfl) rfl ?_
                    refine wl_splitD 211 rfl (fun heT' => ?_) (fun heT' => ?_)
                    · skip
                      refine wl_gon rfl rfl ?_
                      refine wl_pu (y_move rfl) rfl ?_
                      refine wl_gon rfl rfl ?_
                      refine wl_pu (y_gtr rfl rfl) rfl ?_
                      first | refine wl_pu (y_pickT rfl rfl) rfl ?_ | refine wl_pu (y_pickF rfl rfl) rfl ?_
                      refine wl_pu (y_move rfl) rfl ?_
                      -- at: guard 7
                      by_cases h1e : 1 < e
                      · skip
                        refine wl_splitD 215 rfl (fun _ => ?_) (fun hc => absurd ((by omega)) hc)
                        refine wl_gon rfl rfl ?_
                        refine wl_pu (y_move rfl) rfl ?_
                        refine wl_gon rfl rfl ?_
                        refine wl_pu (y_move rfl) rfl ?_
                        refine wl_gon rfl rfl ?_
                        refine wl_pu (y_geq rfl rfl) rfl ?_
                        first | refine wl_pu (y_pickT rfl rfl) rfl ?_ | refine wl_pu (y_pickF rfl rfl) rfl ?_
                        refine wl_nil ?_
                        refine at_then ?_
                        -- at: cond
                        refine wc_condD rfl (fun hmw => ?_) (fun hmw => ?_)
                        · skip
                          have htr := ht2 h1e
                          have hskip := hI.skip h1e (.inr heT')
                          refine wc_seq ?_
                          refine wc_seq ?_
                          refine wc_region ?_
                          refine wl_pu (y_move rfl) rfl ?_
                          refine wl_pu (y_move rfl) rfl ?_
                          refine wl_pu (y_eql rfl rfl) rfl ?_
                          refine wl_nil ?_
                          refine at_then ?_
                          -- at: cond
                          refine wc_condD rfl (fun hmW => ?_) (fun hmW => ?_)
                          · skip
                            have htl : (text (flds 7 (me i) lv q rw' e e (stg q g e))).length = 64 := text_len ..
                            generalize htx : text (flds 7 (me i) lv q rw' e e (stg q g e)) = txt at htl ⊢
                            refine wc_seq ?_
                            refine wc_region ?_
                            refine wl_pu (y_move rfl) rfl ?_
                            refine wl_do (d_bytes Try.underlying9 Try.underlying24 Try.underlying5 rfl) rfl ?_
                            rintro _ _ ⟨b38, cap, sp, rfl, hsp, rfl⟩
                            rw [htl]
                            rw [htl] at hsp
                            refine wl_pu (y_assign rfl) rfl ?_
                            refine wl_nil ?_
                            refine at_then ?_
                            refine wc_seq ?_
                            refine wc_region ?_
                            refine wl_pu (y_move rfl) rfl ?_
                            first | refine wl_pu (y_conv Try.underlying22 Try.underlying3 rfl (IntWalk.i64_in _ (by omega))) rfl ?_ | refine wl_pu (y_conv Try.underlying22 Try.underlying3 rfl rfl) rfl ?_
                            refine wl_pu (y_rem rfl rfl (by omega)) rfl ?_
                            refine wl_pu (y_assign rfl) rfl ?_
                            refine wl_nil ?_
                            refine at_then ?_
                            refine wc_seq ?_
                            refine wc_seq ?_
                            refine wc_region ?_
                            refine wl_pu (y_move rfl) rfl ?_
                            refine wl_pu (y_rem rfl rfl (by omega)) rfl ?_
                            first | refine wl_pu (y_conv Try.underlying5 Try.underlying3 rfl (IntWalk.i64_in _ (by omega))) rfl ?_ | refine wl_pu (y_conv Try.underlying5 Try.underlying3 rfl rfl) rfl ?_
                            refine wl_pu (y_add rfl rfl (by omega)) rfl ?_
                            refine wl_pu (y_move rfl) rfl ?_
                            refine wl_nil ?_
                            refine at_then ?_
                            refine wc_block ?_
                            -- at: loop
                            obtain ⟨p, hp⟩ : ∃ p : Nat, tear % 61 = (p : Int) := ⟨(tear % 61).toNat, by omega⟩
                            obtain ⟨w, hw⟩ : ∃ w : Nat, 1 + (yb : Int) % 4 = (w : Int) := ⟨(1 + (yb : Int) % 4).toNat, by omega⟩
                            rw [hp, hw]
                            have hp60 : p ≤ 60 := by omega
                            have hw4 : 1 ≤ w ∧ w ≤ 4 := by omega
                            have hyb : yb ||| 1 < 256 := Nat.or_lt_two_pow (n := 8) (by omega) (by decide)
                            have hdN : (UInt8.ofNat (yb ||| 1)).toNat = yb ||| 1 := by rw [UInt8.toNat_ofNat']; omega
                            generalize hd8 : UInt8.ofNat (yb ||| 1) = d8 at hdN
                            refine wc_loop (σ := Nat) (fun k => k ≤ w) (fun k => w - k) (fun k => [(6, .int .u8 yb), (15, ptr b15 0), (16, int g), (17, sl b17 0 q q), (22, sl b22 0 q q), (24, int T), (25, int W), (26, int want), (27, int e), (28, ptr b28 0), (30, int many), (31, int (i : Int)), (36, int (t : Int)), (151, sl b17 0 q q), (152, int q), (153, int (i : Int)), (5, .int .u16 tear), (38, sl b38 0 64 cap), (39, int (p : Int)), (231, int (w : Int)), (232, int (k : Int))]) (fun k => (b38, .cells ⟨B8 (spoil txt p k d8) ++ sp⟩ 5 (cap, cap + 1)) :: (b28, row 80 (spc 7 (me i) lv q rw' e e (stg q g e) 0)) :: (b22, row 77 (frow (q * 2) fun z9 => S (c z9))) :: (b17, row 3 (frow q (fint me))) :: (b15, row 72 (geo lv q rw')) :: F) 0 (by omega) ⟨rfl, rfl, rfl, rfl, rfl, rfl, rfl, rfl, rfl, rfl, rfl, rfl, rfl, rfl, rfl, rfl, rfl, rfl, rfl, rfl, rfl, trivial⟩ (by rw [spoil_zero]) ?_
                            intro k hk
                            show WC _ _ _ _ [(6, .int .u8 yb), (15, ptr b15 0), (16, int g), (17, sl b17 0 q q), (22, sl b22 0 q q), (24, int T), (25, int W), (26, int want), (27, int e), (28, ptr b28 0), (30, int many), (31, int (i : Int)), (36, int (t : Int)), (151, sl b17 0 q q), (152, int q), (153, int (i : Int)), (5, .int .u16 tear), (38, sl b38 0 64 cap), (39, int (p : Int)), (231, int (w : Int)), (232, int (k : Int))] _
                            refine wc_seq ?_
                            refine wc_region ?_
                            refine wl_pu (y_lss rfl rfl) rfl ?_
                            refine wl_nil ?_
                            refine at_then ?_
                            refine wc_seq ?_
                            -- at: cond
                            refine wc_condD rfl (fun hkw => ?_) (fun hkw => ?_)
                            · skip
                              have hkl : p + k < txt.length := by omega
                              have hsl : (spoil txt p k d8).length = 64 := by rw [spoil_len (by omega), htl]
                              have hget : (spoil txt p k d8)[p + k]'(by omega) = txt[p + k] := by
                                have := spoil_get (l := txt) (p := p) (w := k) (d := d8) (by omega) (p + k)
                                rw [if_neg (by omega), List.getElem?_eq_getElem (by omega), List.getElem?_eq_getElem hkl] at this
                                exact Option.some.inj this
                              have hx8 := UInt8.toNat_lt txt[p + k]
                              refine wc_skip ?_
                              refine at_then ?_
                              refine wc_seq ?_
                              refine wc_block ?_
                              refine wc_seq ?_
                              refine wc_region ?_
                              refine wl_pu (y_move rfl) rfl ?_
                              refine wl_pu (y_assign rfl) rfl ?_
                              refine wl_nil ?_
                              refine at_then ?_
                              refine wc_region ?_
                              refine wl_pu (y_move rfl) rfl ?_
                              refine wl_pu (y_move rfl) rfl ?_
                              refine wl_pu (y_move rfl) rfl ?_
                              refine wl_pu (y_add rfl rfl (by omega)) rfl ?_
                              refine wl_pu (y_ix1 Try.underlying24 (by kernel_rfl) rfl rfl (by omega)) rfl ?_
                              refine wl_rd (y_load 0 rfl rfl (v := .int .u8 (txt[p + k].toNat : Int)) (by rw [show ((p : Int) + k).toNat = p + k by omega, ← hget]; exact B8_nth (by omega)) (by kernel_rfl)) rfl ?_
                              refine wl_pu (y_move rfl) rfl ?_
                              -- at: op (binOp or 5 t241 c:(int u8 1) 5)
                              refine wl_pu (y_or yb 1 rfl rfl (by show yb < 256; omega) (by decide)) rfl ?_
                              refine wl_pu (y_xor txt[p + k].toNat (yb ||| 1) rfl rfl (by show _ < 256; omega) (by show _ < 256; omega)) rfl ?_
                              refine wl_pu (y_ix1 Try.underlying24 (by kernel_rfl) rfl rfl (by omega)) rfl ?_
                              have hxor : ((txt[p + k].toNat ^^^ (yb ||| 1) : Nat) : Int) = (((txt[p + k] ^^^ d8).toNat : Nat) : Int) := by rw [UInt8.toNat_xor, hdN]
                              rw [hxor]
                              refine wl_do0 (d_storeM 0 rfl rfl rfl (by rw [List.length_append, B8_length]; omega) (by show ((p : Int) + k).toNat < cap; omega) rfl (by kernel_rfl)) (fun _ _ hL => ?_)
                              subst hL
                              refine wl_heap ((b38, .cells ⟨B8 (spoil txt p (k + 1) d8) ++ sp⟩ 5 (cap, cap + 1)) :: (b28, row 80 (spc 7 (me i) lv q rw' e e (stg q g e) 0)) :: (b22, row 77 (frow (q * 2) fun z9 => S (c z9))) :: (b17, row 3 (frow q (fint me))) :: (b15, row 72 (geo lv q rw')) :: F) (by
                                simp only [setAt]
                                rw [show ((p : Int) + k).toNat = p + k by omega, B8_set (by omega), spoil_succ hkl]) ?_
                              refine wl_nil ?_
                              refine at_block_normal ?_
                              refine at_then ?_
                              refine wc_region ?_
                              refine wl_pu (y_add rfl rfl (by omega)) rfl ?_
                              refine wl_pu (y_move rfl) rfl ?_
                              refine wl_nil ?_
                              -- at: round
                              exact at_again (k + 1) (by omega) (by omega) ⟨rfl, rfl, rfl, rfl, rfl, rfl, rfl, rfl, rfl, rfl, rfl, rfl, rfl, rfl, rfl, rfl, rfl, rfl, rfl, rfl, rfl, trivial⟩ rfl
                            · skip
                              have hke : k = w := by omega
                              subst hke
                              have hsl : (spoil txt p k d8).length = 64 := by rw [spoil_len (by omega), htl]
                              refine wc_exit ?_
                              refine at_then_exit ?_
                              refine at_then_exit ?_
                              refine at_block_same ?_
                              refine at_then ?_
                              -- at: draw
                              apply wc_draw 7 (pl := [_, _, _, _, _, _, _]) (by kernel_rfl)
                              rotate_left
                              refine hw_pu (y_move rfl) ?_
                              refine hw_pu (y_move rfl) ?_
                              refine hw_pu (y_move rfl) ?_
                              refine hw_pu (y_move rfl) ?_
                              refine hw_rd (y_toStr 0 (spoil txt p k d8) Try.underlying24 Try.underlying5 Try.underlying9 rfl rfl (by rw [List.drop_zero, List.take_append_of_le_length (by rw [B8_length]; omega), List.take_of_length_le (by rw [B8_length]; omega)]) hsl) ?_
                              refine hw_pu (y_ix 2 Try.underlying76 (by kernel_rfl) rfl rfl (by omega)) ?_
                              refine hw_pu (y_ixA 1 Try.underlying77 (by kernel_rfl) rfl rfl (by omega)) ?_
                              refine hw_end1 rfl ?_
                              case hB => kernel_rfl
                              refine wl_do0 (d_store 2 rfl rfl rfl (by rw [frow_len]; exact Nat.ble_eq_true_of_le (by omega)) rfl (by kernel_rfl)) (fun _ _ hL => ?_)
                              subst hL
                              refine wl_heap ((b38, .cells ⟨B8 (spoil txt p k d8) ++ sp⟩ 5 (cap, cap + 1)) :: (b28, row 80 (spc 7 (me i) lv q rw' e e (stg q g e) 0)) :: (b22, row 77 (frow (q * 2) fun z9 => S (upf c (2 * i + t) (spoil txt p k d8) z9))) :: (b17, row 3 (frow q (fint me))) :: (b15, row 72 (geo lv q rw')) :: F) (by
                                simp only [setAt]
                                rw [frow_set, show 0 + (i : Int).toNat * 2 + (t : Int).toNat * 1 = 2 * i + t by omega]
                                refine congrArg (fun r => (b38, Obj.cells ⟨B8 (spoil txt p k d8) ++ sp⟩ 5 (cap, cap + 1)) :: (b28, row 80 (spc 7 (me i) lv q rw' e e (stg q g e) 0)) :: (b22, row 77 r) :: (b17, row 3 (frow q (fint me))) :: (b15, row 72 (geo lv q rw')) :: F) (frow_congr fun z _ => ?_)
                                unfold upf
                                split <;> rfl) ?_
                              refine wl_nil ?_
                              refine at_nq ?_
                              refine at_then ?_
                              refine wc_seq ?_
                              refine wc_region ?_
                              refine wl_pu (y_move rfl) rfl ?_
                              refine wl_pu (y_add rfl rfl (by omega)) rfl ?_
                              refine wl_pu (y_assign rfl) rfl ?_
                              refine wl_nil ?_
                              refine at_then ?_
                              refine wc_exit ?_
                              refine at_then_exit ?_
                              refine at_block_same ?_
                              refine at_then ?_
                              refine wc_region ?_
                              refine wl_pu (y_add rfl rfl (by omega)) rfl ?_
                              refine wl_pu (y_move rfl) rfl ?_
                              refine wl_nil ?_
                              -- at: round
                              refine at_drop ?_
                              have hlow : ∀ e', Low X (spoil txt p k d8) e' := fun e' => by rw [← htx]; exact tx_torn (by rw [hdN]; exact odd_or yb) hw4 hp60 e'
                              have hInv := ((hI.tear h1e hiq' hlow).skip h1e (.inr heT'))
                              rw [← htr] at hInv
                              exact at_again (i + 1, upf c (2 * i + t) (spoil txt p k d8), s, ev, want, many + 1, me i) ⟨by show i + 1 ≤ q; omega, hInv, by show 0 ≤ many + 1; omega, by show many + 1 ≤ ((i + 1 : Nat) : Int); omega⟩ (by show q - (i + 1) < q - i; omega) ⟨rfl, rfl, rfl, rfl, rfl, rfl, rfl, rfl, rfl, rfl, rfl, rfl, rfl, rfl, rfl, trivial⟩ rfl
                          · skip
                            refine wc_skip ?_
                            refine at_then ?_
                            refine wc_seq ?_
                            refine wc_region ?_
                            refine wl_pu (y_move rfl) rfl ?_
                            refine wl_pu (y_add rfl rfl (by omega)) rfl ?_
                            refine wl_pu (y_assign rfl) rfl ?_
                            refine wl_nil ?_
                            refine at_then ?_
                            refine wc_exit ?_
                            refine at_then_exit ?_
                            refine at_block_same ?_
                            refine at_then ?_
                            refine wc_region ?_
                            refine wl_pu (y_add rfl rfl (by omega)) rfl ?_
                            refine wl_pu (y_move rfl) rfl ?_
                            refine wl_nil ?_
                            -- at: round
                            exact at_again (i + 1, c, s, ev, want, many + 1, me i) ⟨by show i + 1 ≤ q; omega, hskip, by show 0 ≤ many + 1; omega, by show many + 1 ≤ ((i + 1 : Nat) : Int); omega⟩ (by show q - (i + 1) < q - i; omega) ⟨rfl, rfl, rfl, rfl, rfl, rfl, rfl, rfl, rfl, rfl, rfl, rfl, rfl, rfl, rfl, trivial⟩ rfl
                        · skip
                          refine wc_skip ?_
                          -- at: join
                          exact at_join () trivial ⟨rfl, rfl, rfl, rfl, rfl, rfl, rfl, rfl, rfl, rfl, rfl, rfl, rfl, rfl, rfl, rfl, rfl, rfl, trivial⟩ rfl
                      · skip
                        refine wl_splitD 215 rfl (fun hc => absurd hc ((by omega))) (fun _ => ?_)
                        refine wl_goff rfl rfl rfl rfl ?_
                        refine wl_goff rfl rfl rfl rfl ?_
                        refine wl_goff rfl rfl rfl rfl ?_
                        first | refine wl_pu (y_pickT rfl rfl) rfl ?_ | refine wl_pu (y_pickF rfl rfl) rfl ?_
                        refine wl_nil ?_
                        refine at_then ?_
                        -- at: cond
                        refine wc_condF rfl ?_
                        refine wc_skip ?_
                        -- at: join
                        exact at_join () trivial ⟨rfl, rfl, rfl, rfl, rfl, rfl, rfl, rfl, rfl, rfl, rfl, rfl, rfl, rfl, rfl, rfl, rfl, rfl, trivial⟩ rfl
                    · skip
                      refine wl_goff rfl rfl rfl rfl ?_
                      refine wl_goff rfl rfl rfl rfl ?_
                      first | refine wl_pu (y_pickT rfl rfl) rfl ?_ | refine wl_pu (y_pickF rfl rfl) rfl ?_
                      refine wl_pu (y_move rfl) rfl ?_
                      -- at: guard 7
                      refine wl_goff rfl rfl rfl rfl ?_
                      refine wl_goff rfl rfl rfl rfl ?_
                      refine wl_goff rfl rfl rfl rfl ?_
                      first | refine wl_pu (y_pickT rfl rfl) rfl ?_ | refine wl_pu (y_pickF rfl rfl) rfl ?_
                      refine wl_nil ?_
                      refine at_then ?_
                      -- at: cond
                      refine wc_condF rfl ?_
                      refine wc_skip ?_
                      -- at: join
                      exact at_join () trivial ⟨rfl, rfl, rfl, rfl, rfl, rfl, rfl, rfl, rfl, rfl, rfl, rfl, rfl, rfl, rfl, rfl, rfl, rfl, trivial⟩ rfl
                  · rintro ⟨⟩ _
                    obtain ⟨s', hI'⟩ := hI.put hG rfl hP ⟨he1, heT, hT8.2⟩ hiq' hlive ht1 ht2
                    refine wc_seq ?_
                    refine wc_region ?_
                    refine wl_pu (y_move rfl) rfl ?_
                    refine wl_pu (y_move rfl) rfl ?_
                    refine wl_pu (y_move rfl) rfl ?_
                    refine wl_pu (y_move rfl) rfl ?_
                    refine wl_pu (y_ix 2 Try.underlying76 (by kernel_rfl) rfl rfl (by omega)) rfl ?_
                    refine wl_pu (y_ixA 1 Try.underlying77 (by kernel_rfl) rfl rfl (by omega)) rfl ?_
                    refine wl_do0 (d_store 1 rfl rfl rfl (by rw [frow_len]; exact Nat.ble_eq_true_of_le (by omega)) rfl (by kernel_rfl)) (fun _ _ hL => ?_)
                    subst hL
                    refine wl_heap ((b28, row 80 (spc 7 (me i) lv q rw' e e (stg q g e) 0)) :: (b22, row 77 (frow (q * 2) fun z9 => S (upf c (2 * i + t) (tx lv q rw' (stg q g) (me i) e) z9))) :: (b17, row 3 (frow q (fint me))) :: (b15, row 72 (geo lv q rw')) :: F) (by
                      simp only [setAt]
                      rw [frow_set, show 0 + (i : Int).toNat * 2 + (t : Int).toNat * 1 = 2 * i + t by omega]
                      refine congrArg (fun r => (b28, row 80 (spc 7 (me i) lv q rw' e e (stg q g e) 0)) :: (b22, row 77 r) :: (b17, row 3 (frow q (fint me))) :: (b15, row 72 (geo lv q rw')) :: F) (frow_congr fun z _ => ?_)
                      unfold upf
                      split <;> rfl) ?_
                    refine wl_nil ?_
                    refine at_then ?_
                    refine wc_seq ?_
                    refine wc_region ?_
                    refine wl_pu (y_move rfl) rfl ?_
                    refine wl_pu (y_assign rfl) rfl ?_
                    refine wl_nil ?_
                    refine at_then ?_
                    refine wc_region ?_
                    refine wl_pu (y_move rfl) rfl ?_
                    refine wl_pu (y_add rfl rfl (by omega)) rfl ?_
                    refine wl_pu (y_assign rfl) rfl ?_
                    refine wl_nil ?_
                    refine at_block_normal ?_
                    refine at_then ?_
                    refine wc_region ?_
                    refine wl_pu (y_add rfl rfl (by omega)) rfl ?_
                    refine wl_pu (y_move rfl) rfl ?_
                    refine wl_nil ?_
                    -- at: round
                    exact at_again (i + 1, upf c (2 * i + t) (tx lv q rw' (stg q g) (me i) e), s', upf ev i e, e, many + 1, me i) ⟨by show i + 1 ≤ q; omega, hI', by show 0 ≤ many + 1; omega, by show many + 1 ≤ ((i + 1 : Nat) : Int); omega⟩ (by show q - (i + 1) < q - i; omega) ⟨rfl, rfl, rfl, rfl, rfl, rfl, rfl, rfl, rfl, rfl, rfl, rfl, rfl, rfl, rfl, trivial⟩ rfl
              · skip
                have hie : i = q := by omega
                subst hie
                refine wc_exit ?_
                refine at_then_exit ?_
                refine at_then_exit ?_
                refine at_block_same ?_
                refine at_block_normal ?_
                refine at_then ?_
                refine wc_region ?_
                refine wl_pu (y_move rfl) rfl ?_
                refine wl_pu (y_add rfl rfl (by omega)) rfl ?_
                refine wl_pu (y_assign rfl) rfl ?_
                refine wl_nil ?_
                -- at: round
                refine at_drop ?_
                refine at_again (e + 1, c, s, ev, want) ⟨by show 1 ≤ e + 1; omega, ?_⟩ (by show (T + 1 - (e + 1)).toNat < (T + 1 - e).toNat; omega) ⟨rfl, rfl, rfl, rfl, rfl, rfl, rfl, rfl, rfl, rfl, trivial⟩ rfl
                by_cases hlast : e = T
                · exact .inr ⟨by show e + 1 = T + 1; omega, hI.fin hP hn4.1 ⟨hlast, hT8.1⟩⟩
                · exact .inl ⟨by show e + 1 ≤ T; omega, hI.next hP hn4.1 ⟨he1, by omega⟩⟩
        · skip
          have hFin : FinD X lv m rw' g T m me c s ev want := by
            rcases hI with hI | hI
            · omega
            · exact hI.2
          clear hI
          obtain ⟨q, rfl⟩ : ∃ q, q = m := ⟨m, rfl⟩
          obtain ⟨d, hd1, hd2, hd3⟩ := hFin.first
          have hlim := hFin.lim
          have hmk : Ctr Try.prog 37 [sl b22 0 q q, int 7] ((b22, row 77 (frow (q * 2) fun z9 => S (c z9))) :: (b17, row 3 (frow q (fint me))) :: (b15, row 72 (geo lv q rw')) :: F) (fun v L' => v = .tuple #[.agg ⟨(mdc (sbd lv q rw' (stg q g) me ev d) (dkf me q) (ivf (stg q g) me ev want q))⟩, int 0] ∧ L' = (b22, row 77 (frow (q * 2) fun z9 => S (c z9))) :: (b17, row 3 (frow q (fint me))) :: (b15, row 72 (geo lv q rw')) :: F) := by
            refine make_spec _ b22 q q d _ (fun i => c (2 * i)) (fun i => c (2 * i + 1)) want hn4.2 (by omega) hFin.evs (by omega) hd1 hd2 hd3 hP.lo hP.inj (fun m hm => ?_) (fun i hi => ?_) (fun i hi => ?_)
            · unfold stg
              rw [if_pos (by omega)]
              split
              · exact .inr rfl
              · exact .inl rfl
            · have := frow_cut (n := q * 2) (fun z9 => S (c z9)) (i := 0 + i * 2) (by omega)
              rw [this]
              rw [show 0 + i * 2 = 2 * i by omega]
            · have hl := hP.lo i hi
              have hv := hFin.evs i hi
              exact ⟨(s i : Int), fun F => of_dok (sok_of hG (by omega) (by omega)) (hFin.all i hi) F⟩
          have hlo := hP.lo d hd1
          have hsok : SpOk 7 (me d) lv q rw' (ev d) (ev d) (stg q g (ev d)) := sok_of hG (by omega) (by omega)
          have hwo : (wouts (ivf (stg q g) me ev want q) (stg q g (ev d)) (q : Int).toNat : Int) ≤ 1 := by
            rw [hd2, Int.toNat_natCast]
            have key : ∀ k, k ≤ q → wouts (ivf (stg q g) me ev want q) (stg q g want) k ≤ (if g < (k : Int) then 1 else 0) := by
              intro k
              induction k with
              | zero => intro _; exact Nat.zero_le _
              | succ k ih =>
                intro hk
                have ih' := ih (by omega)
                obtain ⟨j', hj', hmj⟩ := hP.onto hn4 (by omega : k < q)
                obtain ⟨_, f2, f3⟩ := hFin.iv rfl hP hj'
                rw [hmj, Int.toNat_natCast] at f2 f3
                simp only [wouts]
                rw [f2, f3]
                by_cases hgk : 1 < want ∧ (k : Int) = g
                · rw [if_neg (by simp [hgk])]
                  split at ih' <;> split <;> omega
                · rw [if_pos (by simp [hgk])]
                  split at ih' <;> split <;> omega
            have := key q (Nat.le_refl _)
            split at this <;> omega
          refine wc_exit ?_
          refine at_then_exit ?_
          refine at_then_exit ?_
          refine at_block_same ?_
          refine at_then ?_
          refine wc_seq ?_
          refine wc_region ?_
          refine wl_pu (y_move rfl) rfl ?_
          -- at: op (call {callee:(value (func 37)), args:[t266, c:(int i64 7)], argTypes:[76, 3]})
          refine wl_do (d_call (by kernel_rfl) rfl (hmk)) rfl ?_
          rintro _ _ ⟨rfl, rfl⟩
          refine wl_pu (y_move rfl) rfl ?_
          refine wl_pu (y_extract rfl rfl) rfl ?_
          refine wl_pu (y_extract rfl rfl) rfl ?_
          -- at: op (alloc 86)
          refine wl_do (d_alloc (z := .agg ⟨mdc sp0 (fun _ => 0) (fun _ => false)⟩) (zeroB_of (by kernel_rfl))) rfl ?_
          rintro _ _ ⟨b41, rfl, rfl⟩
          refine wl_do0 (d_storeAgg (k := 20) (vs := (mdc (sbd lv q rw' (stg q g) me ev d) (dkf me q) (ivf (stg q g) me ev want q))) 0 rfl rfl rfl (by decide) rfl rfl (by kernel_rfl)) (fun _ _ hL => ?_)
          subst hL
          refine wl_heap ((b41, row 86 (mdc (sbd lv q rw' (stg q g) me ev d) (dkf me q) (ivf (stg q g) me ev want q))) :: (b22, row 77 (frow (q * 2) fun z9 => S (c z9))) :: (b17, row 3 (frow q (fint me))) :: (b15, row 72 (geo lv q rw')) :: F) rfl ?_
          refine wl_pu (y_assign rfl) rfl ?_
          refine wl_nil ?_
          refine at_then ?_
          refine wc_seq ?_
          refine wc_seq ?_
          refine wc_region ?_
          refine wl_pu (y_move rfl) rfl ?_
          refine wl_pu (y_neq rfl rfl) rfl ?_
          refine wl_pu (y_move rfl) rfl ?_
          -- at: guard 2
          refine wl_splitD 272 rfl (fun hc => absurd hc ((by simp))) (fun _ => ?_)
          refine wl_gon rfl rfl ?_
          refine wl_rd (y_loadAgg (k := 20) (vs := (mdc (sbd lv q rw' (stg q g) me ev d) (dkf me q) (ivf (stg q g) me ev want q))) 0 rfl rfl rfl rfl (by kernel_rfl) (by kernel_rfl)) rfl ?_
          refine wl_gon rfl rfl ?_
          -- at: op (call {callee:(value (func 38)), args:[t273], argTypes:[86]})
          refine wl_do (d_call (by kernel_rfl) rfl (works_spec _ 7 (me d) lv q rw' (ev d) (ev d) (stg q g (ev d)) _ _ hsok)) rfl ?_
          rintro _ _ ⟨rfl, rfl⟩
          refine wl_gon rfl rfl ?_
          refine wl_pu (y_not rfl) rfl ?_
          first | refine wl_pu (y_pickT rfl rfl) rfl ?_ | refine wl_pu (y_pickF rfl rfl) rfl ?_
          refine wl_pu (y_move rfl) rfl ?_
          -- at: guard 7
          refine wl_splitD 277 rfl (fun hc => absurd hc ((fun hc => hc hwo))) (fun _ => ?_)
          refine wl_gon rfl rfl ?_
          first | refine wl_pu (y_fieldAddr0 0 Try.underlying86 rfl rfl (by kernel_rfl) rfl) rfl ?_ | refine wl_pu (y_fieldAddr 0 Try.underlying86 rfl rfl (by kernel_rfl) rfl) rfl ?_
          refine wl_gon rfl rfl ?_
          first | refine wl_pu (y_fieldAddr0 5 Try.underlying80 rfl rfl (by kernel_rfl) rfl) rfl ?_ | refine wl_pu (y_fieldAddr 5 Try.underlying80 rfl rfl (by kernel_rfl) rfl) rfl ?_
          refine wl_gon rfl rfl ?_
          first | refine wl_rd (y_load 0 rfl rfl rfl (by kernel_rfl)) rfl ?_ | refine wl_rd (y_load 1 rfl rfl rfl (by kernel_rfl)) rfl ?_ | refine wl_rd (y_load 2 rfl rfl rfl (by kernel_rfl)) rfl ?_ | refine wl_rd (y_load 3 rfl rfl rfl (by kernel_rfl)) rfl ?_ | refine wl_rd (y_load 4 rfl rfl rfl (by kernel_rfl)) rfl ?_ | refine wl_rd (y_load 5 rfl rfl rfl (by kernel_rfl)) rfl ?_
          refine wl_gon rfl rfl ?_
          refine wl_pu (y_move rfl) rfl ?_
          refine wl_gon rfl rfl ?_
          refine wl_pu (y_neq rfl rfl) rfl ?_
          first | refine wl_pu (y_pickT rfl rfl) rfl ?_ | refine wl_pu (y_pickF rfl rfl) rfl ?_
          refine wl_pu (y_move rfl) rfl ?_
          -- at: guard 14
          refine wl_splitD 284 rfl (fun hc => absurd hc ((fun hc => hc hd2))) (fun _ => ?_)
          refine wl_gon rfl rfl ?_
          first | refine wl_pu (y_fieldAddr0 0 Try.underlying86 rfl rfl (by kernel_rfl) rfl) rfl ?_ | refine wl_pu (y_fieldAddr 0 Try.underlying86 rfl rfl (by kernel_rfl) rfl) rfl ?_
          refine wl_gon rfl rfl ?_
          first | refine wl_pu (y_fieldAddr0 6 Try.underlying80 rfl rfl (by kernel_rfl) rfl) rfl ?_ | refine wl_pu (y_fieldAddr 6 Try.underlying80 rfl rfl (by kernel_rfl) rfl) rfl ?_
          refine wl_gon rfl rfl ?_
          first | refine wl_rd (y_load 0 rfl rfl rfl (by kernel_rfl)) rfl ?_ | refine wl_rd (y_load 1 rfl rfl rfl (by kernel_rfl)) rfl ?_ | refine wl_rd (y_load 2 rfl rfl rfl (by kernel_rfl)) rfl ?_ | refine wl_rd (y_load 3 rfl rfl rfl (by kernel_rfl)) rfl ?_ | refine wl_rd (y_load 4 rfl rfl rfl (by kernel_rfl)) rfl ?_ | refine wl_rd (y_load 5 rfl rfl rfl (by kernel_rfl)) rfl ?_
          refine wl_gon rfl rfl ?_
          refine wl_pu (y_move rfl) rfl ?_
          refine wl_gon rfl rfl ?_
          refine wl_pu (y_neq rfl rfl) rfl ?_
          first | refine wl_pu (y_pickT rfl rfl) rfl ?_ | refine wl_pu (y_pickF rfl rfl) rfl ?_
          refine wl_pu (y_move rfl) rfl ?_
          -- at: guard 21
          refine wl_splitD 291 rfl (fun hc => absurd hc ((fun hc => hc hd2))) (fun _ => ?_)
          refine wl_gon rfl rfl ?_
          first | refine wl_pu (y_fieldAddr0 0 Try.underlying86 rfl rfl (by kernel_rfl) rfl) rfl ?_ | refine wl_pu (y_fieldAddr 0 Try.underlying86 rfl rfl (by kernel_rfl) rfl) rfl ?_
          refine wl_gon rfl rfl ?_
          first | refine wl_pu (y_fieldAddr0 2 Try.underlying80 rfl rfl (by kernel_rfl) rfl) rfl ?_ | refine wl_pu (y_fieldAddr 2 Try.underlying80 rfl rfl (by kernel_rfl) rfl) rfl ?_
          refine wl_gon rfl rfl ?_
          refine wl_rd (y_loadAgg (k := 3) (vs := geo lv q rw') 0 rfl rfl rfl rfl (by kernel_rfl) (by kernel_rfl)) rfl ?_
          refine wl_gon rfl rfl ?_
          refine wl_rd (y_loadAgg (k := 3) (vs := geo lv q rw') 3 rfl rfl rfl rfl (by kernel_rfl) (by kernel_rfl)) rfl ?_
          refine wl_gon rfl rfl ?_
          refine wl_pu (y_neAgg (by kernel_rfl) (fun w => ne72 w lv q rw') rfl rfl) rfl ?_
          first | refine wl_pu (y_pickT rfl rfl) rfl ?_ | refine wl_pu (y_pickF rfl rfl) rfl ?_
          refine wl_nil ?_
          refine at_then ?_
          -- at: cond
          refine wc_condF rfl ?_
          refine wc_skip ?_
          refine at_then ?_
          refine wc_seq ?_
          refine wc_seq ?_
          refine wc_region ?_
          refine wl_pu (y_move rfl) rfl ?_
          refine wl_pu (y_lenL Try.underlying74 rfl) rfl ?_
          refine wl_pu (y_move rfl) rfl ?_
          refine wl_nil ?_
          refine at_then ?_
          refine wc_block ?_
          -- at: loop
          refine wc_loop (σ := Nat) (fun i => i ≤ q) (fun i => q - i) (fun i => [(16, int g), (26, int want), (41, ptr b41 0), (298, sl b17 0 q q), (299, int q), (300, int (i : Int))]) (fun _ => (b41, row 86 (mdc (sbd lv q rw' (stg q g) me ev d) (dkf me q) (ivf (stg q g) me ev want q))) :: (b22, row 77 (frow (q * 2) fun z9 => S (c z9))) :: (b17, row 3 (frow q (fint me))) :: (b15, row 72 (geo lv q rw')) :: F) 0 (by omega) ⟨rfl, rfl, rfl, rfl, rfl, rfl, trivial⟩ rfl ?_
          intro i hi
          show WC _ _ _ _ [(16, int g), (26, int want), (41, ptr b41 0), (298, sl b17 0 q q), (299, int q), (300, int (i : Int))] _
          refine wc_seq ?_
          refine wc_region ?_
          refine wl_pu (y_lss rfl rfl) rfl ?_
          refine wl_nil ?_
          refine at_then ?_
          refine wc_seq ?_
          -- at: cond
          refine wc_condD rfl (fun hiq => ?_) (fun hiq => ?_)
          · skip
            have hiq' : i < q := by omega
            have hme := hP.lo i hiq'
            obtain ⟨f1, f2, f3⟩ := hFin.iv rfl hP hiq'
            refine wc_skip ?_
            refine at_then ?_
            refine wc_seq ?_
            refine wc_block ?_
            refine wc_seq ?_
            refine wc_region ?_
            refine wl_pu (y_move rfl) rfl ?_
            first | refine wl_pu (y_ix1 Try.underlying74 (by kernel_rfl) rfl rfl (by omega)) rfl ?_ | refine wl_pu (y_ix 1 Try.underlying74 (by kernel_rfl) rfl rfl (by omega)) rfl ?_
            refine wl_rd (y_load 2 rfl rfl (v := int (me i)) (by rw [Int.toNat_natCast]; exact frow_at _ hiq') (by kernel_rfl)) rfl ?_
            refine wl_pu (y_assign rfl) rfl ?_
            refine wl_pu (y_assign rfl) rfl ?_
            refine wl_nil ?_
            refine at_then ?_
            refine wc_join (σ := Unit) (fun _ => True) (fun _ => [(16, int g), (26, int want), (41, ptr b41 0), (43, int (i : Int)), (44, int (me i)), (45, .bool (decide (1 < want ∧ me i = g))), (298, sl b17 0 q q), (299, int q), (300, int (i : Int))]) (fun _ => (b41, row 86 (mdc (sbd lv q rw' (stg q g) me ev d) (dkf me q) (ivf (stg q g) me ev want q))) :: (b22, row 77 (frow (q * 2) fun z9 => S (c z9))) :: (b17, row 3 (frow q (fint me))) :: (b15, row 72 (geo lv q rw')) :: F) ?_ ?_
            · skip
              refine wc_region ?_
              refine wl_pu (y_move rfl) rfl ?_
              refine wl_pu (y_gtr rfl rfl) rfl ?_
              refine wl_pu (y_move rfl) rfl ?_
              refine wl_splitD 307 rfl (fun hw1 => ?_) (fun hw1 => ?_)
              · skip
                refine wl_gon rfl rfl ?_
                refine wl_pu (y_move rfl) rfl ?_
                refine wl_gon rfl rfl ?_
                refine wl_pu (y_move rfl) rfl ?_
                refine wl_gon rfl rfl ?_
                refine wl_pu (y_eql rfl rfl) rfl ?_
                first | refine wl_pu (y_pickT rfl rfl) rfl ?_ | refine wl_pu (y_pickF rfl rfl) rfl ?_
                refine wl_pu (y_assign rfl) rfl ?_
                refine wl_nil ?_
                -- at: join
                refine at_join () trivial ⟨rfl, rfl, rfl, rfl, rfl, by simp only [SL.lk]; simp [hw1], rfl, rfl, rfl, trivial⟩ ?_
                rfl
              · skip
                refine wl_goff rfl rfl rfl rfl ?_
                refine wl_goff rfl rfl rfl rfl ?_
                refine wl_goff rfl rfl rfl rfl ?_
                first | refine wl_pu (y_pickT rfl rfl) rfl ?_ | refine wl_pu (y_pickF rfl rfl) rfl ?_
                refine wl_pu (y_assign rfl) rfl ?_
                refine wl_nil ?_
                -- at: join
                refine at_join () trivial ⟨rfl, rfl, rfl, rfl, rfl, by simp only [SL.lk]; simp [hw1], rfl, rfl, rfl, trivial⟩ ?_
                rfl
            · rintro ⟨⟩ _
              refine wc_seq ?_
              refine wc_region ?_
              refine wl_pu (y_move rfl) rfl ?_
              first | refine wl_pu (y_fieldAddr0 12 Try.underlying86 rfl rfl (by kernel_rfl) rfl) rfl ?_ | refine wl_pu (y_fieldAddr 12 Try.underlying86 rfl rfl (by kernel_rfl) rfl) rfl ?_
              refine wl_pu (y_ixA 1 Try.underlying78 (by kernel_rfl) rfl rfl (by omega)) rfl ?_
              refine wl_rd (y_load 0 rfl rfl (v := int (i : Int)) (by rw [show 0 + 12 + (me i).toNat * 1 = 12 + (me i).toNat by omega, ← f1]; exact mdc_dk _ rfl _ _ _ (by omega)) (by kernel_rfl)) rfl ?_
              refine wl_pu (y_move rfl) rfl ?_
              refine wl_pu (y_neq rfl rfl) rfl ?_
              refine wl_pu (y_move rfl) rfl ?_
              -- at: guard 6
              refine wl_splitD 318 rfl (fun hc => absurd hc ((by simp))) (fun _ => ?_)
              refine wl_gon rfl rfl ?_
              refine wl_pu (y_move rfl) rfl ?_
              refine wl_gon rfl rfl ?_
              first | refine wl_pu (y_fieldAddr0 16 Try.underlying86 rfl rfl (by kernel_rfl) rfl) rfl ?_ | refine wl_pu (y_fieldAddr 16 Try.underlying86 rfl rfl (by kernel_rfl) rfl) rfl ?_
              refine wl_gon rfl rfl ?_
              refine wl_pu (y_ixA 1 Try.underlying84 (by kernel_rfl) rfl rfl (by omega)) rfl ?_
              refine wl_gon rfl rfl ?_
              refine wl_rd (y_load 0 rfl rfl (v := .bool (!decide (1 < want ∧ me i = g))) (by rw [show 0 + 16 + (me i).toNat * 1 = 16 + (me i).toNat by omega, ← f3]; exact mdc_iv _ rfl _ _ _ (by omega)) (by kernel_rfl)) rfl ?_
              refine wl_gon rfl rfl ?_
              refine wl_pu (y_move rfl) rfl ?_
              refine wl_gon rfl rfl ?_
              -- at: op (binOp eql 4 t322 t323 4)
              refine wl_pu (y_eqB (r := false) Try.underlying4 rfl rfl (by cases decide (1 < want ∧ me i = g) <;> rfl)) rfl ?_
              first | refine wl_pu (y_pickT rfl rfl) rfl ?_ | refine wl_pu (y_pickF rfl rfl) rfl ?_
              refine wl_pu (y_move rfl) rfl ?_
              -- at: guard 14
              refine wl_gon rfl rfl ?_
              refine wl_pu (y_move rfl) rfl ?_
              refine wl_gon rfl rfl ?_
              first | refine wl_pu (y_fieldAddr0 0 Try.underlying86 rfl rfl (by kernel_rfl) rfl) rfl ?_ | refine wl_pu (y_fieldAddr 0 Try.underlying86 rfl rfl (by kernel_rfl) rfl) rfl ?_
              refine wl_gon rfl rfl ?_
              first | refine wl_pu (y_fieldAddr0 7 Try.underlying80 rfl rfl (by kernel_rfl) rfl) rfl ?_ | refine wl_pu (y_fieldAddr 7 Try.underlying80 rfl rfl (by kernel_rfl) rfl) rfl ?_
              refine wl_gon rfl rfl ?_
              refine wl_pu (y_ixA 1 Try.underlying78 (by kernel_rfl) rfl rfl (by omega)) rfl ?_
              refine wl_gon rfl rfl ?_
              refine wl_rd (y_load 0 rfl rfl (v := int (if 1 < want ∧ me i = g then 2 else 1)) (by rw [← f2, show 0 + 7 + (me i).toNat * 1 = 7 + (me i).toNat by omega, ← hd2]; exact sbd_st (me i).toNat (by omega)) (by kernel_rfl)) rfl ?_
              refine wl_gon rfl rfl ?_
              refine wl_pu (y_eql rfl rfl) rfl ?_
              refine wl_gon rfl rfl ?_
              refine wl_pu (y_move rfl) rfl ?_
              refine wl_gon rfl rfl ?_
              -- at: op (binOp eql 4 t332 t333 4)
              refine wl_pu (y_eqB (r := false) Try.underlying4 rfl rfl (by by_cases hc : 1 < want ∧ me i = g <;> simp [hc])) rfl ?_
              first | refine wl_pu (y_pickT rfl rfl) rfl ?_ | refine wl_pu (y_pickF rfl rfl) rfl ?_
              refine wl_nil ?_
              refine at_then ?_
              -- at: cond
              refine wc_condF rfl ?_
              refine wc_skip ?_
              refine at_block_normal ?_
              refine at_then ?_
              refine wc_region ?_
              refine wl_pu (y_add rfl rfl (by omega)) rfl ?_
              refine wl_pu (y_move rfl) rfl ?_
              refine wl_nil ?_
              -- at: round
              exact at_again (i + 1) (by omega) (by omega) ⟨rfl, rfl, rfl, rfl, rfl, rfl, trivial⟩ rfl
          · skip
            refine wc_exit ?_
            refine at_then_exit ?_
            refine at_then_exit ?_
            refine at_block_same ?_
            refine at_then ?_
            refine wc_seq ?_
            refine wc_region ?_
            refine wl_pu (y_assign rfl) rfl ?_
            refine wl_nil ?_
            refine at_then ?_
            refine wc_ret ?_
            -- at: ret
            refine at_drop (at_drop (at_drop (at_drop ?_)))
            refine at_ret1 rfl rfl ?_
            exact ⟨rfl, rfl⟩
end Go.Proofs.Ytkpndnjhfocheaa
