/- A raid of noughts. -/
import Derived.Test.YtkpndnjhfocheaaRaidM
namespace Go.Proofs.Ytkpndnjhfocheaa
open Go.SL
variable {X : Inhabited SL.Outside}

theorem wo_perm {P : Program} {ops : List Oper} {Q : Exit → Act → World → Prop} {n i f : Nat} {l : List Bool} {E : Env} {L L' : Hp} (p : L.Perm L') (h : WO P ops Q n i f l E L') : WO P ops Q n i f l E L := fun a w hF hO => h a w hF (hO.perm p)

def nrec (lv n rw : Int) (v : Value) (m : Nat) (u : Value) : List Value := [int lv, int n, int rw, v, .bool (decide (0 < m)), .bool (decide (1 < m)), .bool (decide (2 < m)), .bool (decide (3 < m)), u]
theorem nrec_set (lv n rw : Int) (v u : Value) (m : Nat) (h : m < 4) : (nrec lv n rw v m u).set (4 + m * 1) (.bool true) = nrec lv n rw v (m + 1) u := by
  rcases m with _|_|_|_|m <;> first | rfl | omega
def ndks (rw : Nat) (bks : List Nat) : Hp := bks.map fun b => (b, row 9 (List.replicate rw (S (rep 0))))
theorem ndks_snoc (rw : Nat) (bks : List Nat) (b : Nat) (F : Hp) : ndks rw (bks ++ [b]) ++ F = ndks rw bks ++ ((b, row 9 (List.replicate rw (S (rep 0)))) :: F) := by simp [ndks]
theorem built36 (b c : Nat) : builtS Try.prog 36 1 [(0, sl b 0 c c)] = some ⟨[sl b 0 c c]⟩ := by kernel_rfl
theorem getD_map {α : Type} (bks : List Nat) {n : Nat} (h : bks.length = n) (g : Nat → α) : (List.range n).map (fun q => g (bks.getD q 0)) = bks.map g := by
  apply List.ext_getElem?
  intro q
  by_cases hq : q < bks.length
  · simp [hq, ← h]
  · simp [← h, hq]

theorem noughts_spec (F : Hp) (kind : Int) (hk : 0 ≤ kind ∧ kind < 256) :
    Ctr Try.prog 39 [.int .u8 kind] F (fun v L' => ∃ R : RD, v = ptr R.bx 0 ∧ RS R (fun _ _ => 0) ∧ (∀ m : Int, 0 ≤ m → m < R.n → R.f m = true) ∧ L' = R.hp F) := by
  have hG := rshape_ok kind
  obtain ⟨n, hn⟩ : ∃ n : Nat, 2 + kind % 3 = (n : Int) := ⟨(2 + kind % 3).toNat, by omega⟩
  obtain ⟨rw', hrw⟩ : ∃ rw : Nat, 2 + kind / 3 % 8 * 2 = (rw : Int) := ⟨(2 + kind / 3 % 8 * 2).toNat, by omega⟩
  have hn4 : 2 ≤ n ∧ n ≤ 4 := by omega
  refine spec_body Try.func39 Try.ntmps39 rfl rfl ?_
  refine wc_seq ?_
  refine wc_region ?_
  refine wl_pu (y_assign rfl) rfl ?_
  refine wl_nil ?_
  refine at_then ?_
  refine wc_seq ?_
  refine wc_region ?_
  refine wl_pu (y_move rfl) rfl ?_
  -- at: op (call {callee:(value (func 33)), args:[t5], argTypes:[5]})
  refine wl_do (d_call (by kernel_rfl) rfl (rshape_spec _ kind hk)) rfl ?_
  rintro _ L9 ⟨rfl, hL9⟩
  rw [hL9]
  clear hL9
  rw [hn, hrw] at hG ⊢
  generalize hlv : rshLv kind = lv at hG ⊢
  have hlo := hG.lo
  have hhi := hG.hi
  have hsz : (rw' : Int) * ((n : Int) - 1) = ((rw' * (n - 1) : Nat) : Int) := by
    obtain ⟨n', rfl⟩ : ∃ n', n = n' + 1 := ⟨n - 1, by omega⟩
    push_cast
    simp
  have hszl : 1 ≤ rw' * (n - 1) ∧ rw' * (n - 1) ≤ 192 := by
    have h1 : n = 2 ∨ n = 3 ∨ n = 4 := by omega
    rcases h1 with rfl | rfl | rfl <;> simp <;> omega
  refine wl_pu (y_build [int lv, int n, int rw', .slice none 0 0, .bool false, .bool false, .bool false, .bool false, .slice none 0 0] rfl (by kernel_rfl)) rfl ?_
  refine wl_do (d_box rfl) rfl ?_
  rintro _ _ ⟨bx, rfl, rfl⟩
  refine wl_heap ((bx, row 98 (nrec lv n rw' (.slice none 0 0) 0 (.slice none 0 0))) :: F) rfl ?_
  refine wl_pu (y_assign rfl) rfl ?_
  refine wl_nil ?_
  refine at_then ?_
  refine wc_seq ?_
  refine wc_seq ?_
  refine wc_region ?_
  refine wl_pu (y_move rfl) rfl ?_
  refine wl_pu (y_nil rfl) rfl ?_
  first | refine wl_pu (y_fieldAddr0 0 Try.underlying98 rfl rfl (by kernel_rfl) rfl) rfl ?_ | refine wl_pu (y_fieldAddr 0 Try.underlying98 rfl rfl (by kernel_rfl) rfl) rfl ?_
  first | refine wl_pu (y_fieldAddr0 1 Try.underlying72 rfl rfl (by kernel_rfl) rfl) rfl ?_ | refine wl_pu (y_fieldAddr 1 Try.underlying72 rfl rfl (by kernel_rfl) rfl) rfl ?_
  first | refine wl_rd (y_load 0 rfl rfl rfl (by kernel_rfl)) rfl ?_ | refine wl_rd (y_load 1 rfl rfl rfl (by kernel_rfl)) rfl ?_ | refine wl_rd (y_load 2 rfl rfl rfl (by kernel_rfl)) rfl ?_ | refine wl_rd (y_load 3 rfl rfl rfl (by kernel_rfl)) rfl ?_ | refine wl_rd (y_load 4 rfl rfl rfl (by kernel_rfl)) rfl ?_ | refine wl_rd (y_load 5 rfl rfl rfl (by kernel_rfl)) rfl ?_
  refine wl_pu (y_move rfl) rfl ?_
  refine wl_nil ?_
  refine at_then ?_
  refine wc_block ?_
  -- at: loop
  refine wc_loop (σ := Value × List Nat × Hp) (fun s => s.2.1.length ≤ n ∧ SlF 36 1 s.1 s.2.1.length (s.2.1.map fun b => sl b 0 rw' rw') s.2.2) (fun s => n - s.2.1.length) (fun s => [(3, ptr bx 0), (13, int (n : Int)), (14, int (s.2.1.length : Int))])
    (fun s => (bx, row 98 (nrec lv n rw' s.1 s.2.1.length (.slice none 0 0))) :: (s.2.2 ++ (ndks rw' s.2.1 ++ F))) (.slice none 0 0, [], []) ⟨Nat.zero_le _, .nil⟩ ⟨rfl, rfl, rfl, trivial⟩ rfl ?_
  rintro ⟨v, bks, fd⟩ ⟨hl, hS⟩
  simp only [] at hl hS
  show WC _ _ _ _ [(3, ptr bx 0), (13, int (n : Int)), (14, int (bks.length : Int))] ((bx, row 98 (nrec lv n rw' v bks.length (.slice none 0 0))) :: (fd ++ (ndks rw' bks ++ F)))
  obtain ⟨m, hm⟩ : ∃ m, bks.length = m := ⟨_, rfl⟩
  refine wc_heap ((bx, row 98 (nrec lv n rw' v m (.slice none 0 0))) :: (fd ++ (ndks rw' bks ++ F))) (by rw [hm]) ?_
  refine wc_env [(3, ptr bx 0), (13, int (n : Int)), (14, int (m : Int))] ⟨rfl, rfl, by show some _ = some _; rw [hm], trivial⟩ ?_
  rw [hm] at hl hS
  refine wc_seq ?_
  refine wc_region ?_
  refine wl_pu (y_lss rfl rfl) rfl ?_
  refine wl_nil ?_
  refine at_then ?_
  refine wc_seq ?_
  -- at: cond
  refine wc_condD rfl (fun h => ?_) (fun h => ?_)
  · skip
    have hmn : m < n := by omega
    refine wc_skip ?_
    refine at_then ?_
    refine wc_seq ?_
    refine wc_block ?_
    refine wc_seq ?_
    refine wc_region ?_
    refine wl_pu (y_move rfl) rfl ?_
    refine wl_pu (y_assign rfl) rfl ?_
    refine wl_nil ?_
    refine at_then ?_
    refine wc_seq ?_
    refine wc_region ?_
    refine wl_pu (y_move rfl) rfl ?_
    refine wl_pu (y_move rfl) rfl ?_
    refine wl_pu (y_nil rfl) rfl ?_
    first | refine wl_pu (y_fieldAddr0 4 Try.underlying98 rfl rfl (by kernel_rfl) rfl) rfl ?_ | refine wl_pu (y_fieldAddr 4 Try.underlying98 rfl rfl (by kernel_rfl) rfl) rfl ?_
    refine wl_pu (y_ixA 1 Try.underlying84 (by kernel_rfl) rfl rfl (by omega)) rfl ?_
    refine wl_do0 (d_store 0 rfl rfl rfl (Nat.ble_eq_true_of_le (by rw [Int.toNat_natCast]; show 4 + m * 1 + 1 ≤ 9; omega)) rfl (by kernel_rfl)) (fun _ _ hL => ?_)
    subst hL
    refine wl_heap ((bx, row 98 (nrec lv n rw' v (m + 1) (.slice none 0 0))) :: (fd ++ (ndks rw' bks ++ F))) (by show (bx, row 98 ((nrec lv n rw' v m (.slice none 0 0)).set (4 + ((m : Nat) : Int).toNat * 1) _)) :: _ = _; rw [Int.toNat_natCast, nrec_set _ _ _ _ _ _ (by omega)]) ?_
    refine wl_nil ?_
    refine at_then ?_
    -- at: draw
    refine wc_anyN (by kernel_rfl) ?_
    refine wy_pu (i := 0) rfl (by kernel_rfl) (y_move rfl) rfl ?_
    refine wy_pu (i := 1) rfl (by kernel_rfl) (y_move rfl) rfl ?_
    refine wy_pu (i := 2) rfl (by kernel_rfl) (y_nil rfl) rfl ?_
    first | refine wy_pu (i := 3) rfl (by kernel_rfl) (y_fieldAddr0 3 Try.underlying98 rfl rfl (by kernel_rfl) rfl) rfl ?_ | refine wy_pu (i := 3) rfl (by kernel_rfl) (y_fieldAddr 3 Try.underlying98 rfl rfl (by kernel_rfl) rfl) rfl ?_
    refine wy_pu (i := 7) rfl (by kernel_rfl) (y_move rfl) rfl ?_
    refine wy_pu (i := 8) rfl (by kernel_rfl) (y_nil rfl) rfl ?_
    first | refine wy_pu (i := 9) rfl (by kernel_rfl) (y_fieldAddr0 0 Try.underlying98 rfl rfl (by kernel_rfl) rfl) rfl ?_ | refine wy_pu (i := 9) rfl (by kernel_rfl) (y_fieldAddr 0 Try.underlying98 rfl rfl (by kernel_rfl) rfl) rfl ?_
    first | refine wy_pu (i := 10) rfl (by kernel_rfl) (y_fieldAddr0 2 Try.underlying72 rfl rfl (by kernel_rfl) rfl) rfl ?_ | refine wy_pu (i := 10) rfl (by kernel_rfl) (y_fieldAddr 2 Try.underlying72 rfl rfl (by kernel_rfl) rfl) rfl ?_
    refine wy_3 (i := 4) (j := 5) (k := 11) (by kernel_rfl) ?_ ?_ ?_
    · skip
      first | refine wo_rd rfl (y_load 0 rfl rfl (v := v) rfl (by kernel_rfl)) rfl ?_ | refine wo_rd rfl (y_load 1 rfl rfl (v := v) rfl (by kernel_rfl)) rfl ?_ | refine wo_rd rfl (y_load 2 rfl rfl (v := v) rfl (by kernel_rfl)) rfl ?_
      refine wy_2 (i := 5) (j := 11) (by kernel_rfl) ?_ ?_
      · skip
        refine wo_do rfl (d_call (by kernel_rfl) rfl (rep1_spec _ 0 64 (by omega))) rfl ?_
        rintro _ L9 ⟨rfl, hL9⟩
        rw [hL9]
        clear hL9
        refine wy_2 (i := 6) (j := 11) (by kernel_rfl) ?_ ?_
        · skip
          refine wo_do rfl (d_buildSlice [S (rep 0)] Try.underlying36 rfl (built9 _)) rfl ?_
          rintro _ _ ⟨b1, rfl, rfl⟩
          refine wy_1 (i := 11) (by kernel_rfl) ?_
          first | refine wo_rd rfl (y_load 0 rfl rfl (v := int rw') rfl (by kernel_rfl)) rfl ?_ | refine wo_rd rfl (y_load 1 rfl rfl (v := int rw') rfl (by kernel_rfl)) rfl ?_
          refine wy_1 (i := 12) (by kernel_rfl) ?_
          refine wo_do rfl (d_call (by kernel_rfl) rfl (repeatS_spec _ b1 (rep 0) rw' (by omega))) rfl ?_
          rintro _ _ ⟨b2, rfl, rfl⟩
          refine wy_1 (i := 13) (by kernel_rfl) ?_
          refine wo_do rfl (d_buildSlice [sl b2 0 rw' rw'] Try.underlying96 rfl (built36 _ _)) rfl ?_
          rintro _ _ ⟨b3, rfl, rfl⟩
          refine wy_1 (i := 14) (by kernel_rfl) ?_
          refine wo_perm (L' := fd ++ ((b3, row 36 [sl b2 0 rw' rw']) :: (b2, row 9 (List.replicate rw' (S (rep 0)))) :: (bx, row 98 (nrec lv n rw' v (m + 1) (.slice none 0 0))) :: (ndks rw' bks ++ F))) (((List.Perm.cons _ (List.Perm.cons _ perm_mid.symm)).trans (List.Perm.cons _ perm_mid.symm)).trans perm_mid.symm) ?_
          refine wo_do rfl (d_append (sz := 1) (bytes := 24) (L0 := (b3, row 36 [sl b2 0 rw' rw']) :: (b2, row 9 (List.replicate rw' (S (rep 0)))) :: (bx, row 98 (nrec lv n rw' v (m + 1) (.slice none 0 0))) :: (ndks rw' bks ++ F)) 0 (.slice none 0 0) Try.underlying96 (by kernel_rfl) rfl rfl rfl hS rfl rfl (news := [sl b2 0 rw' rw']) rfl rfl rfl (by omega) (by omega)) rfl ?_
          rintro v' _ ⟨fd', hS', rfl⟩
          refine wy_perm (L' := (b3, row 36 [sl b2 0 rw' rw']) :: (bx, row 98 (nrec lv n rw' v (m + 1) (.slice none 0 0))) :: (fd' ++ (ndks rw' (bks ++ [b2]) ++ F))) ?_ (wy_drop ?_)
          · rw [ndks_snoc]
            refine perm_mid.trans (List.Perm.cons _ ?_)
            refine (List.Perm.append_left fd' Go.SL.p1).trans (perm_mid.trans (List.Perm.cons _ (List.Perm.append_left fd' ?_)))
            exact perm_mid.symm
          refine wy_pu (i := 15) rfl (by kernel_rfl) (y_nil rfl) rfl ?_
          first | refine wy_pu (i := 16) rfl (by kernel_rfl) (y_fieldAddr0 3 Try.underlying98 rfl rfl (by kernel_rfl) rfl) rfl ?_ | refine wy_pu (i := 16) rfl (by kernel_rfl) (y_fieldAddr 3 Try.underlying98 rfl rfl (by kernel_rfl) rfl) rfl ?_
          refine wy_1 (i := 17) (by kernel_rfl) ?_
          refine wo_do0 rfl (d_store 0 rfl rfl rfl rfl (slF_one hS') (by kernel_rfl)) (fun _ _ hL => ?_)
          subst hL
          refine wy_heap ((bx, row 98 (nrec lv n rw' v' (m + 1) (.slice none 0 0))) :: (fd' ++ (ndks rw' (bks ++ [b2]) ++ F))) rfl ?_
          refine wy_nil (by kernel_rfl) ?_
          refine at_nq ?_
          refine at_block_normal ?_
          refine at_then ?_
          refine wc_region ?_
          refine wl_pu (y_add rfl rfl (by omega)) rfl ?_
          refine wl_pu (y_move rfl) rfl ?_
          refine wl_nil ?_
          exact at_again (v', bks ++ [b2], fd') ⟨by show (bks ++ [b2]).length ≤ n; simp; omega, by show SlF 36 1 v' (bks ++ [b2]).length _ fd'; rw [List.length_append, hm, List.map_append]; exact hS'⟩ (by show n - (bks ++ [b2]).length < n - bks.length; simp; omega) ⟨rfl, rfl, by show some _ = some _; rw [List.length_append, hm]; rfl, trivial⟩ (by show (bx, row 98 (nrec lv n rw' v' (bks ++ [b2]).length (.slice none 0 0))) :: _ = _; rw [List.length_append, hm]; rfl)
        · skip
          first | refine wo_rd rfl (y_load 0 rfl rfl (v := int rw') rfl (by kernel_rfl)) rfl ?_ | refine wo_rd rfl (y_load 1 rfl rfl (v := int rw') rfl (by kernel_rfl)) rfl ?_
          refine wy_1 (i := 6) (by kernel_rfl) ?_
          refine wo_do rfl (d_buildSlice [S (rep 0)] Try.underlying36 rfl (built9 _)) rfl ?_
          rintro _ _ ⟨b1, rfl, rfl⟩
          refine wy_1 (i := 12) (by kernel_rfl) ?_
          refine wo_do rfl (d_call (by kernel_rfl) rfl (repeatS_spec _ b1 (rep 0) rw' (by omega))) rfl ?_
          rintro _ _ ⟨b2, rfl, rfl⟩
          refine wy_1 (i := 13) (by kernel_rfl) ?_
          refine wo_do rfl (d_buildSlice [sl b2 0 rw' rw'] Try.underlying96 rfl (built36 _ _)) rfl ?_
          rintro _ _ ⟨b3, rfl, rfl⟩
          refine wy_1 (i := 14) (by kernel_rfl) ?_
          refine wo_perm (L' := fd ++ ((b3, row 36 [sl b2 0 rw' rw']) :: (b2, row 9 (List.replicate rw' (S (rep 0)))) :: (bx, row 98 (nrec lv n rw' v (m + 1) (.slice none 0 0))) :: (ndks rw' bks ++ F))) (((List.Perm.cons _ (List.Perm.cons _ perm_mid.symm)).trans (List.Perm.cons _ perm_mid.symm)).trans perm_mid.symm) ?_
          refine wo_do rfl (d_append (sz := 1) (bytes := 24) (L0 := (b3, row 36 [sl b2 0 rw' rw']) :: (b2, row 9 (List.replicate rw' (S (rep 0)))) :: (bx, row 98 (nrec lv n rw' v (m + 1) (.slice none 0 0))) :: (ndks rw' bks ++ F)) 0 (.slice none 0 0) Try.underlying96 (by kernel_rfl) rfl rfl rfl hS rfl rfl (news := [sl b2 0 rw' rw']) rfl rfl rfl (by omega) (by omega)) rfl ?_
          rintro v' _ ⟨fd', hS', rfl⟩
          refine wy_perm (L' := (b3, row 36 [sl b2 0 rw' rw']) :: (bx, row 98 (nrec lv n rw' v (m + 1) (.slice none 0 0))) :: (fd' ++ (ndks rw' (bks ++ [b2]) ++ F))) ?_ (wy_drop ?_)
          · rw [ndks_snoc]
            refine perm_mid.trans (List.Perm.cons _ ?_)
            refine (List.Perm.append_left fd' Go.SL.p1).trans (perm_mid.trans (List.Perm.cons _ (List.Perm.append_left fd' ?_)))
            exact perm_mid.symm
          refine wy_pu (i := 15) rfl (by kernel_rfl) (y_nil rfl) rfl ?_
          first | refine wy_pu (i := 16) rfl (by kernel_rfl) (y_fieldAddr0 3 Try.underlying98 rfl rfl (by kernel_rfl) rfl) rfl ?_ | refine wy_pu (i := 16) rfl (by kernel_rfl) (y_fieldAddr 3 Try.underlying98 rfl rfl (by kernel_rfl) rfl) rfl ?_
          refine wy_1 (i := 17) (by kernel_rfl) ?_
          refine wo_do0 rfl (d_store 0 rfl rfl rfl rfl (slF_one hS') (by kernel_rfl)) (fun _ _ hL => ?_)
          subst hL
          refine wy_heap ((bx, row 98 (nrec lv n rw' v' (m + 1) (.slice none 0 0))) :: (fd' ++ (ndks rw' (bks ++ [b2]) ++ F))) rfl ?_
          refine wy_nil (by kernel_rfl) ?_
          refine at_nq ?_
          refine at_block_normal ?_
          refine at_then ?_
          refine wc_region ?_
          refine wl_pu (y_add rfl rfl (by omega)) rfl ?_
          refine wl_pu (y_move rfl) rfl ?_
          refine wl_nil ?_
          exact at_again (v', bks ++ [b2], fd') ⟨by show (bks ++ [b2]).length ≤ n; simp; omega, by show SlF 36 1 v' (bks ++ [b2]).length _ fd'; rw [List.length_append, hm, List.map_append]; exact hS'⟩ (by show n - (bks ++ [b2]).length < n - bks.length; simp; omega) ⟨rfl, rfl, by show some _ = some _; rw [List.length_append, hm]; rfl, trivial⟩ (by show (bx, row 98 (nrec lv n rw' v' (bks ++ [b2]).length (.slice none 0 0))) :: _ = _; rw [List.length_append, hm]; rfl)
      · skip
        first | refine wo_rd rfl (y_load 0 rfl rfl (v := int rw') rfl (by kernel_rfl)) rfl ?_ | refine wo_rd rfl (y_load 1 rfl rfl (v := int rw') rfl (by kernel_rfl)) rfl ?_
        refine wy_1 (i := 5) (by kernel_rfl) ?_
        refine wo_do rfl (d_call (by kernel_rfl) rfl (rep1_spec _ 0 64 (by omega))) rfl ?_
        rintro _ L9 ⟨rfl, hL9⟩
        rw [hL9]
        clear hL9
        refine wy_1 (i := 6) (by kernel_rfl) ?_
        refine wo_do rfl (d_buildSlice [S (rep 0)] Try.underlying36 rfl (built9 _)) rfl ?_
        rintro _ _ ⟨b1, rfl, rfl⟩
        refine wy_1 (i := 12) (by kernel_rfl) ?_
        refine wo_do rfl (d_call (by kernel_rfl) rfl (repeatS_spec _ b1 (rep 0) rw' (by omega))) rfl ?_
        rintro _ _ ⟨b2, rfl, rfl⟩
        refine wy_1 (i := 13) (by kernel_rfl) ?_
        refine wo_do rfl (d_buildSlice [sl b2 0 rw' rw'] Try.underlying96 rfl (built36 _ _)) rfl ?_
        rintro _ _ ⟨b3, rfl, rfl⟩
        refine wy_1 (i := 14) (by kernel_rfl) ?_
        refine wo_perm (L' := fd ++ ((b3, row 36 [sl b2 0 rw' rw']) :: (b2, row 9 (List.replicate rw' (S (rep 0)))) :: (bx, row 98 (nrec lv n rw' v (m + 1) (.slice none 0 0))) :: (ndks rw' bks ++ F))) (((List.Perm.cons _ (List.Perm.cons _ perm_mid.symm)).trans (List.Perm.cons _ perm_mid.symm)).trans perm_mid.symm) ?_
        refine wo_do rfl (d_append (sz := 1) (bytes := 24) (L0 := (b3, row 36 [sl b2 0 rw' rw']) :: (b2, row 9 (List.replicate rw' (S (rep 0)))) :: (bx, row 98 (nrec lv n rw' v (m + 1) (.slice none 0 0))) :: (ndks rw' bks ++ F)) 0 (.slice none 0 0) Try.underlying96 (by kernel_rfl) rfl rfl rfl hS rfl rfl (news := [sl b2 0 rw' rw']) rfl rfl rfl (by omega) (by omega)) rfl ?_
        rintro v' _ ⟨fd', hS', rfl⟩
        refine wy_perm (L' := (b3, row 36 [sl b2 0 rw' rw']) :: (bx, row 98 (nrec lv n rw' v (m + 1) (.slice none 0 0))) :: (fd' ++ (ndks rw' (bks ++ [b2]) ++ F))) ?_ (wy_drop ?_)
        · rw [ndks_snoc]
          refine perm_mid.trans (List.Perm.cons _ ?_)
          refine (List.Perm.append_left fd' Go.SL.p1).trans (perm_mid.trans (List.Perm.cons _ (List.Perm.append_left fd' ?_)))
          exact perm_mid.symm
        refine wy_pu (i := 15) rfl (by kernel_rfl) (y_nil rfl) rfl ?_
        first | refine wy_pu (i := 16) rfl (by kernel_rfl) (y_fieldAddr0 3 Try.underlying98 rfl rfl (by kernel_rfl) rfl) rfl ?_ | refine wy_pu (i := 16) rfl (by kernel_rfl) (y_fieldAddr 3 Try.underlying98 rfl rfl (by kernel_rfl) rfl) rfl ?_
        refine wy_1 (i := 17) (by kernel_rfl) ?_
        refine wo_do0 rfl (d_store 0 rfl rfl rfl rfl (slF_one hS') (by kernel_rfl)) (fun _ _ hL => ?_)
        subst hL
        refine wy_heap ((bx, row 98 (nrec lv n rw' v' (m + 1) (.slice none 0 0))) :: (fd' ++ (ndks rw' (bks ++ [b2]) ++ F))) rfl ?_
        refine wy_nil (by kernel_rfl) ?_
        refine at_nq ?_
        refine at_block_normal ?_
        refine at_then ?_
        refine wc_region ?_
        refine wl_pu (y_add rfl rfl (by omega)) rfl ?_
        refine wl_pu (y_move rfl) rfl ?_
        refine wl_nil ?_
        exact at_again (v', bks ++ [b2], fd') ⟨by show (bks ++ [b2]).length ≤ n; simp; omega, by show SlF 36 1 v' (bks ++ [b2]).length _ fd'; rw [List.length_append, hm, List.map_append]; exact hS'⟩ (by show n - (bks ++ [b2]).length < n - bks.length; simp; omega) ⟨rfl, rfl, by show some _ = some _; rw [List.length_append, hm]; rfl, trivial⟩ (by show (bx, row 98 (nrec lv n rw' v' (bks ++ [b2]).length (.slice none 0 0))) :: _ = _; rw [List.length_append, hm]; rfl)
    · skip
      refine wo_do rfl (d_call (by kernel_rfl) rfl (rep1_spec _ 0 64 (by omega))) rfl ?_
      rintro _ L9 ⟨rfl, hL9⟩
      rw [hL9]
      clear hL9
      refine wy_3 (i := 4) (j := 6) (k := 11) (by kernel_rfl) ?_ ?_ ?_
      · skip
        first | refine wo_rd rfl (y_load 0 rfl rfl (v := v) rfl (by kernel_rfl)) rfl ?_ | refine wo_rd rfl (y_load 1 rfl rfl (v := v) rfl (by kernel_rfl)) rfl ?_ | refine wo_rd rfl (y_load 2 rfl rfl (v := v) rfl (by kernel_rfl)) rfl ?_
        refine wy_2 (i := 6) (j := 11) (by kernel_rfl) ?_ ?_
        · skip
          refine wo_do rfl (d_buildSlice [S (rep 0)] Try.underlying36 rfl (built9 _)) rfl ?_
          rintro _ _ ⟨b1, rfl, rfl⟩
          refine wy_1 (i := 11) (by kernel_rfl) ?_
          first | refine wo_rd rfl (y_load 0 rfl rfl (v := int rw') rfl (by kernel_rfl)) rfl ?_ | refine wo_rd rfl (y_load 1 rfl rfl (v := int rw') rfl (by kernel_rfl)) rfl ?_
          refine wy_1 (i := 12) (by kernel_rfl) ?_
          refine wo_do rfl (d_call (by kernel_rfl) rfl (repeatS_spec _ b1 (rep 0) rw' (by omega))) rfl ?_
          rintro _ _ ⟨b2, rfl, rfl⟩
          refine wy_1 (i := 13) (by kernel_rfl) ?_
          refine wo_do rfl (d_buildSlice [sl b2 0 rw' rw'] Try.underlying96 rfl (built36 _ _)) rfl ?_
          rintro _ _ ⟨b3, rfl, rfl⟩
          refine wy_1 (i := 14) (by kernel_rfl) ?_
          refine wo_perm (L' := fd ++ ((b3, row 36 [sl b2 0 rw' rw']) :: (b2, row 9 (List.replicate rw' (S (rep 0)))) :: (bx, row 98 (nrec lv n rw' v (m + 1) (.slice none 0 0))) :: (ndks rw' bks ++ F))) (((List.Perm.cons _ (List.Perm.cons _ perm_mid.symm)).trans (List.Perm.cons _ perm_mid.symm)).trans perm_mid.symm) ?_
          refine wo_do rfl (d_append (sz := 1) (bytes := 24) (L0 := (b3, row 36 [sl b2 0 rw' rw']) :: (b2, row 9 (List.replicate rw' (S (rep 0)))) :: (bx, row 98 (nrec lv n rw' v (m + 1) (.slice none 0 0))) :: (ndks rw' bks ++ F)) 0 (.slice none 0 0) Try.underlying96 (by kernel_rfl) rfl rfl rfl hS rfl rfl (news := [sl b2 0 rw' rw']) rfl rfl rfl (by omega) (by omega)) rfl ?_
          rintro v' _ ⟨fd', hS', rfl⟩
          refine wy_perm (L' := (b3, row 36 [sl b2 0 rw' rw']) :: (bx, row 98 (nrec lv n rw' v (m + 1) (.slice none 0 0))) :: (fd' ++ (ndks rw' (bks ++ [b2]) ++ F))) ?_ (wy_drop ?_)
          · rw [ndks_snoc]
            refine perm_mid.trans (List.Perm.cons _ ?_)
            refine (List.Perm.append_left fd' Go.SL.p1).trans (perm_mid.trans (List.Perm.cons _ (List.Perm.append_left fd' ?_)))
            exact perm_mid.symm
          refine wy_pu (i := 15) rfl (by kernel_rfl) (y_nil rfl) rfl ?_
          first | refine wy_pu (i := 16) rfl (by kernel_rfl) (y_fieldAddr0 3 Try.underlying98 rfl rfl (by kernel_rfl) rfl) rfl ?_ | refine wy_pu (i := 16) rfl (by kernel_rfl) (y_fieldAddr 3 Try.underlying98 rfl rfl (by kernel_rfl) rfl) rfl ?_
          refine wy_1 (i := 17) (by kernel_rfl) ?_
          refine wo_do0 rfl (d_store 0 rfl rfl rfl rfl (slF_one hS') (by kernel_rfl)) (fun _ _ hL => ?_)
          subst hL
          refine wy_heap ((bx, row 98 (nrec lv n rw' v' (m + 1) (.slice none 0 0))) :: (fd' ++ (ndks rw' (bks ++ [b2]) ++ F))) rfl ?_
          refine wy_nil (by kernel_rfl) ?_
          refine at_nq ?_
          refine at_block_normal ?_
          refine at_then ?_
          refine wc_region ?_
          refine wl_pu (y_add rfl rfl (by omega)) rfl ?_
          refine wl_pu (y_move rfl) rfl ?_
          refine wl_nil ?_
          exact at_again (v', bks ++ [b2], fd') ⟨by show (bks ++ [b2]).length ≤ n; simp; omega, by show SlF 36 1 v' (bks ++ [b2]).length _ fd'; rw [List.length_append, hm, List.map_append]; exact hS'⟩ (by show n - (bks ++ [b2]).length < n - bks.length; simp; omega) ⟨rfl, rfl, by show some _ = some _; rw [List.length_append, hm]; rfl, trivial⟩ (by show (bx, row 98 (nrec lv n rw' v' (bks ++ [b2]).length (.slice none 0 0))) :: _ = _; rw [List.length_append, hm]; rfl)
        · skip
          first | refine wo_rd rfl (y_load 0 rfl rfl (v := int rw') rfl (by kernel_rfl)) rfl ?_ | refine wo_rd rfl (y_load 1 rfl rfl (v := int rw') rfl (by kernel_rfl)) rfl ?_
          refine wy_1 (i := 6) (by kernel_rfl) ?_
          refine wo_do rfl (d_buildSlice [S (rep 0)] Try.underlying36 rfl (built9 _)) rfl ?_
          rintro _ _ ⟨b1, rfl, rfl⟩
          refine wy_1 (i := 12) (by kernel_rfl) ?_
          refine wo_do rfl (d_call (by kernel_rfl) rfl (repeatS_spec _ b1 (rep 0) rw' (by omega))) rfl ?_
          rintro _ _ ⟨b2, rfl, rfl⟩
          refine wy_1 (i := 13) (by kernel_rfl) ?_
          refine wo_do rfl (d_buildSlice [sl b2 0 rw' rw'] Try.underlying96 rfl (built36 _ _)) rfl ?_
          rintro _ _ ⟨b3, rfl, rfl⟩
          refine wy_1 (i := 14) (by kernel_rfl) ?_
          refine wo_perm (L' := fd ++ ((b3, row 36 [sl b2 0 rw' rw']) :: (b2, row 9 (List.replicate rw' (S (rep 0)))) :: (bx, row 98 (nrec lv n rw' v (m + 1) (.slice none 0 0))) :: (ndks rw' bks ++ F))) (((List.Perm.cons _ (List.Perm.cons _ perm_mid.symm)).trans (List.Perm.cons _ perm_mid.symm)).trans perm_mid.symm) ?_
          refine wo_do rfl (d_append (sz := 1) (bytes := 24) (L0 := (b3, row 36 [sl b2 0 rw' rw']) :: (b2, row 9 (List.replicate rw' (S (rep 0)))) :: (bx, row 98 (nrec lv n rw' v (m + 1) (.slice none 0 0))) :: (ndks rw' bks ++ F)) 0 (.slice none 0 0) Try.underlying96 (by kernel_rfl) rfl rfl rfl hS rfl rfl (news := [sl b2 0 rw' rw']) rfl rfl rfl (by omega) (by omega)) rfl ?_
          rintro v' _ ⟨fd', hS', rfl⟩
          refine wy_perm (L' := (b3, row 36 [sl b2 0 rw' rw']) :: (bx, row 98 (nrec lv n rw' v (m + 1) (.slice none 0 0))) :: (fd' ++ (ndks rw' (bks ++ [b2]) ++ F))) ?_ (wy_drop ?_)
          · rw [ndks_snoc]
            refine perm_mid.trans (List.Perm.cons _ ?_)
            refine (List.Perm.append_left fd' Go.SL.p1).trans (perm_mid.trans (List.Perm.cons _ (List.Perm.append_left fd' ?_)))
            exact perm_mid.symm
          refine wy_pu (i := 15) rfl (by kernel_rfl) (y_nil rfl) rfl ?_
          first | refine wy_pu (i := 16) rfl (by kernel_rfl) (y_fieldAddr0 3 Try.underlying98 rfl rfl (by kernel_rfl) rfl) rfl ?_ | refine wy_pu (i := 16) rfl (by kernel_rfl) (y_fieldAddr 3 Try.underlying98 rfl rfl (by kernel_rfl) rfl) rfl ?_
          refine wy_1 (i := 17) (by kernel_rfl) ?_
          refine wo_do0 rfl (d_store 0 rfl rfl rfl rfl (slF_one hS') (by kernel_rfl)) (fun _ _ hL => ?_)
          subst hL
          refine wy_heap ((bx, row 98 (nrec lv n rw' v' (m + 1) (.slice none 0 0))) :: (fd' ++ (ndks rw' (bks ++ [b2]) ++ F))) rfl ?_
          refine wy_nil (by kernel_rfl) ?_
          refine at_nq ?_
          refine at_block_normal ?_
          refine at_then ?_
          refine wc_region ?_
          refine wl_pu (y_add rfl rfl (by omega)) rfl ?_
          refine wl_pu (y_move rfl) rfl ?_
          refine wl_nil ?_
          exact at_again (v', bks ++ [b2], fd') ⟨by show (bks ++ [b2]).length ≤ n; simp; omega, by show SlF 36 1 v' (bks ++ [b2]).length _ fd'; rw [List.length_append, hm, List.map_append]; exact hS'⟩ (by show n - (bks ++ [b2]).length < n - bks.length; simp; omega) ⟨rfl, rfl, by show some _ = some _; rw [List.length_append, hm]; rfl, trivial⟩ (by show (bx, row 98 (nrec lv n rw' v' (bks ++ [b2]).length (.slice none 0 0))) :: _ = _; rw [List.length_append, hm]; rfl)
      · skip
        refine wo_do rfl (d_buildSlice [S (rep 0)] Try.underlying36 rfl (built9 _)) rfl ?_
        rintro _ _ ⟨b1, rfl, rfl⟩
        refine wy_2 (i := 4) (j := 11) (by kernel_rfl) ?_ ?_
        · skip
          first | refine wo_rd rfl (y_load 0 rfl rfl (v := v) rfl (by kernel_rfl)) rfl ?_ | refine wo_rd rfl (y_load 1 rfl rfl (v := v) rfl (by kernel_rfl)) rfl ?_ | refine wo_rd rfl (y_load 2 rfl rfl (v := v) rfl (by kernel_rfl)) rfl ?_
          refine wy_1 (i := 11) (by kernel_rfl) ?_
          first | refine wo_rd rfl (y_load 0 rfl rfl (v := int rw') rfl (by kernel_rfl)) rfl ?_ | refine wo_rd rfl (y_load 1 rfl rfl (v := int rw') rfl (by kernel_rfl)) rfl ?_
          refine wy_1 (i := 12) (by kernel_rfl) ?_
          refine wo_do rfl (d_call (by kernel_rfl) rfl (repeatS_spec _ b1 (rep 0) rw' (by omega))) rfl ?_
          rintro _ _ ⟨b2, rfl, rfl⟩
          refine wy_1 (i := 13) (by kernel_rfl) ?_
          refine wo_do rfl (d_buildSlice [sl b2 0 rw' rw'] Try.underlying96 rfl (built36 _ _)) rfl ?_
          rintro _ _ ⟨b3, rfl, rfl⟩
          refine wy_1 (i := 14) (by kernel_rfl) ?_
          refine wo_perm (L' := fd ++ ((b3, row 36 [sl b2 0 rw' rw']) :: (b2, row 9 (List.replicate rw' (S (rep 0)))) :: (bx, row 98 (nrec lv n rw' v (m + 1) (.slice none 0 0))) :: (ndks rw' bks ++ F))) (((List.Perm.cons _ (List.Perm.cons _ perm_mid.symm)).trans (List.Perm.cons _ perm_mid.symm)).trans perm_mid.symm) ?_
          refine wo_do rfl (d_append (sz := 1) (bytes := 24) (L0 := (b3, row 36 [sl b2 0 rw' rw']) :: (b2, row 9 (List.replicate rw' (S (rep 0)))) :: (bx, row 98 (nrec lv n rw' v (m + 1) (.slice none 0 0))) :: (ndks rw' bks ++ F)) 0 (.slice none 0 0) Try.underlying96 (by kernel_rfl) rfl rfl rfl hS rfl rfl (news := [sl b2 0 rw' rw']) rfl rfl rfl (by omega) (by omega)) rfl ?_
          rintro v' _ ⟨fd', hS', rfl⟩
          refine wy_perm (L' := (b3, row 36 [sl b2 0 rw' rw']) :: (bx, row 98 (nrec lv n rw' v (m + 1) (.slice none 0 0))) :: (fd' ++ (ndks rw' (bks ++ [b2]) ++ F))) ?_ (wy_drop ?_)
          · rw [ndks_snoc]
            refine perm_mid.trans (List.Perm.cons _ ?_)
            refine (List.Perm.append_left fd' Go.SL.p1).trans (perm_mid.trans (List.Perm.cons _ (List.Perm.append_left fd' ?_)))
            exact perm_mid.symm
          refine wy_pu (i := 15) rfl (by kernel_rfl) (y_nil rfl) rfl ?_
          first | refine wy_pu (i := 16) rfl (by kernel_rfl) (y_fieldAddr0 3 Try.underlying98 rfl rfl (by kernel_rfl) rfl) rfl ?_ | refine wy_pu (i := 16) rfl (by kernel_rfl) (y_fieldAddr 3 Try.underlying98 rfl rfl (by kernel_rfl) rfl) rfl ?_
          refine wy_1 (i := 17) (by kernel_rfl) ?_
          refine wo_do0 rfl (d_store 0 rfl rfl rfl rfl (slF_one hS') (by kernel_rfl)) (fun _ _ hL => ?_)
          subst hL
          refine wy_heap ((bx, row 98 (nrec lv n rw' v' (m + 1) (.slice none 0 0))) :: (fd' ++ (ndks rw' (bks ++ [b2]) ++ F))) rfl ?_
          refine wy_nil (by kernel_rfl) ?_
          refine at_nq ?_
          refine at_block_normal ?_
          refine at_then ?_
          refine wc_region ?_
          refine wl_pu (y_add rfl rfl (by omega)) rfl ?_
          refine wl_pu (y_move rfl) rfl ?_
          refine wl_nil ?_
          exact at_again (v', bks ++ [b2], fd') ⟨by show (bks ++ [b2]).length ≤ n; simp; omega, by show SlF 36 1 v' (bks ++ [b2]).length _ fd'; rw [List.length_append, hm, List.map_append]; exact hS'⟩ (by show n - (bks ++ [b2]).length < n - bks.length; simp; omega) ⟨rfl, rfl, by show some _ = some _; rw [List.length_append, hm]; rfl, trivial⟩ (by show (bx, row 98 (nrec lv n rw' v' (bks ++ [b2]).length (.slice none 0 0))) :: _ = _; rw [List.length_append, hm]; rfl)
        · skip
          first | refine wo_rd rfl (y_load 0 rfl rfl (v := int rw') rfl (by kernel_rfl)) rfl ?_ | refine wo_rd rfl (y_load 1 rfl rfl (v := int rw') rfl (by kernel_rfl)) rfl ?_
          refine wy_2 (i := 4) (j := 12) (by kernel_rfl) ?_ ?_
          · skip
            first | refine wo_rd rfl (y_load 0 rfl rfl (v := v) rfl (by kernel_rfl)) rfl ?_ | refine wo_rd rfl (y_load 1 rfl rfl (v := v) rfl (by kernel_rfl)) rfl ?_ | refine wo_rd rfl (y_load 2 rfl rfl (v := v) rfl (by kernel_rfl)) rfl ?_
            refine wy_1 (i := 12) (by kernel_rfl) ?_
            refine wo_do rfl (d_call (by kernel_rfl) rfl (repeatS_spec _ b1 (rep 0) rw' (by omega))) rfl ?_
            rintro _ _ ⟨b2, rfl, rfl⟩
            refine wy_1 (i := 13) (by kernel_rfl) ?_
            refine wo_do rfl (d_buildSlice [sl b2 0 rw' rw'] Try.underlying96 rfl (built36 _ _)) rfl ?_
            rintro _ _ ⟨b3, rfl, rfl⟩
            refine wy_1 (i := 14) (by kernel_rfl) ?_
            refine wo_perm (L' := fd ++ ((b3, row 36 [sl b2 0 rw' rw']) :: (b2, row 9 (List.replicate rw' (S (rep 0)))) :: (bx, row 98 (nrec lv n rw' v (m + 1) (.slice none 0 0))) :: (ndks rw' bks ++ F))) (((List.Perm.cons _ (List.Perm.cons _ perm_mid.symm)).trans (List.Perm.cons _ perm_mid.symm)).trans perm_mid.symm) ?_
            refine wo_do rfl (d_append (sz := 1) (bytes := 24) (L0 := (b3, row 36 [sl b2 0 rw' rw']) :: (b2, row 9 (List.replicate rw' (S (rep 0)))) :: (bx, row 98 (nrec lv n rw' v (m + 1) (.slice none 0 0))) :: (ndks rw' bks ++ F)) 0 (.slice none 0 0) Try.underlying96 (by kernel_rfl) rfl rfl rfl hS rfl rfl (news := [sl b2 0 rw' rw']) rfl rfl rfl (by omega) (by omega)) rfl ?_
            rintro v' _ ⟨fd', hS', rfl⟩
            refine wy_perm (L' := (b3, row 36 [sl b2 0 rw' rw']) :: (bx, row 98 (nrec lv n rw' v (m + 1) (.slice none 0 0))) :: (fd' ++ (ndks rw' (bks ++ [b2]) ++ F))) ?_ (wy_drop ?_)
            · rw [ndks_snoc]
              refine perm_mid.trans (List.Perm.cons _ ?_)
              refine (List.Perm.append_left fd' Go.SL.p1).trans (perm_mid.trans (List.Perm.cons _ (List.Perm.append_left fd' ?_)))
              exact perm_mid.symm
            refine wy_pu (i := 15) rfl (by kernel_rfl) (y_nil rfl) rfl ?_
            first | refine wy_pu (i := 16) rfl (by kernel_rfl) (y_fieldAddr0 3 Try.underlying98 rfl rfl (by kernel_rfl) rfl) rfl ?_ | refine wy_pu (i := 16) rfl (by kernel_rfl) (y_fieldAddr 3 Try.underlying98 rfl rfl (by kernel_rfl) rfl) rfl ?_
            refine wy_1 (i := 17) (by kernel_rfl) ?_
            refine wo_do0 rfl (d_store 0 rfl rfl rfl rfl (slF_one hS') (by kernel_rfl)) (fun _ _ hL => ?_)
            subst hL
            refine wy_heap ((bx, row 98 (nrec lv n rw' v' (m + 1) (.slice none 0 0))) :: (fd' ++ (ndks rw' (bks ++ [b2]) ++ F))) rfl ?_
            refine wy_nil (by kernel_rfl) ?_
            refine at_nq ?_
            refine at_block_normal ?_
            refine at_then ?_
            refine wc_region ?_
            refine wl_pu (y_add rfl rfl (by omega)) rfl ?_
            refine wl_pu (y_move rfl) rfl ?_
            refine wl_nil ?_
            exact at_again (v', bks ++ [b2], fd') ⟨by show (bks ++ [b2]).length ≤ n; simp; omega, by show SlF 36 1 v' (bks ++ [b2]).length _ fd'; rw [List.length_append, hm, List.map_append]; exact hS'⟩ (by show n - (bks ++ [b2]).length < n - bks.length; simp; omega) ⟨rfl, rfl, by show some _ = some _; rw [List.length_append, hm]; rfl, trivial⟩ (by show (bx, row 98 (nrec lv n rw' v' (bks ++ [b2]).length (.slice none 0 0))) :: _ = _; rw [List.length_append, hm]; rfl)
          · skip
            refine wo_do rfl (d_call (by kernel_rfl) rfl (repeatS_spec _ b1 (rep 0) rw' (by omega))) rfl ?_
            rintro _ _ ⟨b2, rfl, rfl⟩
            refine wy_2 (i := 4) (j := 13) (by kernel_rfl) ?_ ?_
            · skip
              first | refine wo_rd rfl (y_load 0 rfl rfl (v := v) rfl (by kernel_rfl)) rfl ?_ | refine wo_rd rfl (y_load 1 rfl rfl (v := v) rfl (by kernel_rfl)) rfl ?_ | refine wo_rd rfl (y_load 2 rfl rfl (v := v) rfl (by kernel_rfl)) rfl ?_
              refine wy_1 (i := 13) (by kernel_rfl) ?_
              refine wo_do rfl (d_buildSlice [sl b2 0 rw' rw'] Try.underlying96 rfl (built36 _ _)) rfl ?_
              rintro _ _ ⟨b3, rfl, rfl⟩
              refine wy_1 (i := 14) (by kernel_rfl) ?_
              refine wo_perm (L' := fd ++ ((b3, row 36 [sl b2 0 rw' rw']) :: (b2, row 9 (List.replicate rw' (S (rep 0)))) :: (bx, row 98 (nrec lv n rw' v (m + 1) (.slice none 0 0))) :: (ndks rw' bks ++ F))) (((List.Perm.cons _ (List.Perm.cons _ perm_mid.symm)).trans (List.Perm.cons _ perm_mid.symm)).trans perm_mid.symm) ?_
              refine wo_do rfl (d_append (sz := 1) (bytes := 24) (L0 := (b3, row 36 [sl b2 0 rw' rw']) :: (b2, row 9 (List.replicate rw' (S (rep 0)))) :: (bx, row 98 (nrec lv n rw' v (m + 1) (.slice none 0 0))) :: (ndks rw' bks ++ F)) 0 (.slice none 0 0) Try.underlying96 (by kernel_rfl) rfl rfl rfl hS rfl rfl (news := [sl b2 0 rw' rw']) rfl rfl rfl (by omega) (by omega)) rfl ?_
              rintro v' _ ⟨fd', hS', rfl⟩
              refine wy_perm (L' := (b3, row 36 [sl b2 0 rw' rw']) :: (bx, row 98 (nrec lv n rw' v (m + 1) (.slice none 0 0))) :: (fd' ++ (ndks rw' (bks ++ [b2]) ++ F))) ?_ (wy_drop ?_)
              · rw [ndks_snoc]
                refine perm_mid.trans (List.Perm.cons _ ?_)
                refine (List.Perm.append_left fd' Go.SL.p1).trans (perm_mid.trans (List.Perm.cons _ (List.Perm.append_left fd' ?_)))
                exact perm_mid.symm
              refine wy_pu (i := 15) rfl (by kernel_rfl) (y_nil rfl) rfl ?_
              first | refine wy_pu (i := 16) rfl (by kernel_rfl) (y_fieldAddr0 3 Try.underlying98 rfl rfl (by kernel_rfl) rfl) rfl ?_ | refine wy_pu (i := 16) rfl (by kernel_rfl) (y_fieldAddr 3 Try.underlying98 rfl rfl (by kernel_rfl) rfl) rfl ?_
              refine wy_1 (i := 17) (by kernel_rfl) ?_
              refine wo_do0 rfl (d_store 0 rfl rfl rfl rfl (slF_one hS') (by kernel_rfl)) (fun _ _ hL => ?_)
              subst hL
              refine wy_heap ((bx, row 98 (nrec lv n rw' v' (m + 1) (.slice none 0 0))) :: (fd' ++ (ndks rw' (bks ++ [b2]) ++ F))) rfl ?_
              refine wy_nil (by kernel_rfl) ?_
              refine at_nq ?_
              refine at_block_normal ?_
              refine at_then ?_
              refine wc_region ?_
              refine wl_pu (y_add rfl rfl (by omega)) rfl ?_
              refine wl_pu (y_move rfl) rfl ?_
              refine wl_nil ?_
              exact at_again (v', bks ++ [b2], fd') ⟨by show (bks ++ [b2]).length ≤ n; simp; omega, by show SlF 36 1 v' (bks ++ [b2]).length _ fd'; rw [List.length_append, hm, List.map_append]; exact hS'⟩ (by show n - (bks ++ [b2]).length < n - bks.length; simp; omega) ⟨rfl, rfl, by show some _ = some _; rw [List.length_append, hm]; rfl, trivial⟩ (by show (bx, row 98 (nrec lv n rw' v' (bks ++ [b2]).length (.slice none 0 0))) :: _ = _; rw [List.length_append, hm]; rfl)
            · skip
              refine wo_do rfl (d_buildSlice [sl b2 0 rw' rw'] Try.underlying96 rfl (built36 _ _)) rfl ?_
              rintro _ _ ⟨b3, rfl, rfl⟩
              refine wy_1 (i := 4) (by kernel_rfl) ?_
              first | refine wo_rd rfl (y_load 0 rfl rfl (v := v) rfl (by kernel_rfl)) rfl ?_ | refine wo_rd rfl (y_load 1 rfl rfl (v := v) rfl (by kernel_rfl)) rfl ?_ | refine wo_rd rfl (y_load 2 rfl rfl (v := v) rfl (by kernel_rfl)) rfl ?_
              refine wy_1 (i := 14) (by kernel_rfl) ?_
              refine wo_perm (L' := fd ++ ((b3, row 36 [sl b2 0 rw' rw']) :: (b2, row 9 (List.replicate rw' (S (rep 0)))) :: (bx, row 98 (nrec lv n rw' v (m + 1) (.slice none 0 0))) :: (ndks rw' bks ++ F))) (((List.Perm.cons _ (List.Perm.cons _ perm_mid.symm)).trans (List.Perm.cons _ perm_mid.symm)).trans perm_mid.symm) ?_
              refine wo_do rfl (d_append (sz := 1) (bytes := 24) (L0 := (b3, row 36 [sl b2 0 rw' rw']) :: (b2, row 9 (List.replicate rw' (S (rep 0)))) :: (bx, row 98 (nrec lv n rw' v (m + 1) (.slice none 0 0))) :: (ndks rw' bks ++ F)) 0 (.slice none 0 0) Try.underlying96 (by kernel_rfl) rfl rfl rfl hS rfl rfl (news := [sl b2 0 rw' rw']) rfl rfl rfl (by omega) (by omega)) rfl ?_
              rintro v' _ ⟨fd', hS', rfl⟩
              refine wy_perm (L' := (b3, row 36 [sl b2 0 rw' rw']) :: (bx, row 98 (nrec lv n rw' v (m + 1) (.slice none 0 0))) :: (fd' ++ (ndks rw' (bks ++ [b2]) ++ F))) ?_ (wy_drop ?_)
              · rw [ndks_snoc]
                refine perm_mid.trans (List.Perm.cons _ ?_)
                refine (List.Perm.append_left fd' Go.SL.p1).trans (perm_mid.trans (List.Perm.cons _ (List.Perm.append_left fd' ?_)))
                exact perm_mid.symm
              refine wy_pu (i := 15) rfl (by kernel_rfl) (y_nil rfl) rfl ?_
              first | refine wy_pu (i := 16) rfl (by kernel_rfl) (y_fieldAddr0 3 Try.underlying98 rfl rfl (by kernel_rfl) rfl) rfl ?_ | refine wy_pu (i := 16) rfl (by kernel_rfl) (y_fieldAddr 3 Try.underlying98 rfl rfl (by kernel_rfl) rfl) rfl ?_
              refine wy_1 (i := 17) (by kernel_rfl) ?_
              refine wo_do0 rfl (d_store 0 rfl rfl rfl rfl (slF_one hS') (by kernel_rfl)) (fun _ _ hL => ?_)
              subst hL
              refine wy_heap ((bx, row 98 (nrec lv n rw' v' (m + 1) (.slice none 0 0))) :: (fd' ++ (ndks rw' (bks ++ [b2]) ++ F))) rfl ?_
              refine wy_nil (by kernel_rfl) ?_
              refine at_nq ?_
              refine at_block_normal ?_
              refine at_then ?_
              refine wc_region ?_
              refine wl_pu (y_add rfl rfl (by omega)) rfl ?_
              refine wl_pu (y_move rfl) rfl ?_
              refine wl_nil ?_
              exact at_again (v', bks ++ [b2], fd') ⟨by show (bks ++ [b2]).length ≤ n; simp; omega, by show SlF 36 1 v' (bks ++ [b2]).length _ fd'; rw [List.length_append, hm, List.map_append]; exact hS'⟩ (by show n - (bks ++ [b2]).length < n - bks.length; simp; omega) ⟨rfl, rfl, by show some _ = some _; rw [List.length_append, hm]; rfl, trivial⟩ (by show (bx, row 98 (nrec lv n rw' v' (bks ++ [b2]).length (.slice none 0 0))) :: _ = _; rw [List.length_append, hm]; rfl)
      · skip
        first | refine wo_rd rfl (y_load 0 rfl rfl (v := int rw') rfl (by kernel_rfl)) rfl ?_ | refine wo_rd rfl (y_load 1 rfl rfl (v := int rw') rfl (by kernel_rfl)) rfl ?_
        refine wy_2 (i := 4) (j := 6) (by kernel_rfl) ?_ ?_
        · skip
          first | refine wo_rd rfl (y_load 0 rfl rfl (v := v) rfl (by kernel_rfl)) rfl ?_ | refine wo_rd rfl (y_load 1 rfl rfl (v := v) rfl (by kernel_rfl)) rfl ?_ | refine wo_rd rfl (y_load 2 rfl rfl (v := v) rfl (by kernel_rfl)) rfl ?_
          refine wy_1 (i := 6) (by kernel_rfl) ?_
          refine wo_do rfl (d_buildSlice [S (rep 0)] Try.underlying36 rfl (built9 _)) rfl ?_
          rintro _ _ ⟨b1, rfl, rfl⟩
          refine wy_1 (i := 12) (by kernel_rfl) ?_
          refine wo_do rfl (d_call (by kernel_rfl) rfl (repeatS_spec _ b1 (rep 0) rw' (by omega))) rfl ?_
          rintro _ _ ⟨b2, rfl, rfl⟩
          refine wy_1 (i := 13) (by kernel_rfl) ?_
          refine wo_do rfl (d_buildSlice [sl b2 0 rw' rw'] Try.underlying96 rfl (built36 _ _)) rfl ?_
          rintro _ _ ⟨b3, rfl, rfl⟩
          refine wy_1 (i := 14) (by kernel_rfl) ?_
          refine wo_perm (L' := fd ++ ((b3, row 36 [sl b2 0 rw' rw']) :: (b2, row 9 (List.replicate rw' (S (rep 0)))) :: (bx, row 98 (nrec lv n rw' v (m + 1) (.slice none 0 0))) :: (ndks rw' bks ++ F))) (((List.Perm.cons _ (List.Perm.cons _ perm_mid.symm)).trans (List.Perm.cons _ perm_mid.symm)).trans perm_mid.symm) ?_
          refine wo_do rfl (d_append (sz := 1) (bytes := 24) (L0 := (b3, row 36 [sl b2 0 rw' rw']) :: (b2, row 9 (List.replicate rw' (S (rep 0)))) :: (bx, row 98 (nrec lv n rw' v (m + 1) (.slice none 0 0))) :: (ndks rw' bks ++ F)) 0 (.slice none 0 0) Try.underlying96 (by kernel_rfl) rfl rfl rfl hS rfl rfl (news := [sl b2 0 rw' rw']) rfl rfl rfl (by omega) (by omega)) rfl ?_
          rintro v' _ ⟨fd', hS', rfl⟩
          refine wy_perm (L' := (b3, row 36 [sl b2 0 rw' rw']) :: (bx, row 98 (nrec lv n rw' v (m + 1) (.slice none 0 0))) :: (fd' ++ (ndks rw' (bks ++ [b2]) ++ F))) ?_ (wy_drop ?_)
          · rw [ndks_snoc]
            refine perm_mid.trans (List.Perm.cons _ ?_)
            refine (List.Perm.append_left fd' Go.SL.p1).trans (perm_mid.trans (List.Perm.cons _ (List.Perm.append_left fd' ?_)))
            exact perm_mid.symm
          refine wy_pu (i := 15) rfl (by kernel_rfl) (y_nil rfl) rfl ?_
          first | refine wy_pu (i := 16) rfl (by kernel_rfl) (y_fieldAddr0 3 Try.underlying98 rfl rfl (by kernel_rfl) rfl) rfl ?_ | refine wy_pu (i := 16) rfl (by kernel_rfl) (y_fieldAddr 3 Try.underlying98 rfl rfl (by kernel_rfl) rfl) rfl ?_
          refine wy_1 (i := 17) (by kernel_rfl) ?_
          refine wo_do0 rfl (d_store 0 rfl rfl rfl rfl (slF_one hS') (by kernel_rfl)) (fun _ _ hL => ?_)
          subst hL
          refine wy_heap ((bx, row 98 (nrec lv n rw' v' (m + 1) (.slice none 0 0))) :: (fd' ++ (ndks rw' (bks ++ [b2]) ++ F))) rfl ?_
          refine wy_nil (by kernel_rfl) ?_
          refine at_nq ?_
          refine at_block_normal ?_
          refine at_then ?_
          refine wc_region ?_
          refine wl_pu (y_add rfl rfl (by omega)) rfl ?_
          refine wl_pu (y_move rfl) rfl ?_
          refine wl_nil ?_
          exact at_again (v', bks ++ [b2], fd') ⟨by show (bks ++ [b2]).length ≤ n; simp; omega, by show SlF 36 1 v' (bks ++ [b2]).length _ fd'; rw [List.length_append, hm, List.map_append]; exact hS'⟩ (by show n - (bks ++ [b2]).length < n - bks.length; simp; omega) ⟨rfl, rfl, by show some _ = some _; rw [List.length_append, hm]; rfl, trivial⟩ (by show (bx, row 98 (nrec lv n rw' v' (bks ++ [b2]).length (.slice none 0 0))) :: _ = _; rw [List.length_append, hm]; rfl)
        · skip
          refine wo_do rfl (d_buildSlice [S (rep 0)] Try.underlying36 rfl (built9 _)) rfl ?_
          rintro _ _ ⟨b1, rfl, rfl⟩
          refine wy_2 (i := 4) (j := 12) (by kernel_rfl) ?_ ?_
          · skip
            first | refine wo_rd rfl (y_load 0 rfl rfl (v := v) rfl (by kernel_rfl)) rfl ?_ | refine wo_rd rfl (y_load 1 rfl rfl (v := v) rfl (by kernel_rfl)) rfl ?_ | refine wo_rd rfl (y_load 2 rfl rfl (v := v) rfl (by kernel_rfl)) rfl ?_
            refine wy_1 (i := 12) (by kernel_rfl) ?_
            refine wo_do rfl (d_call (by kernel_rfl) rfl (repeatS_spec _ b1 (rep 0) rw' (by omega))) rfl ?_
            rintro _ _ ⟨b2, rfl, rfl⟩
            refine wy_1 (i := 13) (by kernel_rfl) ?_
            refine wo_do rfl (d_buildSlice [sl b2 0 rw' rw'] Try.underlying96 rfl (built36 _ _)) rfl ?_
            rintro _ _ ⟨b3, rfl, rfl⟩
            refine wy_1 (i := 14) (by kernel_rfl) ?_
            refine wo_perm (L' := fd ++ ((b3, row 36 [sl b2 0 rw' rw']) :: (b2, row 9 (List.replicate rw' (S (rep 0)))) :: (bx, row 98 (nrec lv n rw' v (m + 1) (.slice none 0 0))) :: (ndks rw' bks ++ F))) (((List.Perm.cons _ (List.Perm.cons _ perm_mid.symm)).trans (List.Perm.cons _ perm_mid.symm)).trans perm_mid.symm) ?_
            refine wo_do rfl (d_append (sz := 1) (bytes := 24) (L0 := (b3, row 36 [sl b2 0 rw' rw']) :: (b2, row 9 (List.replicate rw' (S (rep 0)))) :: (bx, row 98 (nrec lv n rw' v (m + 1) (.slice none 0 0))) :: (ndks rw' bks ++ F)) 0 (.slice none 0 0) Try.underlying96 (by kernel_rfl) rfl rfl rfl hS rfl rfl (news := [sl b2 0 rw' rw']) rfl rfl rfl (by omega) (by omega)) rfl ?_
            rintro v' _ ⟨fd', hS', rfl⟩
            refine wy_perm (L' := (b3, row 36 [sl b2 0 rw' rw']) :: (bx, row 98 (nrec lv n rw' v (m + 1) (.slice none 0 0))) :: (fd' ++ (ndks rw' (bks ++ [b2]) ++ F))) ?_ (wy_drop ?_)
            · rw [ndks_snoc]
              refine perm_mid.trans (List.Perm.cons _ ?_)
              refine (List.Perm.append_left fd' Go.SL.p1).trans (perm_mid.trans (List.Perm.cons _ (List.Perm.append_left fd' ?_)))
              exact perm_mid.symm
            refine wy_pu (i := 15) rfl (by kernel_rfl) (y_nil rfl) rfl ?_
            first | refine wy_pu (i := 16) rfl (by kernel_rfl) (y_fieldAddr0 3 Try.underlying98 rfl rfl (by kernel_rfl) rfl) rfl ?_ | refine wy_pu (i := 16) rfl (by kernel_rfl) (y_fieldAddr 3 Try.underlying98 rfl rfl (by kernel_rfl) rfl) rfl ?_
            refine wy_1 (i := 17) (by kernel_rfl) ?_
            refine wo_do0 rfl (d_store 0 rfl rfl rfl rfl (slF_one hS') (by kernel_rfl)) (fun _ _ hL => ?_)
            subst hL
            refine wy_heap ((bx, row 98 (nrec lv n rw' v' (m + 1) (.slice none 0 0))) :: (fd' ++ (ndks rw' (bks ++ [b2]) ++ F))) rfl ?_
            refine wy_nil (by kernel_rfl) ?_
            refine at_nq ?_
            refine at_block_normal ?_
            refine at_then ?_
            refine wc_region ?_
            refine wl_pu (y_add rfl rfl (by omega)) rfl ?_
            refine wl_pu (y_move rfl) rfl ?_
            refine wl_nil ?_
            exact at_again (v', bks ++ [b2], fd') ⟨by show (bks ++ [b2]).length ≤ n; simp; omega, by show SlF 36 1 v' (bks ++ [b2]).length _ fd'; rw [List.length_append, hm, List.map_append]; exact hS'⟩ (by show n - (bks ++ [b2]).length < n - bks.length; simp; omega) ⟨rfl, rfl, by show some _ = some _; rw [List.length_append, hm]; rfl, trivial⟩ (by show (bx, row 98 (nrec lv n rw' v' (bks ++ [b2]).length (.slice none 0 0))) :: _ = _; rw [List.length_append, hm]; rfl)
          · skip
            refine wo_do rfl (d_call (by kernel_rfl) rfl (repeatS_spec _ b1 (rep 0) rw' (by omega))) rfl ?_
            rintro _ _ ⟨b2, rfl, rfl⟩
            refine wy_2 (i := 4) (j := 13) (by kernel_rfl) ?_ ?_
            · skip
              first | refine wo_rd rfl (y_load 0 rfl rfl (v := v) rfl (by kernel_rfl)) rfl ?_ | refine wo_rd rfl (y_load 1 rfl rfl (v := v) rfl (by kernel_rfl)) rfl ?_ | refine wo_rd rfl (y_load 2 rfl rfl (v := v) rfl (by kernel_rfl)) rfl ?_
              refine wy_1 (i := 13) (by kernel_rfl) ?_
              refine wo_do rfl (d_buildSlice [sl b2 0 rw' rw'] Try.underlying96 rfl (built36 _ _)) rfl ?_
              rintro _ _ ⟨b3, rfl, rfl⟩
              refine wy_1 (i := 14) (by kernel_rfl) ?_
              refine wo_perm (L' := fd ++ ((b3, row 36 [sl b2 0 rw' rw']) :: (b2, row 9 (List.replicate rw' (S (rep 0)))) :: (bx, row 98 (nrec lv n rw' v (m + 1) (.slice none 0 0))) :: (ndks rw' bks ++ F))) (((List.Perm.cons _ (List.Perm.cons _ perm_mid.symm)).trans (List.Perm.cons _ perm_mid.symm)).trans perm_mid.symm) ?_
              refine wo_do rfl (d_append (sz := 1) (bytes := 24) (L0 := (b3, row 36 [sl b2 0 rw' rw']) :: (b2, row 9 (List.replicate rw' (S (rep 0)))) :: (bx, row 98 (nrec lv n rw' v (m + 1) (.slice none 0 0))) :: (ndks rw' bks ++ F)) 0 (.slice none 0 0) Try.underlying96 (by kernel_rfl) rfl rfl rfl hS rfl rfl (news := [sl b2 0 rw' rw']) rfl rfl rfl (by omega) (by omega)) rfl ?_
              rintro v' _ ⟨fd', hS', rfl⟩
              refine wy_perm (L' := (b3, row 36 [sl b2 0 rw' rw']) :: (bx, row 98 (nrec lv n rw' v (m + 1) (.slice none 0 0))) :: (fd' ++ (ndks rw' (bks ++ [b2]) ++ F))) ?_ (wy_drop ?_)
              · rw [ndks_snoc]
                refine perm_mid.trans (List.Perm.cons _ ?_)
                refine (List.Perm.append_left fd' Go.SL.p1).trans (perm_mid.trans (List.Perm.cons _ (List.Perm.append_left fd' ?_)))
                exact perm_mid.symm
              refine wy_pu (i := 15) rfl (by kernel_rfl) (y_nil rfl) rfl ?_
              first | refine wy_pu (i := 16) rfl (by kernel_rfl) (y_fieldAddr0 3 Try.underlying98 rfl rfl (by kernel_rfl) rfl) rfl ?_ | refine wy_pu (i := 16) rfl (by kernel_rfl) (y_fieldAddr 3 Try.underlying98 rfl rfl (by kernel_rfl) rfl) rfl ?_
              refine wy_1 (i := 17) (by kernel_rfl) ?_
              refine wo_do0 rfl (d_store 0 rfl rfl rfl rfl (slF_one hS') (by kernel_rfl)) (fun _ _ hL => ?_)
              subst hL
              refine wy_heap ((bx, row 98 (nrec lv n rw' v' (m + 1) (.slice none 0 0))) :: (fd' ++ (ndks rw' (bks ++ [b2]) ++ F))) rfl ?_
              refine wy_nil (by kernel_rfl) ?_
              refine at_nq ?_
              refine at_block_normal ?_
              refine at_then ?_
              refine wc_region ?_
              refine wl_pu (y_add rfl rfl (by omega)) rfl ?_
              refine wl_pu (y_move rfl) rfl ?_
              refine wl_nil ?_
              exact at_again (v', bks ++ [b2], fd') ⟨by show (bks ++ [b2]).length ≤ n; simp; omega, by show SlF 36 1 v' (bks ++ [b2]).length _ fd'; rw [List.length_append, hm, List.map_append]; exact hS'⟩ (by show n - (bks ++ [b2]).length < n - bks.length; simp; omega) ⟨rfl, rfl, by show some _ = some _; rw [List.length_append, hm]; rfl, trivial⟩ (by show (bx, row 98 (nrec lv n rw' v' (bks ++ [b2]).length (.slice none 0 0))) :: _ = _; rw [List.length_append, hm]; rfl)
            · skip
              refine wo_do rfl (d_buildSlice [sl b2 0 rw' rw'] Try.underlying96 rfl (built36 _ _)) rfl ?_
              rintro _ _ ⟨b3, rfl, rfl⟩
              refine wy_1 (i := 4) (by kernel_rfl) ?_
              first | refine wo_rd rfl (y_load 0 rfl rfl (v := v) rfl (by kernel_rfl)) rfl ?_ | refine wo_rd rfl (y_load 1 rfl rfl (v := v) rfl (by kernel_rfl)) rfl ?_ | refine wo_rd rfl (y_load 2 rfl rfl (v := v) rfl (by kernel_rfl)) rfl ?_
              refine wy_1 (i := 14) (by kernel_rfl) ?_
              refine wo_perm (L' := fd ++ ((b3, row 36 [sl b2 0 rw' rw']) :: (b2, row 9 (List.replicate rw' (S (rep 0)))) :: (bx, row 98 (nrec lv n rw' v (m + 1) (.slice none 0 0))) :: (ndks rw' bks ++ F))) (((List.Perm.cons _ (List.Perm.cons _ perm_mid.symm)).trans (List.Perm.cons _ perm_mid.symm)).trans perm_mid.symm) ?_
              refine wo_do rfl (d_append (sz := 1) (bytes := 24) (L0 := (b3, row 36 [sl b2 0 rw' rw']) :: (b2, row 9 (List.replicate rw' (S (rep 0)))) :: (bx, row 98 (nrec lv n rw' v (m + 1) (.slice none 0 0))) :: (ndks rw' bks ++ F)) 0 (.slice none 0 0) Try.underlying96 (by kernel_rfl) rfl rfl rfl hS rfl rfl (news := [sl b2 0 rw' rw']) rfl rfl rfl (by omega) (by omega)) rfl ?_
              rintro v' _ ⟨fd', hS', rfl⟩
              refine wy_perm (L' := (b3, row 36 [sl b2 0 rw' rw']) :: (bx, row 98 (nrec lv n rw' v (m + 1) (.slice none 0 0))) :: (fd' ++ (ndks rw' (bks ++ [b2]) ++ F))) ?_ (wy_drop ?_)
              · rw [ndks_snoc]
                refine perm_mid.trans (List.Perm.cons _ ?_)
                refine (List.Perm.append_left fd' Go.SL.p1).trans (perm_mid.trans (List.Perm.cons _ (List.Perm.append_left fd' ?_)))
                exact perm_mid.symm
              refine wy_pu (i := 15) rfl (by kernel_rfl) (y_nil rfl) rfl ?_
              first | refine wy_pu (i := 16) rfl (by kernel_rfl) (y_fieldAddr0 3 Try.underlying98 rfl rfl (by kernel_rfl) rfl) rfl ?_ | refine wy_pu (i := 16) rfl (by kernel_rfl) (y_fieldAddr 3 Try.underlying98 rfl rfl (by kernel_rfl) rfl) rfl ?_
              refine wy_1 (i := 17) (by kernel_rfl) ?_
              refine wo_do0 rfl (d_store 0 rfl rfl rfl rfl (slF_one hS') (by kernel_rfl)) (fun _ _ hL => ?_)
              subst hL
              refine wy_heap ((bx, row 98 (nrec lv n rw' v' (m + 1) (.slice none 0 0))) :: (fd' ++ (ndks rw' (bks ++ [b2]) ++ F))) rfl ?_
              refine wy_nil (by kernel_rfl) ?_
              refine at_nq ?_
              refine at_block_normal ?_
              refine at_then ?_
              refine wc_region ?_
              refine wl_pu (y_add rfl rfl (by omega)) rfl ?_
              refine wl_pu (y_move rfl) rfl ?_
              refine wl_nil ?_
              exact at_again (v', bks ++ [b2], fd') ⟨by show (bks ++ [b2]).length ≤ n; simp; omega, by show SlF 36 1 v' (bks ++ [b2]).length _ fd'; rw [List.length_append, hm, List.map_append]; exact hS'⟩ (by show n - (bks ++ [b2]).length < n - bks.length; simp; omega) ⟨rfl, rfl, by show some _ = some _; rw [List.length_append, hm]; rfl, trivial⟩ (by show (bx, row 98 (nrec lv n rw' v' (bks ++ [b2]).length (.slice none 0 0))) :: _ = _; rw [List.length_append, hm]; rfl)
    · skip
      first | refine wo_rd rfl (y_load 0 rfl rfl (v := int rw') rfl (by kernel_rfl)) rfl ?_ | refine wo_rd rfl (y_load 1 rfl rfl (v := int rw') rfl (by kernel_rfl)) rfl ?_
      refine wy_2 (i := 4) (j := 5) (by kernel_rfl) ?_ ?_
      · skip
        first | refine wo_rd rfl (y_load 0 rfl rfl (v := v) rfl (by kernel_rfl)) rfl ?_ | refine wo_rd rfl (y_load 1 rfl rfl (v := v) rfl (by kernel_rfl)) rfl ?_ | refine wo_rd rfl (y_load 2 rfl rfl (v := v) rfl (by kernel_rfl)) rfl ?_
        refine wy_1 (i := 5) (by kernel_rfl) ?_
        refine wo_do rfl (d_call (by kernel_rfl) rfl (rep1_spec _ 0 64 (by omega))) rfl ?_
        rintro _ L9 ⟨rfl, hL9⟩
        rw [hL9]
        clear hL9
        refine wy_1 (i := 6) (by kernel_rfl) ?_
        refine wo_do rfl (d_buildSlice [S (rep 0)] Try.underlying36 rfl (built9 _)) rfl ?_
        rintro _ _ ⟨b1, rfl, rfl⟩
        refine wy_1 (i := 12) (by kernel_rfl) ?_
        refine wo_do rfl (d_call (by kernel_rfl) rfl (repeatS_spec _ b1 (rep 0) rw' (by omega))) rfl ?_
        rintro _ _ ⟨b2, rfl, rfl⟩
        refine wy_1 (i := 13) (by kernel_rfl) ?_
        refine wo_do rfl (d_buildSlice [sl b2 0 rw' rw'] Try.underlying96 rfl (built36 _ _)) rfl ?_
        rintro _ _ ⟨b3, rfl, rfl⟩
        refine wy_1 (i := 14) (by kernel_rfl) ?_
        refine wo_perm (L' := fd ++ ((b3, row 36 [sl b2 0 rw' rw']) :: (b2, row 9 (List.replicate rw' (S (rep 0)))) :: (bx, row 98 (nrec lv n rw' v (m + 1) (.slice none 0 0))) :: (ndks rw' bks ++ F))) (((List.Perm.cons _ (List.Perm.cons _ perm_mid.symm)).trans (List.Perm.cons _ perm_mid.symm)).trans perm_mid.symm) ?_
        refine wo_do rfl (d_append (sz := 1) (bytes := 24) (L0 := (b3, row 36 [sl b2 0 rw' rw']) :: (b2, row 9 (List.replicate rw' (S (rep 0)))) :: (bx, row 98 (nrec lv n rw' v (m + 1) (.slice none 0 0))) :: (ndks rw' bks ++ F)) 0 (.slice none 0 0) Try.underlying96 (by kernel_rfl) rfl rfl rfl hS rfl rfl (news := [sl b2 0 rw' rw']) rfl rfl rfl (by omega) (by omega)) rfl ?_
        rintro v' _ ⟨fd', hS', rfl⟩
        refine wy_perm (L' := (b3, row 36 [sl b2 0 rw' rw']) :: (bx, row 98 (nrec lv n rw' v (m + 1) (.slice none 0 0))) :: (fd' ++ (ndks rw' (bks ++ [b2]) ++ F))) ?_ (wy_drop ?_)
        · rw [ndks_snoc]
          refine perm_mid.trans (List.Perm.cons _ ?_)
          refine (List.Perm.append_left fd' Go.SL.p1).trans (perm_mid.trans (List.Perm.cons _ (List.Perm.append_left fd' ?_)))
          exact perm_mid.symm
        refine wy_pu (i := 15) rfl (by kernel_rfl) (y_nil rfl) rfl ?_
        first | refine wy_pu (i := 16) rfl (by kernel_rfl) (y_fieldAddr0 3 Try.underlying98 rfl rfl (by kernel_rfl) rfl) rfl ?_ | refine wy_pu (i := 16) rfl (by kernel_rfl) (y_fieldAddr 3 Try.underlying98 rfl rfl (by kernel_rfl) rfl) rfl ?_
        refine wy_1 (i := 17) (by kernel_rfl) ?_
        refine wo_do0 rfl (d_store 0 rfl rfl rfl rfl (slF_one hS') (by kernel_rfl)) (fun _ _ hL => ?_)
        subst hL
        refine wy_heap ((bx, row 98 (nrec lv n rw' v' (m + 1) (.slice none 0 0))) :: (fd' ++ (ndks rw' (bks ++ [b2]) ++ F))) rfl ?_
        refine wy_nil (by kernel_rfl) ?_
        refine at_nq ?_
        refine at_block_normal ?_
        refine at_then ?_
        refine wc_region ?_
        refine wl_pu (y_add rfl rfl (by omega)) rfl ?_
        refine wl_pu (y_move rfl) rfl ?_
        refine wl_nil ?_
        exact at_again (v', bks ++ [b2], fd') ⟨by show (bks ++ [b2]).length ≤ n; simp; omega, by show SlF 36 1 v' (bks ++ [b2]).length _ fd'; rw [List.length_append, hm, List.map_append]; exact hS'⟩ (by show n - (bks ++ [b2]).length < n - bks.length; simp; omega) ⟨rfl, rfl, by show some _ = some _; rw [List.length_append, hm]; rfl, trivial⟩ (by show (bx, row 98 (nrec lv n rw' v' (bks ++ [b2]).length (.slice none 0 0))) :: _ = _; rw [List.length_append, hm]; rfl)
      · skip
        refine wo_do rfl (d_call (by kernel_rfl) rfl (rep1_spec _ 0 64 (by omega))) rfl ?_
        rintro _ L9 ⟨rfl, hL9⟩
        rw [hL9]
        clear hL9
        refine wy_2 (i := 4) (j := 6) (by kernel_rfl) ?_ ?_
        · skip
          first | refine wo_rd rfl (y_load 0 rfl rfl (v := v) rfl (by kernel_rfl)) rfl ?_ | refine wo_rd rfl (y_load 1 rfl rfl (v := v) rfl (by kernel_rfl)) rfl ?_ | refine wo_rd rfl (y_load 2 rfl rfl (v := v) rfl (by kernel_rfl)) rfl ?_
          refine wy_1 (i := 6) (by kernel_rfl) ?_
          refine wo_do rfl (d_buildSlice [S (rep 0)] Try.underlying36 rfl (built9 _)) rfl ?_
          rintro _ _ ⟨b1, rfl, rfl⟩
          refine wy_1 (i := 12) (by kernel_rfl) ?_
          refine wo_do rfl (d_call (by kernel_rfl) rfl (repeatS_spec _ b1 (rep 0) rw' (by omega))) rfl ?_
          rintro _ _ ⟨b2, rfl, rfl⟩
          refine wy_1 (i := 13) (by kernel_rfl) ?_
          refine wo_do rfl (d_buildSlice [sl b2 0 rw' rw'] Try.underlying96 rfl (built36 _ _)) rfl ?_
          rintro _ _ ⟨b3, rfl, rfl⟩
          refine wy_1 (i := 14) (by kernel_rfl) ?_
          refine wo_perm (L' := fd ++ ((b3, row 36 [sl b2 0 rw' rw']) :: (b2, row 9 (List.replicate rw' (S (rep 0)))) :: (bx, row 98 (nrec lv n rw' v (m + 1) (.slice none 0 0))) :: (ndks rw' bks ++ F))) (((List.Perm.cons _ (List.Perm.cons _ perm_mid.symm)).trans (List.Perm.cons _ perm_mid.symm)).trans perm_mid.symm) ?_
          refine wo_do rfl (d_append (sz := 1) (bytes := 24) (L0 := (b3, row 36 [sl b2 0 rw' rw']) :: (b2, row 9 (List.replicate rw' (S (rep 0)))) :: (bx, row 98 (nrec lv n rw' v (m + 1) (.slice none 0 0))) :: (ndks rw' bks ++ F)) 0 (.slice none 0 0) Try.underlying96 (by kernel_rfl) rfl rfl rfl hS rfl rfl (news := [sl b2 0 rw' rw']) rfl rfl rfl (by omega) (by omega)) rfl ?_
          rintro v' _ ⟨fd', hS', rfl⟩
          refine wy_perm (L' := (b3, row 36 [sl b2 0 rw' rw']) :: (bx, row 98 (nrec lv n rw' v (m + 1) (.slice none 0 0))) :: (fd' ++ (ndks rw' (bks ++ [b2]) ++ F))) ?_ (wy_drop ?_)
          · rw [ndks_snoc]
            refine perm_mid.trans (List.Perm.cons _ ?_)
            refine (List.Perm.append_left fd' Go.SL.p1).trans (perm_mid.trans (List.Perm.cons _ (List.Perm.append_left fd' ?_)))
            exact perm_mid.symm
          refine wy_pu (i := 15) rfl (by kernel_rfl) (y_nil rfl) rfl ?_
          first | refine wy_pu (i := 16) rfl (by kernel_rfl) (y_fieldAddr0 3 Try.underlying98 rfl rfl (by kernel_rfl) rfl) rfl ?_ | refine wy_pu (i := 16) rfl (by kernel_rfl) (y_fieldAddr 3 Try.underlying98 rfl rfl (by kernel_rfl) rfl) rfl ?_
          refine wy_1 (i := 17) (by kernel_rfl) ?_
          refine wo_do0 rfl (d_store 0 rfl rfl rfl rfl (slF_one hS') (by kernel_rfl)) (fun _ _ hL => ?_)
          subst hL
          refine wy_heap ((bx, row 98 (nrec lv n rw' v' (m + 1) (.slice none 0 0))) :: (fd' ++ (ndks rw' (bks ++ [b2]) ++ F))) rfl ?_
          refine wy_nil (by kernel_rfl) ?_
          refine at_nq ?_
          refine at_block_normal ?_
          refine at_then ?_
          refine wc_region ?_
          refine wl_pu (y_add rfl rfl (by omega)) rfl ?_
          refine wl_pu (y_move rfl) rfl ?_
          refine wl_nil ?_
          exact at_again (v', bks ++ [b2], fd') ⟨by show (bks ++ [b2]).length ≤ n; simp; omega, by show SlF 36 1 v' (bks ++ [b2]).length _ fd'; rw [List.length_append, hm, List.map_append]; exact hS'⟩ (by show n - (bks ++ [b2]).length < n - bks.length; simp; omega) ⟨rfl, rfl, by show some _ = some _; rw [List.length_append, hm]; rfl, trivial⟩ (by show (bx, row 98 (nrec lv n rw' v' (bks ++ [b2]).length (.slice none 0 0))) :: _ = _; rw [List.length_append, hm]; rfl)
        · skip
          refine wo_do rfl (d_buildSlice [S (rep 0)] Try.underlying36 rfl (built9 _)) rfl ?_
          rintro _ _ ⟨b1, rfl, rfl⟩
          refine wy_2 (i := 4) (j := 12) (by kernel_rfl) ?_ ?_
          · skip
            first | refine wo_rd rfl (y_load 0 rfl rfl (v := v) rfl (by kernel_rfl)) rfl ?_ | refine wo_rd rfl (y_load 1 rfl rfl (v := v) rfl (by kernel_rfl)) rfl ?_ | refine wo_rd rfl (y_load 2 rfl rfl (v := v) rfl (by kernel_rfl)) rfl ?_
            refine wy_1 (i := 12) (by kernel_rfl) ?_
            refine wo_do rfl (d_call (by kernel_rfl) rfl (repeatS_spec _ b1 (rep 0) rw' (by omega))) rfl ?_
            rintro _ _ ⟨b2, rfl, rfl⟩
            refine wy_1 (i := 13) (by kernel_rfl) ?_
            refine wo_do rfl (d_buildSlice [sl b2 0 rw' rw'] Try.underlying96 rfl (built36 _ _)) rfl ?_
            rintro _ _ ⟨b3, rfl, rfl⟩
            refine wy_1 (i := 14) (by kernel_rfl) ?_
            refine wo_perm (L' := fd ++ ((b3, row 36 [sl b2 0 rw' rw']) :: (b2, row 9 (List.replicate rw' (S (rep 0)))) :: (bx, row 98 (nrec lv n rw' v (m + 1) (.slice none 0 0))) :: (ndks rw' bks ++ F))) (((List.Perm.cons _ (List.Perm.cons _ perm_mid.symm)).trans (List.Perm.cons _ perm_mid.symm)).trans perm_mid.symm) ?_
            refine wo_do rfl (d_append (sz := 1) (bytes := 24) (L0 := (b3, row 36 [sl b2 0 rw' rw']) :: (b2, row 9 (List.replicate rw' (S (rep 0)))) :: (bx, row 98 (nrec lv n rw' v (m + 1) (.slice none 0 0))) :: (ndks rw' bks ++ F)) 0 (.slice none 0 0) Try.underlying96 (by kernel_rfl) rfl rfl rfl hS rfl rfl (news := [sl b2 0 rw' rw']) rfl rfl rfl (by omega) (by omega)) rfl ?_
            rintro v' _ ⟨fd', hS', rfl⟩
            refine wy_perm (L' := (b3, row 36 [sl b2 0 rw' rw']) :: (bx, row 98 (nrec lv n rw' v (m + 1) (.slice none 0 0))) :: (fd' ++ (ndks rw' (bks ++ [b2]) ++ F))) ?_ (wy_drop ?_)
            · rw [ndks_snoc]
              refine perm_mid.trans (List.Perm.cons _ ?_)
              refine (List.Perm.append_left fd' Go.SL.p1).trans (perm_mid.trans (List.Perm.cons _ (List.Perm.append_left fd' ?_)))
              exact perm_mid.symm
            refine wy_pu (i := 15) rfl (by kernel_rfl) (y_nil rfl) rfl ?_
            first | refine wy_pu (i := 16) rfl (by kernel_rfl) (y_fieldAddr0 3 Try.underlying98 rfl rfl (by kernel_rfl) rfl) rfl ?_ | refine wy_pu (i := 16) rfl (by kernel_rfl) (y_fieldAddr 3 Try.underlying98 rfl rfl (by kernel_rfl) rfl) rfl ?_
            refine wy_1 (i := 17) (by kernel_rfl) ?_
            refine wo_do0 rfl (d_store 0 rfl rfl rfl rfl (slF_one hS') (by kernel_rfl)) (fun _ _ hL => ?_)
            subst hL
            refine wy_heap ((bx, row 98 (nrec lv n rw' v' (m + 1) (.slice none 0 0))) :: (fd' ++ (ndks rw' (bks ++ [b2]) ++ F))) rfl ?_
            refine wy_nil (by kernel_rfl) ?_
            refine at_nq ?_
            refine at_block_normal ?_
            refine at_then ?_
            refine wc_region ?_
            refine wl_pu (y_add rfl rfl (by omega)) rfl ?_
            refine wl_pu (y_move rfl) rfl ?_
            refine wl_nil ?_
            exact at_again (v', bks ++ [b2], fd') ⟨by show (bks ++ [b2]).length ≤ n; simp; omega, by show SlF 36 1 v' (bks ++ [b2]).length _ fd'; rw [List.length_append, hm, List.map_append]; exact hS'⟩ (by show n - (bks ++ [b2]).length < n - bks.length; simp; omega) ⟨rfl, rfl, by show some _ = some _; rw [List.length_append, hm]; rfl, trivial⟩ (by show (bx, row 98 (nrec lv n rw' v' (bks ++ [b2]).length (.slice none 0 0))) :: _ = _; rw [List.length_append, hm]; rfl)
          · skip
            refine wo_do rfl (d_call (by kernel_rfl) rfl (repeatS_spec _ b1 (rep 0) rw' (by omega))) rfl ?_
            rintro _ _ ⟨b2, rfl, rfl⟩
            refine wy_2 (i := 4) (j := 13) (by kernel_rfl) ?_ ?_
            · skip
              first | refine wo_rd rfl (y_load 0 rfl rfl (v := v) rfl (by kernel_rfl)) rfl ?_ | refine wo_rd rfl (y_load 1 rfl rfl (v := v) rfl (by kernel_rfl)) rfl ?_ | refine wo_rd rfl (y_load 2 rfl rfl (v := v) rfl (by kernel_rfl)) rfl ?_
              refine wy_1 (i := 13) (by kernel_rfl) ?_
              refine wo_do rfl (d_buildSlice [sl b2 0 rw' rw'] Try.underlying96 rfl (built36 _ _)) rfl ?_
              rintro _ _ ⟨b3, rfl, rfl⟩
              refine wy_1 (i := 14) (by kernel_rfl) ?_
              refine wo_perm (L' := fd ++ ((b3, row 36 [sl b2 0 rw' rw']) :: (b2, row 9 (List.replicate rw' (S (rep 0)))) :: (bx, row 98 (nrec lv n rw' v (m + 1) (.slice none 0 0))) :: (ndks rw' bks ++ F))) (((List.Perm.cons _ (List.Perm.cons _ perm_mid.symm)).trans (List.Perm.cons _ perm_mid.symm)).trans perm_mid.symm) ?_
              refine wo_do rfl (d_append (sz := 1) (bytes := 24) (L0 := (b3, row 36 [sl b2 0 rw' rw']) :: (b2, row 9 (List.replicate rw' (S (rep 0)))) :: (bx, row 98 (nrec lv n rw' v (m + 1) (.slice none 0 0))) :: (ndks rw' bks ++ F)) 0 (.slice none 0 0) Try.underlying96 (by kernel_rfl) rfl rfl rfl hS rfl rfl (news := [sl b2 0 rw' rw']) rfl rfl rfl (by omega) (by omega)) rfl ?_
              rintro v' _ ⟨fd', hS', rfl⟩
              refine wy_perm (L' := (b3, row 36 [sl b2 0 rw' rw']) :: (bx, row 98 (nrec lv n rw' v (m + 1) (.slice none 0 0))) :: (fd' ++ (ndks rw' (bks ++ [b2]) ++ F))) ?_ (wy_drop ?_)
              · rw [ndks_snoc]
                refine perm_mid.trans (List.Perm.cons _ ?_)
                refine (List.Perm.append_left fd' Go.SL.p1).trans (perm_mid.trans (List.Perm.cons _ (List.Perm.append_left fd' ?_)))
                exact perm_mid.symm
              refine wy_pu (i := 15) rfl (by kernel_rfl) (y_nil rfl) rfl ?_
              first | refine wy_pu (i := 16) rfl (by kernel_rfl) (y_fieldAddr0 3 Try.underlying98 rfl rfl (by kernel_rfl) rfl) rfl ?_ | refine wy_pu (i := 16) rfl (by kernel_rfl) (y_fieldAddr 3 Try.underlying98 rfl rfl (by kernel_rfl) rfl) rfl ?_
              refine wy_1 (i := 17) (by kernel_rfl) ?_
              refine wo_do0 rfl (d_store 0 rfl rfl rfl rfl (slF_one hS') (by kernel_rfl)) (fun _ _ hL => ?_)
              subst hL
              refine wy_heap ((bx, row 98 (nrec lv n rw' v' (m + 1) (.slice none 0 0))) :: (fd' ++ (ndks rw' (bks ++ [b2]) ++ F))) rfl ?_
              refine wy_nil (by kernel_rfl) ?_
              refine at_nq ?_
              refine at_block_normal ?_
              refine at_then ?_
              refine wc_region ?_
              refine wl_pu (y_add rfl rfl (by omega)) rfl ?_
              refine wl_pu (y_move rfl) rfl ?_
              refine wl_nil ?_
              exact at_again (v', bks ++ [b2], fd') ⟨by show (bks ++ [b2]).length ≤ n; simp; omega, by show SlF 36 1 v' (bks ++ [b2]).length _ fd'; rw [List.length_append, hm, List.map_append]; exact hS'⟩ (by show n - (bks ++ [b2]).length < n - bks.length; simp; omega) ⟨rfl, rfl, by show some _ = some _; rw [List.length_append, hm]; rfl, trivial⟩ (by show (bx, row 98 (nrec lv n rw' v' (bks ++ [b2]).length (.slice none 0 0))) :: _ = _; rw [List.length_append, hm]; rfl)
            · skip
              refine wo_do rfl (d_buildSlice [sl b2 0 rw' rw'] Try.underlying96 rfl (built36 _ _)) rfl ?_
              rintro _ _ ⟨b3, rfl, rfl⟩
              refine wy_1 (i := 4) (by kernel_rfl) ?_
              first | refine wo_rd rfl (y_load 0 rfl rfl (v := v) rfl (by kernel_rfl)) rfl ?_ | refine wo_rd rfl (y_load 1 rfl rfl (v := v) rfl (by kernel_rfl)) rfl ?_ | refine wo_rd rfl (y_load 2 rfl rfl (v := v) rfl (by kernel_rfl)) rfl ?_
              refine wy_1 (i := 14) (by kernel_rfl) ?_
              refine wo_perm (L' := fd ++ ((b3, row 36 [sl b2 0 rw' rw']) :: (b2, row 9 (List.replicate rw' (S (rep 0)))) :: (bx, row 98 (nrec lv n rw' v (m + 1) (.slice none 0 0))) :: (ndks rw' bks ++ F))) (((List.Perm.cons _ (List.Perm.cons _ perm_mid.symm)).trans (List.Perm.cons _ perm_mid.symm)).trans perm_mid.symm) ?_
              refine wo_do rfl (d_append (sz := 1) (bytes := 24) (L0 := (b3, row 36 [sl b2 0 rw' rw']) :: (b2, row 9 (List.replicate rw' (S (rep 0)))) :: (bx, row 98 (nrec lv n rw' v (m + 1) (.slice none 0 0))) :: (ndks rw' bks ++ F)) 0 (.slice none 0 0) Try.underlying96 (by kernel_rfl) rfl rfl rfl hS rfl rfl (news := [sl b2 0 rw' rw']) rfl rfl rfl (by omega) (by omega)) rfl ?_
              rintro v' _ ⟨fd', hS', rfl⟩
              refine wy_perm (L' := (b3, row 36 [sl b2 0 rw' rw']) :: (bx, row 98 (nrec lv n rw' v (m + 1) (.slice none 0 0))) :: (fd' ++ (ndks rw' (bks ++ [b2]) ++ F))) ?_ (wy_drop ?_)
              · rw [ndks_snoc]
                refine perm_mid.trans (List.Perm.cons _ ?_)
                refine (List.Perm.append_left fd' Go.SL.p1).trans (perm_mid.trans (List.Perm.cons _ (List.Perm.append_left fd' ?_)))
                exact perm_mid.symm
              refine wy_pu (i := 15) rfl (by kernel_rfl) (y_nil rfl) rfl ?_
              first | refine wy_pu (i := 16) rfl (by kernel_rfl) (y_fieldAddr0 3 Try.underlying98 rfl rfl (by kernel_rfl) rfl) rfl ?_ | refine wy_pu (i := 16) rfl (by kernel_rfl) (y_fieldAddr 3 Try.underlying98 rfl rfl (by kernel_rfl) rfl) rfl ?_
              refine wy_1 (i := 17) (by kernel_rfl) ?_
              refine wo_do0 rfl (d_store 0 rfl rfl rfl rfl (slF_one hS') (by kernel_rfl)) (fun _ _ hL => ?_)
              subst hL
              refine wy_heap ((bx, row 98 (nrec lv n rw' v' (m + 1) (.slice none 0 0))) :: (fd' ++ (ndks rw' (bks ++ [b2]) ++ F))) rfl ?_
              refine wy_nil (by kernel_rfl) ?_
              refine at_nq ?_
              refine at_block_normal ?_
              refine at_then ?_
              refine wc_region ?_
              refine wl_pu (y_add rfl rfl (by omega)) rfl ?_
              refine wl_pu (y_move rfl) rfl ?_
              refine wl_nil ?_
              exact at_again (v', bks ++ [b2], fd') ⟨by show (bks ++ [b2]).length ≤ n; simp; omega, by show SlF 36 1 v' (bks ++ [b2]).length _ fd'; rw [List.length_append, hm, List.map_append]; exact hS'⟩ (by show n - (bks ++ [b2]).length < n - bks.length; simp; omega) ⟨rfl, rfl, by show some _ = some _; rw [List.length_append, hm]; rfl, trivial⟩ (by show (bx, row 98 (nrec lv n rw' v' (bks ++ [b2]).length (.slice none 0 0))) :: _ = _; rw [List.length_append, hm]; rfl)
  · skip
    have hmn : m = n := by omega
    subst hmn
    obtain ⟨bd, cd, spd, rfl, rfl, hcd, hld⟩ := slF_cons hS (by omega)
    refine wc_heap ((bx, row 98 (nrec lv m rw' (sl bd 0 m cd) m (.slice none 0 0))) :: (bd, row 36 ((bks.map fun b => sl b 0 rw' rw') ++ spd)) :: (ndks rw' bks ++ F)) rfl ?_
    have hfin : ∀ bp : Nat, ∃ R : RD, ptr bx 0 = ptr R.bx 0 ∧ RS R (fun _ _ => 0) ∧ (∀ q : Int, 0 ≤ q → q < R.n → R.f q = true) ∧ (bx, row 98 (nrec lv m rw' (sl bd 0 m cd) m (sl bp 0 (rw' * (m - 1)) (rw' * (m - 1))))) :: (bd, row 36 ((bks.map fun b => sl b 0 rw' rw') ++ spd)) :: (bp, row 9 (List.replicate (rw' * (m - 1)) (S (rep 0)))) :: (ndks rw' bks ++ F) = R.hp F := fun bp => by
      refine ⟨⟨lv, m, rw', bx, bd, bp, cd, spd, fun q => bks.getD q 0, fun q => decide (q < m), fun _ _ => 0, fun _ => 0⟩, rfl, ⟨⟨hG, ?_, ?_, fun _ _ _ _ _ _ _ => rfl⟩, fun _ _ _ => rfl⟩, fun q _ hq => by simpa using hq, ?_⟩
      · intro a b _ ha _ _ hfa _
        have hx : decide (a < (m : Int)) = false := hfa
        have ha' : a < (m : Int) := ha
        simp [ha'] at hx
      · intro r _ _
        show xall ((mems m).map fun _ => (0 : UInt8)) = 0
        generalize mems m = l
        induction l with
        | nil => rfl
        | cons a l ih => rw [List.map_cons, xall_cons, ih]; rfl
      · have h1 : ∀ k : Nat, List.replicate k (S (rep 0)) = drow k fun _ => 0 := fun k => frow_zeros k _
        have h2 : (RD.dks ⟨lv, m, rw', bx, bd, bp, cd, spd, fun q => bks.getD q 0, fun q => decide (q < m), fun _ _ => 0, fun _ => 0⟩) = ndks rw' bks := by
          refine (getD_map bks hm (fun b => (b, row 9 (drow rw' fun _ => 0)))).trans ?_
          rw [ndks, h1]
        have h3 : (RD.disks ⟨lv, m, rw', bx, bd, bp, cd, spd, fun q => bks.getD q 0, fun q => decide (q < m), fun _ _ => 0, fun _ => 0⟩) = (bks.map fun b => sl b 0 rw' rw') ++ spd := by
          unfold RD.disks frow
          exact congrArg (· ++ spd) (getD_map bks hm (fun b => sl b 0 rw' rw'))
        show _ = (bx, row 98 _) :: (bd, row 36 _) :: (bp, row 9 _) :: (_ ++ F)
        rw [h2, h3, h1]
        refine congrArg (fun z => (bx, row 98 z) :: _) ?_
        have e : ∀ q : Nat, decide (q < m) = decide ((q : Int) < (m : Int)) := fun q => by simp
        show ([_, _, _, _, Value.bool (decide (0 < m)), Value.bool (decide (1 < m)), Value.bool (decide (2 < m)), Value.bool (decide (3 < m)), _] : List Value) = _
        rw [e 0, e 1, e 2, e 3]
        rfl
    refine wc_exit ?_
    refine at_then_exit ?_
    refine at_then_exit ?_
    refine at_block_same ?_
    refine at_then ?_
    refine wc_seq ?_
    -- at: draw
    refine wc_anyN (by kernel_rfl) ?_
    refine wy_pu (i := 0) rfl (by kernel_rfl) (y_move rfl) rfl ?_
    refine wy_pu (i := 3) rfl (by kernel_rfl) (y_move rfl) rfl ?_
    refine wy_pu (i := 4) rfl (by kernel_rfl) (y_nil rfl) rfl ?_
    first | refine wy_pu (i := 5) rfl (by kernel_rfl) (y_fieldAddr0 0 Try.underlying98 rfl rfl (by kernel_rfl) rfl) rfl ?_ | refine wy_pu (i := 5) rfl (by kernel_rfl) (y_fieldAddr 0 Try.underlying98 rfl rfl (by kernel_rfl) rfl) rfl ?_
    first | refine wy_pu (i := 6) rfl (by kernel_rfl) (y_fieldAddr0 2 Try.underlying72 rfl rfl (by kernel_rfl) rfl) rfl ?_ | refine wy_pu (i := 6) rfl (by kernel_rfl) (y_fieldAddr 2 Try.underlying72 rfl rfl (by kernel_rfl) rfl) rfl ?_
    refine wy_pu (i := 8) rfl (by kernel_rfl) (y_move rfl) rfl ?_
    refine wy_pu (i := 9) rfl (by kernel_rfl) (y_nil rfl) rfl ?_
    first | refine wy_pu (i := 10) rfl (by kernel_rfl) (y_fieldAddr0 0 Try.underlying98 rfl rfl (by kernel_rfl) rfl) rfl ?_ | refine wy_pu (i := 10) rfl (by kernel_rfl) (y_fieldAddr 0 Try.underlying98 rfl rfl (by kernel_rfl) rfl) rfl ?_
    first | refine wy_pu (i := 11) rfl (by kernel_rfl) (y_fieldAddr0 1 Try.underlying72 rfl rfl (by kernel_rfl) rfl) rfl ?_ | refine wy_pu (i := 11) rfl (by kernel_rfl) (y_fieldAddr 1 Try.underlying72 rfl rfl (by kernel_rfl) rfl) rfl ?_
    refine wy_3 (i := 1) (j := 7) (k := 12) (by kernel_rfl) ?_ ?_ ?_
    · skip
      refine wo_do rfl (d_call (by kernel_rfl) rfl (rep1_spec _ 0 64 (by omega))) rfl ?_
      rintro _ L9 ⟨rfl, hL9⟩
      rw [hL9]
      clear hL9
      refine wy_3 (i := 2) (j := 7) (k := 12) (by kernel_rfl) ?_ ?_ ?_
      · skip
        refine wo_do rfl (d_buildSlice [S (rep 0)] Try.underlying36 rfl (built9 _)) rfl ?_
        rintro _ _ ⟨b1, rfl, rfl⟩
        refine wy_2 (i := 7) (j := 12) (by kernel_rfl) ?_ ?_
        · skip
          first | refine wo_rd rfl (y_load 0 rfl rfl (v := int rw') rfl (by kernel_rfl)) rfl ?_ | refine wo_rd rfl (y_load 1 rfl rfl (v := int rw') rfl (by kernel_rfl)) rfl ?_
          refine wy_1 (i := 12) (by kernel_rfl) ?_
          first | refine wo_rd rfl (y_load 0 rfl rfl (v := int m) rfl (by kernel_rfl)) rfl ?_ | refine wo_rd rfl (y_load 1 rfl rfl (v := int m) rfl (by kernel_rfl)) rfl ?_
          refine wy_pu (i := 13) rfl (by kernel_rfl) (y_sub rfl rfl (by omega)) rfl ?_
          refine wy_pu (i := 14) rfl (by kernel_rfl) (v := int ((rw' * (m - 1) : Nat) : Int)) (by rw [← hsz]; exact y_mul rfl rfl (by omega)) rfl ?_
          refine wy_1 (i := 15) (by kernel_rfl) ?_
          refine wo_do rfl (d_call (by kernel_rfl) rfl (repeatS_spec _ b1 (rep 0) (rw' * (m - 1)) (by omega))) rfl ?_
          rintro _ _ ⟨bp, rfl, rfl⟩
          refine wy_pu (i := 16) rfl (by kernel_rfl) (y_nil rfl) rfl ?_
          first | refine wy_pu (i := 17) rfl (by kernel_rfl) (y_fieldAddr0 8 Try.underlying98 rfl rfl (by kernel_rfl) rfl) rfl ?_ | refine wy_pu (i := 17) rfl (by kernel_rfl) (y_fieldAddr 8 Try.underlying98 rfl rfl (by kernel_rfl) rfl) rfl ?_
          refine wy_1 (i := 18) (by kernel_rfl) ?_
          refine wo_do0 rfl (d_store 1 rfl rfl rfl rfl rfl (by kernel_rfl)) (fun _ _ hL => ?_)
          subst hL
          refine wy_heap ((bp, row 9 (List.replicate (rw' * (m - 1)) (S (rep 0)))) :: (bx, row 98 (nrec lv m rw' (sl bd 0 m cd) m (sl bp 0 (rw' * (m - 1)) (rw' * (m - 1))))) :: (bd, row 36 ((bks.map fun b => sl b 0 rw' rw') ++ spd)) :: (ndks rw' bks ++ F)) rfl ?_
          refine wy_perm Go.SL.p2.symm ?_
          refine wy_nil (by kernel_rfl) ?_
          refine at_nq ?_
          refine at_then ?_
          refine wc_seq ?_
          refine wc_region ?_
          refine wl_pu (y_move rfl) rfl ?_
          refine wl_pu (y_assign rfl) rfl ?_
          refine wl_nil ?_
          refine at_then ?_
          refine wc_ret ?_
          refine at_ret1 rfl rfl ?_
          exact hfin bp
        · skip
          first | refine wo_rd rfl (y_load 0 rfl rfl (v := int m) rfl (by kernel_rfl)) rfl ?_ | refine wo_rd rfl (y_load 1 rfl rfl (v := int m) rfl (by kernel_rfl)) rfl ?_
          refine wy_pu (i := 13) rfl (by kernel_rfl) (y_sub rfl rfl (by omega)) rfl ?_
          refine wy_1 (i := 7) (by kernel_rfl) ?_
          first | refine wo_rd rfl (y_load 0 rfl rfl (v := int rw') rfl (by kernel_rfl)) rfl ?_ | refine wo_rd rfl (y_load 1 rfl rfl (v := int rw') rfl (by kernel_rfl)) rfl ?_
          refine wy_pu (i := 14) rfl (by kernel_rfl) (v := int ((rw' * (m - 1) : Nat) : Int)) (by rw [← hsz]; exact y_mul rfl rfl (by omega)) rfl ?_
          refine wy_1 (i := 15) (by kernel_rfl) ?_
          refine wo_do rfl (d_call (by kernel_rfl) rfl (repeatS_spec _ b1 (rep 0) (rw' * (m - 1)) (by omega))) rfl ?_
          rintro _ _ ⟨bp, rfl, rfl⟩
          refine wy_pu (i := 16) rfl (by kernel_rfl) (y_nil rfl) rfl ?_
          first | refine wy_pu (i := 17) rfl (by kernel_rfl) (y_fieldAddr0 8 Try.underlying98 rfl rfl (by kernel_rfl) rfl) rfl ?_ | refine wy_pu (i := 17) rfl (by kernel_rfl) (y_fieldAddr 8 Try.underlying98 rfl rfl (by kernel_rfl) rfl) rfl ?_
          refine wy_1 (i := 18) (by kernel_rfl) ?_
          refine wo_do0 rfl (d_store 1 rfl rfl rfl rfl rfl (by kernel_rfl)) (fun _ _ hL => ?_)
          subst hL
          refine wy_heap ((bp, row 9 (List.replicate (rw' * (m - 1)) (S (rep 0)))) :: (bx, row 98 (nrec lv m rw' (sl bd 0 m cd) m (sl bp 0 (rw' * (m - 1)) (rw' * (m - 1))))) :: (bd, row 36 ((bks.map fun b => sl b 0 rw' rw') ++ spd)) :: (ndks rw' bks ++ F)) rfl ?_
          refine wy_perm Go.SL.p2.symm ?_
          refine wy_nil (by kernel_rfl) ?_
          refine at_nq ?_
          refine at_then ?_
          refine wc_seq ?_
          refine wc_region ?_
          refine wl_pu (y_move rfl) rfl ?_
          refine wl_pu (y_assign rfl) rfl ?_
          refine wl_nil ?_
          refine at_then ?_
          refine wc_ret ?_
          refine at_ret1 rfl rfl ?_
          exact hfin bp
      · skip
        first | refine wo_rd rfl (y_load 0 rfl rfl (v := int rw') rfl (by kernel_rfl)) rfl ?_ | refine wo_rd rfl (y_load 1 rfl rfl (v := int rw') rfl (by kernel_rfl)) rfl ?_
        refine wy_2 (i := 2) (j := 12) (by kernel_rfl) ?_ ?_
        · skip
          refine wo_do rfl (d_buildSlice [S (rep 0)] Try.underlying36 rfl (built9 _)) rfl ?_
          rintro _ _ ⟨b1, rfl, rfl⟩
          refine wy_1 (i := 12) (by kernel_rfl) ?_
          first | refine wo_rd rfl (y_load 0 rfl rfl (v := int m) rfl (by kernel_rfl)) rfl ?_ | refine wo_rd rfl (y_load 1 rfl rfl (v := int m) rfl (by kernel_rfl)) rfl ?_
          refine wy_pu (i := 13) rfl (by kernel_rfl) (y_sub rfl rfl (by omega)) rfl ?_
          refine wy_pu (i := 14) rfl (by kernel_rfl) (v := int ((rw' * (m - 1) : Nat) : Int)) (by rw [← hsz]; exact y_mul rfl rfl (by omega)) rfl ?_
          refine wy_1 (i := 15) (by kernel_rfl) ?_
          refine wo_do rfl (d_call (by kernel_rfl) rfl (repeatS_spec _ b1 (rep 0) (rw' * (m - 1)) (by omega))) rfl ?_
          rintro _ _ ⟨bp, rfl, rfl⟩
          refine wy_pu (i := 16) rfl (by kernel_rfl) (y_nil rfl) rfl ?_
          first | refine wy_pu (i := 17) rfl (by kernel_rfl) (y_fieldAddr0 8 Try.underlying98 rfl rfl (by kernel_rfl) rfl) rfl ?_ | refine wy_pu (i := 17) rfl (by kernel_rfl) (y_fieldAddr 8 Try.underlying98 rfl rfl (by kernel_rfl) rfl) rfl ?_
          refine wy_1 (i := 18) (by kernel_rfl) ?_
          refine wo_do0 rfl (d_store 1 rfl rfl rfl rfl rfl (by kernel_rfl)) (fun _ _ hL => ?_)
          subst hL
          refine wy_heap ((bp, row 9 (List.replicate (rw' * (m - 1)) (S (rep 0)))) :: (bx, row 98 (nrec lv m rw' (sl bd 0 m cd) m (sl bp 0 (rw' * (m - 1)) (rw' * (m - 1))))) :: (bd, row 36 ((bks.map fun b => sl b 0 rw' rw') ++ spd)) :: (ndks rw' bks ++ F)) rfl ?_
          refine wy_perm Go.SL.p2.symm ?_
          refine wy_nil (by kernel_rfl) ?_
          refine at_nq ?_
          refine at_then ?_
          refine wc_seq ?_
          refine wc_region ?_
          refine wl_pu (y_move rfl) rfl ?_
          refine wl_pu (y_assign rfl) rfl ?_
          refine wl_nil ?_
          refine at_then ?_
          refine wc_ret ?_
          refine at_ret1 rfl rfl ?_
          exact hfin bp
        · skip
          first | refine wo_rd rfl (y_load 0 rfl rfl (v := int m) rfl (by kernel_rfl)) rfl ?_ | refine wo_rd rfl (y_load 1 rfl rfl (v := int m) rfl (by kernel_rfl)) rfl ?_
          refine wy_pu (i := 13) rfl (by kernel_rfl) (y_sub rfl rfl (by omega)) rfl ?_
          refine wy_pu (i := 14) rfl (by kernel_rfl) (v := int ((rw' * (m - 1) : Nat) : Int)) (by rw [← hsz]; exact y_mul rfl rfl (by omega)) rfl ?_
          refine wy_1 (i := 2) (by kernel_rfl) ?_
          refine wo_do rfl (d_buildSlice [S (rep 0)] Try.underlying36 rfl (built9 _)) rfl ?_
          rintro _ _ ⟨b1, rfl, rfl⟩
          refine wy_1 (i := 15) (by kernel_rfl) ?_
          refine wo_do rfl (d_call (by kernel_rfl) rfl (repeatS_spec _ b1 (rep 0) (rw' * (m - 1)) (by omega))) rfl ?_
          rintro _ _ ⟨bp, rfl, rfl⟩
          refine wy_pu (i := 16) rfl (by kernel_rfl) (y_nil rfl) rfl ?_
          first | refine wy_pu (i := 17) rfl (by kernel_rfl) (y_fieldAddr0 8 Try.underlying98 rfl rfl (by kernel_rfl) rfl) rfl ?_ | refine wy_pu (i := 17) rfl (by kernel_rfl) (y_fieldAddr 8 Try.underlying98 rfl rfl (by kernel_rfl) rfl) rfl ?_
          refine wy_1 (i := 18) (by kernel_rfl) ?_
          refine wo_do0 rfl (d_store 1 rfl rfl rfl rfl rfl (by kernel_rfl)) (fun _ _ hL => ?_)
          subst hL
          refine wy_heap ((bp, row 9 (List.replicate (rw' * (m - 1)) (S (rep 0)))) :: (bx, row 98 (nrec lv m rw' (sl bd 0 m cd) m (sl bp 0 (rw' * (m - 1)) (rw' * (m - 1))))) :: (bd, row 36 ((bks.map fun b => sl b 0 rw' rw') ++ spd)) :: (ndks rw' bks ++ F)) rfl ?_
          refine wy_perm Go.SL.p2.symm ?_
          refine wy_nil (by kernel_rfl) ?_
          refine at_nq ?_
          refine at_then ?_
          refine wc_seq ?_
          refine wc_region ?_
          refine wl_pu (y_move rfl) rfl ?_
          refine wl_pu (y_assign rfl) rfl ?_
          refine wl_nil ?_
          refine at_then ?_
          refine wc_ret ?_
          refine at_ret1 rfl rfl ?_
          exact hfin bp
      · skip
        first | refine wo_rd rfl (y_load 0 rfl rfl (v := int m) rfl (by kernel_rfl)) rfl ?_ | refine wo_rd rfl (y_load 1 rfl rfl (v := int m) rfl (by kernel_rfl)) rfl ?_
        refine wy_pu (i := 13) rfl (by kernel_rfl) (y_sub rfl rfl (by omega)) rfl ?_
        refine wy_2 (i := 2) (j := 7) (by kernel_rfl) ?_ ?_
        · skip
          refine wo_do rfl (d_buildSlice [S (rep 0)] Try.underlying36 rfl (built9 _)) rfl ?_
          rintro _ _ ⟨b1, rfl, rfl⟩
          refine wy_1 (i := 7) (by kernel_rfl) ?_
          first | refine wo_rd rfl (y_load 0 rfl rfl (v := int rw') rfl (by kernel_rfl)) rfl ?_ | refine wo_rd rfl (y_load 1 rfl rfl (v := int rw') rfl (by kernel_rfl)) rfl ?_
          refine wy_pu (i := 14) rfl (by kernel_rfl) (v := int ((rw' * (m - 1) : Nat) : Int)) (by rw [← hsz]; exact y_mul rfl rfl (by omega)) rfl ?_
          refine wy_1 (i := 15) (by kernel_rfl) ?_
          refine wo_do rfl (d_call (by kernel_rfl) rfl (repeatS_spec _ b1 (rep 0) (rw' * (m - 1)) (by omega))) rfl ?_
          rintro _ _ ⟨bp, rfl, rfl⟩
          refine wy_pu (i := 16) rfl (by kernel_rfl) (y_nil rfl) rfl ?_
          first | refine wy_pu (i := 17) rfl (by kernel_rfl) (y_fieldAddr0 8 Try.underlying98 rfl rfl (by kernel_rfl) rfl) rfl ?_ | refine wy_pu (i := 17) rfl (by kernel_rfl) (y_fieldAddr 8 Try.underlying98 rfl rfl (by kernel_rfl) rfl) rfl ?_
          refine wy_1 (i := 18) (by kernel_rfl) ?_
          refine wo_do0 rfl (d_store 1 rfl rfl rfl rfl rfl (by kernel_rfl)) (fun _ _ hL => ?_)
          subst hL
          refine wy_heap ((bp, row 9 (List.replicate (rw' * (m - 1)) (S (rep 0)))) :: (bx, row 98 (nrec lv m rw' (sl bd 0 m cd) m (sl bp 0 (rw' * (m - 1)) (rw' * (m - 1))))) :: (bd, row 36 ((bks.map fun b => sl b 0 rw' rw') ++ spd)) :: (ndks rw' bks ++ F)) rfl ?_
          refine wy_perm Go.SL.p2.symm ?_
          refine wy_nil (by kernel_rfl) ?_
          refine at_nq ?_
          refine at_then ?_
          refine wc_seq ?_
          refine wc_region ?_
          refine wl_pu (y_move rfl) rfl ?_
          refine wl_pu (y_assign rfl) rfl ?_
          refine wl_nil ?_
          refine at_then ?_
          refine wc_ret ?_
          refine at_ret1 rfl rfl ?_
          exact hfin bp
        · skip
          first | refine wo_rd rfl (y_load 0 rfl rfl (v := int rw') rfl (by kernel_rfl)) rfl ?_ | refine wo_rd rfl (y_load 1 rfl rfl (v := int rw') rfl (by kernel_rfl)) rfl ?_
          refine wy_pu (i := 14) rfl (by kernel_rfl) (v := int ((rw' * (m - 1) : Nat) : Int)) (by rw [← hsz]; exact y_mul rfl rfl (by omega)) rfl ?_
          refine wy_1 (i := 2) (by kernel_rfl) ?_
          refine wo_do rfl (d_buildSlice [S (rep 0)] Try.underlying36 rfl (built9 _)) rfl ?_
          rintro _ _ ⟨b1, rfl, rfl⟩
          refine wy_1 (i := 15) (by kernel_rfl) ?_
          refine wo_do rfl (d_call (by kernel_rfl) rfl (repeatS_spec _ b1 (rep 0) (rw' * (m - 1)) (by omega))) rfl ?_
          rintro _ _ ⟨bp, rfl, rfl⟩
          refine wy_pu (i := 16) rfl (by kernel_rfl) (y_nil rfl) rfl ?_
          first | refine wy_pu (i := 17) rfl (by kernel_rfl) (y_fieldAddr0 8 Try.underlying98 rfl rfl (by kernel_rfl) rfl) rfl ?_ | refine wy_pu (i := 17) rfl (by kernel_rfl) (y_fieldAddr 8 Try.underlying98 rfl rfl (by kernel_rfl) rfl) rfl ?_
          refine wy_1 (i := 18) (by kernel_rfl) ?_
          refine wo_do0 rfl (d_store 1 rfl rfl rfl rfl rfl (by kernel_rfl)) (fun _ _ hL => ?_)
          subst hL
          refine wy_heap ((bp, row 9 (List.replicate (rw' * (m - 1)) (S (rep 0)))) :: (bx, row 98 (nrec lv m rw' (sl bd 0 m cd) m (sl bp 0 (rw' * (m - 1)) (rw' * (m - 1))))) :: (bd, row 36 ((bks.map fun b => sl b 0 rw' rw') ++ spd)) :: (ndks rw' bks ++ F)) rfl ?_
          refine wy_perm Go.SL.p2.symm ?_
          refine wy_nil (by kernel_rfl) ?_
          refine at_nq ?_
          refine at_then ?_
          refine wc_seq ?_
          refine wc_region ?_
          refine wl_pu (y_move rfl) rfl ?_
          refine wl_pu (y_assign rfl) rfl ?_
          refine wl_nil ?_
          refine at_then ?_
          refine wc_ret ?_
          refine at_ret1 rfl rfl ?_
          exact hfin bp
    · skip
      first | refine wo_rd rfl (y_load 0 rfl rfl (v := int rw') rfl (by kernel_rfl)) rfl ?_ | refine wo_rd rfl (y_load 1 rfl rfl (v := int rw') rfl (by kernel_rfl)) rfl ?_
      refine wy_2 (i := 1) (j := 12) (by kernel_rfl) ?_ ?_
      · skip
        refine wo_do rfl (d_call (by kernel_rfl) rfl (rep1_spec _ 0 64 (by omega))) rfl ?_
        rintro _ L9 ⟨rfl, hL9⟩
        rw [hL9]
        clear hL9
        refine wy_2 (i := 2) (j := 12) (by kernel_rfl) ?_ ?_
        · skip
          refine wo_do rfl (d_buildSlice [S (rep 0)] Try.underlying36 rfl (built9 _)) rfl ?_
          rintro _ _ ⟨b1, rfl, rfl⟩
          refine wy_1 (i := 12) (by kernel_rfl) ?_
          first | refine wo_rd rfl (y_load 0 rfl rfl (v := int m) rfl (by kernel_rfl)) rfl ?_ | refine wo_rd rfl (y_load 1 rfl rfl (v := int m) rfl (by kernel_rfl)) rfl ?_
          refine wy_pu (i := 13) rfl (by kernel_rfl) (y_sub rfl rfl (by omega)) rfl ?_
          refine wy_pu (i := 14) rfl (by kernel_rfl) (v := int ((rw' * (m - 1) : Nat) : Int)) (by rw [← hsz]; exact y_mul rfl rfl (by omega)) rfl ?_
          refine wy_1 (i := 15) (by kernel_rfl) ?_
          refine wo_do rfl (d_call (by kernel_rfl) rfl (repeatS_spec _ b1 (rep 0) (rw' * (m - 1)) (by omega))) rfl ?_
          rintro _ _ ⟨bp, rfl, rfl⟩
          refine wy_pu (i := 16) rfl (by kernel_rfl) (y_nil rfl) rfl ?_
          first | refine wy_pu (i := 17) rfl (by kernel_rfl) (y_fieldAddr0 8 Try.underlying98 rfl rfl (by kernel_rfl) rfl) rfl ?_ | refine wy_pu (i := 17) rfl (by kernel_rfl) (y_fieldAddr 8 Try.underlying98 rfl rfl (by kernel_rfl) rfl) rfl ?_
          refine wy_1 (i := 18) (by kernel_rfl) ?_
          refine wo_do0 rfl (d_store 1 rfl rfl rfl rfl rfl (by kernel_rfl)) (fun _ _ hL => ?_)
          subst hL
          refine wy_heap ((bp, row 9 (List.replicate (rw' * (m - 1)) (S (rep 0)))) :: (bx, row 98 (nrec lv m rw' (sl bd 0 m cd) m (sl bp 0 (rw' * (m - 1)) (rw' * (m - 1))))) :: (bd, row 36 ((bks.map fun b => sl b 0 rw' rw') ++ spd)) :: (ndks rw' bks ++ F)) rfl ?_
          refine wy_perm Go.SL.p2.symm ?_
          refine wy_nil (by kernel_rfl) ?_
          refine at_nq ?_
          refine at_then ?_
          refine wc_seq ?_
          refine wc_region ?_
          refine wl_pu (y_move rfl) rfl ?_
          refine wl_pu (y_assign rfl) rfl ?_
          refine wl_nil ?_
          refine at_then ?_
          refine wc_ret ?_
          refine at_ret1 rfl rfl ?_
          exact hfin bp
        · skip
          first | refine wo_rd rfl (y_load 0 rfl rfl (v := int m) rfl (by kernel_rfl)) rfl ?_ | refine wo_rd rfl (y_load 1 rfl rfl (v := int m) rfl (by kernel_rfl)) rfl ?_
          refine wy_pu (i := 13) rfl (by kernel_rfl) (y_sub rfl rfl (by omega)) rfl ?_
          refine wy_pu (i := 14) rfl (by kernel_rfl) (v := int ((rw' * (m - 1) : Nat) : Int)) (by rw [← hsz]; exact y_mul rfl rfl (by omega)) rfl ?_
          refine wy_1 (i := 2) (by kernel_rfl) ?_
          refine wo_do rfl (d_buildSlice [S (rep 0)] Try.underlying36 rfl (built9 _)) rfl ?_
          rintro _ _ ⟨b1, rfl, rfl⟩
          refine wy_1 (i := 15) (by kernel_rfl) ?_
          refine wo_do rfl (d_call (by kernel_rfl) rfl (repeatS_spec _ b1 (rep 0) (rw' * (m - 1)) (by omega))) rfl ?_
          rintro _ _ ⟨bp, rfl, rfl⟩
          refine wy_pu (i := 16) rfl (by kernel_rfl) (y_nil rfl) rfl ?_
          first | refine wy_pu (i := 17) rfl (by kernel_rfl) (y_fieldAddr0 8 Try.underlying98 rfl rfl (by kernel_rfl) rfl) rfl ?_ | refine wy_pu (i := 17) rfl (by kernel_rfl) (y_fieldAddr 8 Try.underlying98 rfl rfl (by kernel_rfl) rfl) rfl ?_
          refine wy_1 (i := 18) (by kernel_rfl) ?_
          refine wo_do0 rfl (d_store 1 rfl rfl rfl rfl rfl (by kernel_rfl)) (fun _ _ hL => ?_)
          subst hL
          refine wy_heap ((bp, row 9 (List.replicate (rw' * (m - 1)) (S (rep 0)))) :: (bx, row 98 (nrec lv m rw' (sl bd 0 m cd) m (sl bp 0 (rw' * (m - 1)) (rw' * (m - 1))))) :: (bd, row 36 ((bks.map fun b => sl b 0 rw' rw') ++ spd)) :: (ndks rw' bks ++ F)) rfl ?_
          refine wy_perm Go.SL.p2.symm ?_
          refine wy_nil (by kernel_rfl) ?_
          refine at_nq ?_
          refine at_then ?_
          refine wc_seq ?_
          refine wc_region ?_
          refine wl_pu (y_move rfl) rfl ?_
          refine wl_pu (y_assign rfl) rfl ?_
          refine wl_nil ?_
          refine at_then ?_
          refine wc_ret ?_
          refine at_ret1 rfl rfl ?_
          exact hfin bp
      · skip
        first | refine wo_rd rfl (y_load 0 rfl rfl (v := int m) rfl (by kernel_rfl)) rfl ?_ | refine wo_rd rfl (y_load 1 rfl rfl (v := int m) rfl (by kernel_rfl)) rfl ?_
        refine wy_pu (i := 13) rfl (by kernel_rfl) (y_sub rfl rfl (by omega)) rfl ?_
        refine wy_pu (i := 14) rfl (by kernel_rfl) (v := int ((rw' * (m - 1) : Nat) : Int)) (by rw [← hsz]; exact y_mul rfl rfl (by omega)) rfl ?_
        refine wy_1 (i := 1) (by kernel_rfl) ?_
        refine wo_do rfl (d_call (by kernel_rfl) rfl (rep1_spec _ 0 64 (by omega))) rfl ?_
        rintro _ L9 ⟨rfl, hL9⟩
        rw [hL9]
        clear hL9
        refine wy_1 (i := 2) (by kernel_rfl) ?_
        refine wo_do rfl (d_buildSlice [S (rep 0)] Try.underlying36 rfl (built9 _)) rfl ?_
        rintro _ _ ⟨b1, rfl, rfl⟩
        refine wy_1 (i := 15) (by kernel_rfl) ?_
        refine wo_do rfl (d_call (by kernel_rfl) rfl (repeatS_spec _ b1 (rep 0) (rw' * (m - 1)) (by omega))) rfl ?_
        rintro _ _ ⟨bp, rfl, rfl⟩
        refine wy_pu (i := 16) rfl (by kernel_rfl) (y_nil rfl) rfl ?_
        first | refine wy_pu (i := 17) rfl (by kernel_rfl) (y_fieldAddr0 8 Try.underlying98 rfl rfl (by kernel_rfl) rfl) rfl ?_ | refine wy_pu (i := 17) rfl (by kernel_rfl) (y_fieldAddr 8 Try.underlying98 rfl rfl (by kernel_rfl) rfl) rfl ?_
        refine wy_1 (i := 18) (by kernel_rfl) ?_
        refine wo_do0 rfl (d_store 1 rfl rfl rfl rfl rfl (by kernel_rfl)) (fun _ _ hL => ?_)
        subst hL
        refine wy_heap ((bp, row 9 (List.replicate (rw' * (m - 1)) (S (rep 0)))) :: (bx, row 98 (nrec lv m rw' (sl bd 0 m cd) m (sl bp 0 (rw' * (m - 1)) (rw' * (m - 1))))) :: (bd, row 36 ((bks.map fun b => sl b 0 rw' rw') ++ spd)) :: (ndks rw' bks ++ F)) rfl ?_
        refine wy_perm Go.SL.p2.symm ?_
        refine wy_nil (by kernel_rfl) ?_
        refine at_nq ?_
        refine at_then ?_
        refine wc_seq ?_
        refine wc_region ?_
        refine wl_pu (y_move rfl) rfl ?_
        refine wl_pu (y_assign rfl) rfl ?_
        refine wl_nil ?_
        refine at_then ?_
        refine wc_ret ?_
        refine at_ret1 rfl rfl ?_
        exact hfin bp
    · skip
      first | refine wo_rd rfl (y_load 0 rfl rfl (v := int m) rfl (by kernel_rfl)) rfl ?_ | refine wo_rd rfl (y_load 1 rfl rfl (v := int m) rfl (by kernel_rfl)) rfl ?_
      refine wy_pu (i := 13) rfl (by kernel_rfl) (y_sub rfl rfl (by omega)) rfl ?_
      refine wy_2 (i := 1) (j := 7) (by kernel_rfl) ?_ ?_
      · skip
        refine wo_do rfl (d_call (by kernel_rfl) rfl (rep1_spec _ 0 64 (by omega))) rfl ?_
        rintro _ L9 ⟨rfl, hL9⟩
        rw [hL9]
        clear hL9
        refine wy_2 (i := 2) (j := 7) (by kernel_rfl) ?_ ?_
        · skip
          refine wo_do rfl (d_buildSlice [S (rep 0)] Try.underlying36 rfl (built9 _)) rfl ?_
          rintro _ _ ⟨b1, rfl, rfl⟩
          refine wy_1 (i := 7) (by kernel_rfl) ?_
          first | refine wo_rd rfl (y_load 0 rfl rfl (v := int rw') rfl (by kernel_rfl)) rfl ?_ | refine wo_rd rfl (y_load 1 rfl rfl (v := int rw') rfl (by kernel_rfl)) rfl ?_
          refine wy_pu (i := 14) rfl (by kernel_rfl) (v := int ((rw' * (m - 1) : Nat) : Int)) (by rw [← hsz]; exact y_mul rfl rfl (by omega)) rfl ?_
          refine wy_1 (i := 15) (by kernel_rfl) ?_
          refine wo_do rfl (d_call (by kernel_rfl) rfl (repeatS_spec _ b1 (rep 0) (rw' * (m - 1)) (by omega))) rfl ?_
          rintro _ _ ⟨bp, rfl, rfl⟩
          refine wy_pu (i := 16) rfl (by kernel_rfl) (y_nil rfl) rfl ?_
          first | refine wy_pu (i := 17) rfl (by kernel_rfl) (y_fieldAddr0 8 Try.underlying98 rfl rfl (by kernel_rfl) rfl) rfl ?_ | refine wy_pu (i := 17) rfl (by kernel_rfl) (y_fieldAddr 8 Try.underlying98 rfl rfl (by kernel_rfl) rfl) rfl ?_
          refine wy_1 (i := 18) (by kernel_rfl) ?_
          refine wo_do0 rfl (d_store 1 rfl rfl rfl rfl rfl (by kernel_rfl)) (fun _ _ hL => ?_)
          subst hL
          refine wy_heap ((bp, row 9 (List.replicate (rw' * (m - 1)) (S (rep 0)))) :: (bx, row 98 (nrec lv m rw' (sl bd 0 m cd) m (sl bp 0 (rw' * (m - 1)) (rw' * (m - 1))))) :: (bd, row 36 ((bks.map fun b => sl b 0 rw' rw') ++ spd)) :: (ndks rw' bks ++ F)) rfl ?_
          refine wy_perm Go.SL.p2.symm ?_
          refine wy_nil (by kernel_rfl) ?_
          refine at_nq ?_
          refine at_then ?_
          refine wc_seq ?_
          refine wc_region ?_
          refine wl_pu (y_move rfl) rfl ?_
          refine wl_pu (y_assign rfl) rfl ?_
          refine wl_nil ?_
          refine at_then ?_
          refine wc_ret ?_
          refine at_ret1 rfl rfl ?_
          exact hfin bp
        · skip
          first | refine wo_rd rfl (y_load 0 rfl rfl (v := int rw') rfl (by kernel_rfl)) rfl ?_ | refine wo_rd rfl (y_load 1 rfl rfl (v := int rw') rfl (by kernel_rfl)) rfl ?_
          refine wy_pu (i := 14) rfl (by kernel_rfl) (v := int ((rw' * (m - 1) : Nat) : Int)) (by rw [← hsz]; exact y_mul rfl rfl (by omega)) rfl ?_
          refine wy_1 (i := 2) (by kernel_rfl) ?_
          refine wo_do rfl (d_buildSlice [S (rep 0)] Try.underlying36 rfl (built9 _)) rfl ?_
          rintro _ _ ⟨b1, rfl, rfl⟩
          refine wy_1 (i := 15) (by kernel_rfl) ?_
          refine wo_do rfl (d_call (by kernel_rfl) rfl (repeatS_spec _ b1 (rep 0) (rw' * (m - 1)) (by omega))) rfl ?_
          rintro _ _ ⟨bp, rfl, rfl⟩
          refine wy_pu (i := 16) rfl (by kernel_rfl) (y_nil rfl) rfl ?_
          first | refine wy_pu (i := 17) rfl (by kernel_rfl) (y_fieldAddr0 8 Try.underlying98 rfl rfl (by kernel_rfl) rfl) rfl ?_ | refine wy_pu (i := 17) rfl (by kernel_rfl) (y_fieldAddr 8 Try.underlying98 rfl rfl (by kernel_rfl) rfl) rfl ?_
          refine wy_1 (i := 18) (by kernel_rfl) ?_
          refine wo_do0 rfl (d_store 1 rfl rfl rfl rfl rfl (by kernel_rfl)) (fun _ _ hL => ?_)
          subst hL
          refine wy_heap ((bp, row 9 (List.replicate (rw' * (m - 1)) (S (rep 0)))) :: (bx, row 98 (nrec lv m rw' (sl bd 0 m cd) m (sl bp 0 (rw' * (m - 1)) (rw' * (m - 1))))) :: (bd, row 36 ((bks.map fun b => sl b 0 rw' rw') ++ spd)) :: (ndks rw' bks ++ F)) rfl ?_
          refine wy_perm Go.SL.p2.symm ?_
          refine wy_nil (by kernel_rfl) ?_
          refine at_nq ?_
          refine at_then ?_
          refine wc_seq ?_
          refine wc_region ?_
          refine wl_pu (y_move rfl) rfl ?_
          refine wl_pu (y_assign rfl) rfl ?_
          refine wl_nil ?_
          refine at_then ?_
          refine wc_ret ?_
          refine at_ret1 rfl rfl ?_
          exact hfin bp
      · skip
        first | refine wo_rd rfl (y_load 0 rfl rfl (v := int rw') rfl (by kernel_rfl)) rfl ?_ | refine wo_rd rfl (y_load 1 rfl rfl (v := int rw') rfl (by kernel_rfl)) rfl ?_
        refine wy_pu (i := 14) rfl (by kernel_rfl) (v := int ((rw' * (m - 1) : Nat) : Int)) (by rw [← hsz]; exact y_mul rfl rfl (by omega)) rfl ?_
        refine wy_1 (i := 1) (by kernel_rfl) ?_
        refine wo_do rfl (d_call (by kernel_rfl) rfl (rep1_spec _ 0 64 (by omega))) rfl ?_
        rintro _ L9 ⟨rfl, hL9⟩
        rw [hL9]
        clear hL9
        refine wy_1 (i := 2) (by kernel_rfl) ?_
        refine wo_do rfl (d_buildSlice [S (rep 0)] Try.underlying36 rfl (built9 _)) rfl ?_
        rintro _ _ ⟨b1, rfl, rfl⟩
        refine wy_1 (i := 15) (by kernel_rfl) ?_
        refine wo_do rfl (d_call (by kernel_rfl) rfl (repeatS_spec _ b1 (rep 0) (rw' * (m - 1)) (by omega))) rfl ?_
        rintro _ _ ⟨bp, rfl, rfl⟩
        refine wy_pu (i := 16) rfl (by kernel_rfl) (y_nil rfl) rfl ?_
        first | refine wy_pu (i := 17) rfl (by kernel_rfl) (y_fieldAddr0 8 Try.underlying98 rfl rfl (by kernel_rfl) rfl) rfl ?_ | refine wy_pu (i := 17) rfl (by kernel_rfl) (y_fieldAddr 8 Try.underlying98 rfl rfl (by kernel_rfl) rfl) rfl ?_
        refine wy_1 (i := 18) (by kernel_rfl) ?_
        refine wo_do0 rfl (d_store 1 rfl rfl rfl rfl rfl (by kernel_rfl)) (fun _ _ hL => ?_)
        subst hL
        refine wy_heap ((bp, row 9 (List.replicate (rw' * (m - 1)) (S (rep 0)))) :: (bx, row 98 (nrec lv m rw' (sl bd 0 m cd) m (sl bp 0 (rw' * (m - 1)) (rw' * (m - 1))))) :: (bd, row 36 ((bks.map fun b => sl b 0 rw' rw') ++ spd)) :: (ndks rw' bks ++ F)) rfl ?_
        refine wy_perm Go.SL.p2.symm ?_
        refine wy_nil (by kernel_rfl) ?_
        refine at_nq ?_
        refine at_then ?_
        refine wc_seq ?_
        refine wc_region ?_
        refine wl_pu (y_move rfl) rfl ?_
        refine wl_pu (y_assign rfl) rfl ?_
        refine wl_nil ?_
        refine at_then ?_
        refine wc_ret ?_
        refine at_ret1 rfl rfl ?_
        exact hfin bp
end Go.Proofs.Ytkpndnjhfocheaa
