/- super.Read of a whole superblock. -/
import Derived.Test.YtkpndnjhfocheaaSupersF
namespace Go.Proofs.Ytkpndnjhfocheaa
open Go.SL
variable {X : Inhabited SL.Outside}

theorem blt_of' {a b : Nat} (h : a < b) : Nat.blt a b = true := Nat.ble_eq_true_of_le h
def offs : Nat → Nat
  | 7 => 11
  | 8 => 7
  | 9 => 8
  | 10 => 9
  | 11 => 10
  | i => i
def fillc (fs : List Int) : Nat → List Value
  | 0 => sp0
  | i + 1 => (fillc fs i).set (offs i) (int (fs[i]?.getD 0))
theorem fillc_len (fs : List Int) (i : Nat) : (fillc fs i).length = 12 := by
  induction i with
  | zero => rfl
  | succ i ih => simp only [fillc, List.length_set, ih]
theorem fptrs_at (b : Nat) (sp : List Value) (i : Nat) (h : i < 12) : nth (fptrs b ++ sp) i = some (ptr b (offs i)) ∧ offs i < 12 := by
  rcases i with _|_|_|_|_|_|_|_|_|_|_|_|i <;> first | omega | exact ⟨rfl, by decide⟩
theorem get_at2 (l : List UInt8) (sp : List Value) {off k : Nat} (ho : off = k) (hk : k + 4 ≤ l.length) : ∀ i, i < 4 → nth (B8 l ++ sp) (off + i * 1) = some (.int .u8 ((((l.drop k)[i]?.getD 0).toNat : Nat) : Int)) := fun i hi => by
  subst ho
  have h := u8_nth l (off + i) (by omega)
  rw [nth_eq] at h ⊢
  rw [Nat.mul_one, List.getElem?_append_left (by rw [B8_length]; omega), h, List.getElem?_drop]

theorem readok_spec (F : Hp) (ar me lv mb rw ev ep : Int) (f : Nat → Int) (h : SpOk ar me lv mb rw ev ep f) :
    Ctr Try.prog 84 [S (text (flds ar me lv mb rw ev ep f))] F (fun v L' => v = .tuple #[.agg ⟨spc ar me lv mb rw ev ep f 0⟩, int 0] ∧ L' = F) := by
  have hl := text_len ar me lv mb rw ev ep f
  have hm := text_magic ar me lv mb rw ev ep f
  have hs := text_sum ar me lv mb rw ev ep f
  have hf := fun i hi => text_fld h i hi
  have hfill : fillc (flds ar me lv mb rw ev ep f) 12 = spc ar me lv mb rw ev ep f 0 := rfl
  have hbytes := fun F => bytes_spec (X := X) F ar me lv mb rw ev ep f h
  generalize flds ar me lv mb rw ev ep f = fs at *
  generalize text fs = l at *
  refine spec_body Try.func84 Try.ntmps84 rfl rfl ?_
  refine wc_seq ?_
  refine wc_region ?_
  refine wl_do (d_alloc (z := .agg #[int 0, int 0, int 0, int 0, int 0, int 0, int 0, int 0, int 0, int 0, int 0, int 0]) (zeroB_of (by kernel_rfl))) rfl ?_
  rintro _ _ ⟨b2, rfl, rfl⟩
  refine wl_pu (y_assign rfl) rfl ?_
  refine wl_nil ?_
  refine at_then ?_
  refine wc_seq ?_
  refine wc_seq ?_
  refine wc_region ?_
  refine wl_pu (y_move rfl) rfl ?_
  refine wl_pu (y_lenS Try.underlying9 rfl) rfl ?_
  refine wl_pu (y_neq rfl rfl) rfl ?_
  refine wl_pu (y_move rfl) rfl ?_
  -- at: guard 3
  refine wl_heap ((b2, row 80 sp0) :: F) rfl ?_
  -- at: guard 3
  refine wl_splitD 13 rfl (fun hc => absurd hc ((by omega))) (fun _ => ?_)
  refine wl_gon rfl rfl ?_
  refine wl_pu (y_move rfl) rfl ?_
  refine wl_gon rfl rfl ?_
  refine wl_pu (y_toS Try.underlying9 rfl rfl (by omega)) rfl ?_
  refine wl_gon rfl rfl ?_
  refine wl_pu (y_neS (l := l.take 4) (r := magic) rfl rfl) rfl ?_
  first | refine wl_pu (y_pickT rfl rfl) rfl ?_ | refine wl_pu (y_pickF rfl rfl) rfl ?_
  refine wl_nil ?_
  refine at_then ?_
  -- at: cond
  refine wc_condD rfl (fun hc => absurd hc ((fun hc => hc hm))) (fun _ => ?_)
  refine wc_skip ?_
  refine at_then ?_
  refine wc_seq ?_
  refine wc_region ?_
  refine wl_pu (y_move rfl) rfl ?_
  -- at: op (convert 9 24 t19)
  refine wl_do (d_bytes Try.underlying9 Try.underlying24 Try.underlying5 rfl) rfl ?_
  rintro _ _ ⟨b3, cap, sp, rfl, hsp, rfl⟩
  refine wl_pu (y_assign rfl) rfl ?_
  refine wl_nil ?_
  refine at_then ?_
  refine wc_seq ?_
  refine wc_seq ?_
  -- at: draw
  apply wc_draw 7 (pl := [_, _, _, _, _, _, _]) (by kernel_rfl)
  rotate_left
  refine hw_pu (y_move rfl) ?_
  refine hw_pu (y_fromL 1 Try.underlying24 (by kernel_rfl) rfl rfl (by omega)) ?_
  -- at: hw op (call {callee:(value (func 125)), args:[t22], argTypes:[24]})
  refine hw_call (by kernel_rfl) rfl ((fun F' => get_spec _ _ _ _ _ _ _ _ (l.drop 60) (get_at l sp hl ((if_neg (by omega)).trans (by rfl))) (by omega))) ?_
  refine hw_pu (y_move rfl) ?_
  refine hw_pu (v := S (l.take 60)) (y_toS (j := 60) Try.underlying9 rfl rfl (by omega)) ?_
  refine hw_call (by kernel_rfl) rfl ((fun F' => sum_spec _ _ (by rw [List.length_take]; omega))) ?_
  refine hw_pu (y_neq rfl rfl) ?_
  refine hw_end [] rfl ?_
  case hB => kernel_rfl
  refine wl_nil ?_
  refine at_nq ?_
  refine at_then ?_
  -- at: cond
  refine wc_condD rfl (fun hc => absurd hc ((by intro hc; exact hc (by rw [hs])))) (fun _ => ?_)
  refine wc_skip ?_
  refine at_then ?_
  refine wc_seq ?_
  refine wc_region ?_
  refine wl_do (d_alloc (z := .agg #[int 0, int 0, int 0, int 0, int 0, int 0, int 0, int 0, int 0, int 0, int 0, int 0]) (zeroB_of (by kernel_rfl))) rfl ?_
  rintro _ _ ⟨b5, rfl, rfl⟩
  refine wl_nil ?_
  refine at_then ?_
  refine wc_seq ?_
  refine wc_seq ?_
  refine wc_region ?_
  -- at: op (call {callee:(value (func 81)), args:[t5], argTypes:[80]})
  refine wl_do (d_call (by kernel_rfl) rfl (fields_spec _ b5)) rfl ?_
  rintro _ _ ⟨frp, hP, rfl⟩
  cases hP with
  | own bp _ cp _ spp hxp hcp hsp2 =>
  refine wl_pu (y_lenL Try.underlying170 rfl) rfl ?_
  refine wl_pu (y_move rfl) rfl ?_
  refine wl_nil ?_
  refine at_then ?_
  refine wc_block ?_
  -- at: loop
  refine wc_loop (σ := Nat) (fun i => i ≤ 12) (fun i => 12 - i) (fun i => [(0, S l), (2, ptr b2 0), (4, sl b3 0 l.length cap), (5, ptr b5 0), (29, sl bp 0 12 cp), (30, int 12), (31, int (i : Int))])
    (fun i => (bp, row 172 (fptrs b5 ++ spp)) :: (b5, row 80 (fillc fs i)) :: (b3, .cells ⟨B8 l ++ sp⟩ 5 (cap, cap + 1)) :: (b2, row 80 sp0) :: F) 0 (by omega) ⟨rfl, rfl, rfl, rfl, rfl, rfl, rfl, trivial⟩ rfl ?_
  intro i hi
  refine wc_seq ?_
  refine wc_region ?_
  refine wl_pu (y_lss rfl rfl) rfl ?_
  refine wl_nil ?_
  refine at_then ?_
  refine wc_seq ?_
  -- at: cond
  refine wc_condD rfl (fun hi12 => ?_) (fun hi12 => ?_)
  · skip
    obtain ⟨x, x1, x2, x3⟩ := hf i (by omega)
    obtain ⟨q1, q2⟩ := fptrs_at b5 spp i (by omega)
    have hfl := fillc_len fs i
    refine wc_skip ?_
    refine at_then ?_
    refine wc_seq ?_
    refine wc_block ?_
    refine wc_seq ?_
    refine wc_region ?_
    refine wl_pu (y_move rfl) rfl ?_
    refine wl_pu (y_ix1 Try.underlying170 (by kernel_rfl) rfl rfl (by omega)) rfl ?_
    refine wl_rd (y_load 0 rfl rfl (v := ptr b5 (offs i)) (by rw [Int.toNat_natCast]; exact q1) (by kernel_rfl)) rfl ?_
    refine wl_pu (y_assign rfl) rfl ?_
    refine wl_pu (y_assign rfl) rfl ?_
    refine wl_nil ?_
    refine at_then ?_
    refine wc_region ?_
    refine wl_pu (y_move rfl) rfl ?_
    refine wl_pu (y_move rfl) rfl ?_
    refine wl_pu (y_move rfl) rfl ?_
    refine wl_pu (y_mul rfl rfl (by omega)) rfl ?_
    refine wl_pu (y_add rfl rfl (by omega)) rfl ?_
    refine wl_pu (y_fromL 1 Try.underlying24 (by kernel_rfl) rfl rfl (by omega)) rfl ?_
    -- at: op (call {callee:(value (func 125)), args:[t41], argTypes:[24]})
    refine wl_perm p2 ?_
    refine wl_do (d_call (by kernel_rfl) rfl (get_spec _ _ _ _ _ _ _ _ (l.drop (4 + 4 * i)) (get_at2 l sp ((if_neg (by omega)).trans (by omega)) (by omega)) (by omega))) rfl ?_
    rintro _ _ ⟨rfl, rfl⟩
    refine wl_perm p2.symm ?_
    rw [x3]
    refine wl_pu (y_conv (r := x) Try.underlying23 Try.underlying3 rfl (by rw [show ((x.toNat : Nat) : Int) = x by omega]; exact IntWalk.i64_in _ (by omega))) rfl ?_
    refine wl_pu (y_nil rfl) rfl ?_
    refine wl_do0 (d_store 1 rfl rfl rfl (by rw [hfl]; exact blt_of' q2) rfl (by kernel_rfl)) (fun _ _ hL => ?_)
    subst hL
    refine wl_nil ?_
    refine at_block_normal ?_
    refine at_then ?_
    refine wc_region ?_
    refine wl_pu (y_add rfl rfl (by omega)) rfl ?_
    refine wl_pu (y_move rfl) rfl ?_
    refine wl_nil ?_
    -- at: round
    exact at_again (i + 1) (by omega) (by omega) ⟨rfl, rfl, rfl, rfl, rfl, rfl, rfl, trivial⟩ (by simp only [fillc, x1, Option.getD_some]; rfl)
  · skip
    have hi12' : i = 12 := by omega
    subst hi12'
    rw [hfill]
    refine wc_exit ?_
    refine at_then_exit ?_
    refine at_then_exit ?_
    refine at_block_same ?_
    refine at_then ?_
    refine wc_seq ?_
    refine wc_seq ?_
    refine wc_region ?_
    refine wl_rd (y_loadAgg (k := 12) (vs := spc ar me lv mb rw ev ep f 0) 1 rfl rfl rfl rfl (by kernel_rfl) (by kernel_rfl)) rfl ?_
    refine wl_do (d_call (by kernel_rfl) rfl (hbytes _)) rfl ?_
    rintro _ _ ⟨rfl, rfl⟩
    refine wl_pu (y_move rfl) rfl ?_
    refine wl_pu (y_extract rfl rfl) rfl ?_
    refine wl_pu (y_extract rfl rfl) rfl ?_
    refine wl_pu (y_assign rfl) rfl ?_
    refine wl_pu (y_assign rfl) rfl ?_
    refine wl_nil ?_
    refine at_then ?_
    refine wc_seq ?_
    refine wc_region ?_
    refine wl_pu (y_move rfl) rfl ?_
    refine wl_pu (y_neq rfl rfl) rfl ?_
    refine wl_pu (y_move rfl) rfl ?_
    -- at: guard 2
    refine wl_splitD 53 rfl (fun hc => absurd hc ((by omega))) (fun _ => ?_)
    refine wl_gon rfl rfl ?_
    refine wl_pu (y_move rfl) rfl ?_
    refine wl_gon rfl rfl ?_
    refine wl_pu (y_move rfl) rfl ?_
    refine wl_gon rfl rfl ?_
    refine wl_pu (y_neS rfl rfl) rfl ?_
    first | refine wl_pu (y_pickT rfl rfl) rfl ?_ | refine wl_pu (y_pickF rfl rfl) rfl ?_
    refine wl_nil ?_
    refine at_then ?_
    -- at: cond
    refine wc_condD rfl (fun hc => absurd hc ((fun hc => hc rfl))) (fun _ => ?_)
    refine wc_skip ?_
    refine at_then ?_
    refine wc_seq ?_
    refine wc_region ?_
    refine wl_rd (y_loadAgg (k := 12) (vs := spc ar me lv mb rw ev ep f 0) 1 rfl rfl rfl rfl (by kernel_rfl) (by kernel_rfl)) rfl ?_
    refine wl_do0 (d_storeAgg (k := 12) 3 rfl rfl rfl (by decide) rfl rfl (by kernel_rfl)) (fun _ _ hL => ?_)
    subst hL
    refine wl_pu (y_assign rfl) rfl ?_
    refine wl_nil ?_
    refine at_then ?_
    refine wc_ret ?_
    -- at: ret
    refine at_drop (at_drop (at_drop ?_))
    refine at_heap ((b2, row 80 (spc ar me lv mb rw ev ep f 0)) :: F) rfl ?_
    refine at_retC1 (k := 12) (vs := spc ar me lv mb rw ev ep f 0) 0 rfl rfl rfl rfl rfl rfl (by kernel_rfl) (by kernel_rfl) (fun _ hO => hO.drop) ?_
    exact ⟨rfl, rfl⟩
end Go.Proofs.Ytkpndnjhfocheaa
