/- The superblock's fields, and its bytes. -/
import Derived.Test.YtkpndnjhfocheaaSupersB
import Derived.Test.YtkpndnjhfocheaaSLj
namespace Go.Proofs.Ytkpndnjhfocheaa
open Go.SL
variable {X : Inhabited SL.Outside}

def fptrs (b : Nat) : List Value := [ptr b 0, ptr b 1, ptr b 2, ptr b 3, ptr b 4, ptr b 5, ptr b 6, ptr b 11, ptr b 7, ptr b 8, ptr b 9, ptr b 10]
theorem fptrs_step (b i : Nat) (h : i < 4) : (fptrs b).take (8 + i) ++ [ptr b (7 + (i : Int).toNat * 1)] = (fptrs b).take (8 + (i + 1)) := by
  rcases i with _|_|_|_|i <;> first | rfl | omega
theorem fields_spec (F : Hp) (b : Nat) : Ctr Try.prog 81 [ptr b 0] F (fun v L' => ∃ fr, SlF 172 1 v 12 (fptrs b) fr ∧ L' = fr ++ F) := by
  refine spec_body Try.func81 Try.ntmps81 rfl rfl ?_
  refine wc_seq ?_
  refine wc_region ?_
  refine wl_pu (y_assign rfl) rfl ?_
  refine wl_nil ?_
  refine at_then ?_
  refine wc_seq ?_
  -- at: draw
  apply wc_draw 27 (pl := [_, _, _, _, _, _, _, _, _, _, _, _, _, _, _, _, _, _, _, _, _, _, _, _, _, _, _]) (by kernel_rfl)
  rotate_left
  refine hw_pu (y_move rfl) ?_
  refine hw_pu (y_nil rfl) ?_
  first | refine hw_pu (y_fieldAddr0 0 Try.underlying80 rfl rfl (by kernel_rfl) rfl) ?_ | refine hw_pu (y_fieldAddr 0 Try.underlying80 rfl rfl (by kernel_rfl) rfl) ?_
  refine hw_pu (y_move rfl) ?_
  refine hw_pu (y_nil rfl) ?_
  first | refine hw_pu (y_fieldAddr0 1 Try.underlying80 rfl rfl (by kernel_rfl) rfl) ?_ | refine hw_pu (y_fieldAddr 1 Try.underlying80 rfl rfl (by kernel_rfl) rfl) ?_
  refine hw_pu (y_move rfl) ?_
  refine hw_pu (y_nil rfl) ?_
  first | refine hw_pu (y_fieldAddr0 2 Try.underlying80 rfl rfl (by kernel_rfl) rfl) ?_ | refine hw_pu (y_fieldAddr 2 Try.underlying80 rfl rfl (by kernel_rfl) rfl) ?_
  first | refine hw_pu (y_fieldAddr0 0 Try.underlying72 rfl rfl (by kernel_rfl) rfl) ?_ | refine hw_pu (y_fieldAddr 0 Try.underlying72 rfl rfl (by kernel_rfl) rfl) ?_
  refine hw_pu (y_move rfl) ?_
  refine hw_pu (y_nil rfl) ?_
  first | refine hw_pu (y_fieldAddr0 2 Try.underlying80 rfl rfl (by kernel_rfl) rfl) ?_ | refine hw_pu (y_fieldAddr 2 Try.underlying80 rfl rfl (by kernel_rfl) rfl) ?_
  first | refine hw_pu (y_fieldAddr0 1 Try.underlying72 rfl rfl (by kernel_rfl) rfl) ?_ | refine hw_pu (y_fieldAddr 1 Try.underlying72 rfl rfl (by kernel_rfl) rfl) ?_
  refine hw_pu (y_move rfl) ?_
  refine hw_pu (y_nil rfl) ?_
  first | refine hw_pu (y_fieldAddr0 2 Try.underlying80 rfl rfl (by kernel_rfl) rfl) ?_ | refine hw_pu (y_fieldAddr 2 Try.underlying80 rfl rfl (by kernel_rfl) rfl) ?_
  first | refine hw_pu (y_fieldAddr0 2 Try.underlying72 rfl rfl (by kernel_rfl) rfl) ?_ | refine hw_pu (y_fieldAddr 2 Try.underlying72 rfl rfl (by kernel_rfl) rfl) ?_
  refine hw_pu (y_move rfl) ?_
  refine hw_pu (y_nil rfl) ?_
  first | refine hw_pu (y_fieldAddr0 5 Try.underlying80 rfl rfl (by kernel_rfl) rfl) ?_ | refine hw_pu (y_fieldAddr 5 Try.underlying80 rfl rfl (by kernel_rfl) rfl) ?_
  refine hw_pu (y_move rfl) ?_
  refine hw_pu (y_nil rfl) ?_
  first | refine hw_pu (y_fieldAddr0 6 Try.underlying80 rfl rfl (by kernel_rfl) rfl) ?_ | refine hw_pu (y_fieldAddr 6 Try.underlying80 rfl rfl (by kernel_rfl) rfl) ?_
  refine hw_pu (y_move rfl) ?_
  refine hw_pu (y_nil rfl) ?_
  first | refine hw_pu (y_fieldAddr0 11 Try.underlying80 rfl rfl (by kernel_rfl) rfl) ?_ | refine hw_pu (y_fieldAddr 11 Try.underlying80 rfl rfl (by kernel_rfl) rfl) ?_
  refine hw_end2 rfl ?_
  case hB => kernel_rfl
  -- at: op (buildSlice 170 8 [(0, t7), (1, t10), (2, t14), (3, t18), (4, t22), (5, t25), (6, t28), (7, t31)])
  refine wl_do (d_buildSlice ((fptrs b).take 8) Try.underlying170 rfl (by kernel_rfl)) rfl ?_
  rintro _ _ ⟨b8, rfl, rfl⟩
  refine wl_pu (y_assign rfl) rfl ?_
  refine wl_nil ?_
  refine at_nq ?_
  refine at_then ?_
  refine wc_seq ?_
  refine wc_seq ?_
  refine wc_region ?_
  refine wl_pu (y_move rfl) rfl ?_
  refine wl_nil ?_
  refine at_then ?_
  refine wc_block ?_
  -- at: loop
  refine wc_loop (σ := Nat × Value × Hp) (fun s => s.1 ≤ 4 ∧ SlF 172 1 s.2.1 (8 + s.1) ((fptrs b).take (8 + s.1)) s.2.2) (fun s => 4 - s.1) (fun s => [(0, ptr b 0), (3, s.2.1), (33, int (s.1 : Int))]) (fun s => s.2.2 ++ F)
    (0, sl b8 0 8 8, [(b8, row 172 ((fptrs b).take 8))]) ⟨by simp, ?_⟩ ⟨rfl, rfl, rfl, trivial⟩ rfl ?_
  · have := SlF.own (T := 172) (sz := 1) b8 8 8 ((fptrs b).take 8) [] rfl (Nat.le_refl _) rfl
    simpa using this
  rintro ⟨i, v, fr⟩ ⟨hi, hS⟩
  dsimp only at hi hS
  show WC _ _ _ _ [(0, ptr b 0), (3, v), (33, int (i : Int))] (fr ++ F)
  refine wc_seq ?_
  refine wc_region ?_
  refine wl_pu (y_lss rfl rfl) rfl ?_
  refine wl_nil ?_
  refine at_then ?_
  refine wc_seq ?_
  -- at: cond
  refine wc_condD rfl (fun hi4 => ?_) (fun hi4 => ?_)
  · skip
    refine wc_skip ?_
    refine at_then ?_
    refine wc_seq ?_
    refine wc_block ?_
    refine wc_seq ?_
    refine wc_region ?_
    refine wl_pu (y_move rfl) rfl ?_
    refine wl_pu (y_assign rfl) rfl ?_
    refine wl_nil ?_
    refine at_then ?_
    refine wc_region ?_
    refine wl_pu (y_move rfl) rfl ?_
    refine wl_pu (y_move rfl) rfl ?_
    refine wl_pu (y_move rfl) rfl ?_
    refine wl_pu (y_nil rfl) rfl ?_
    first | refine wl_pu (y_fieldAddr0 7 Try.underlying80 rfl rfl (by kernel_rfl) rfl) rfl ?_ | refine wl_pu (y_fieldAddr 7 Try.underlying80 rfl rfl (by kernel_rfl) rfl) rfl ?_
    refine wl_pu (y_ixA 1 Try.underlying78 (by kernel_rfl) rfl rfl (by omega)) rfl ?_
    refine wl_do (d_buildSlice [ptr b (7 + (i : Int).toNat * 1)] Try.underlying170 rfl (by kernel_rfl)) rfl ?_
    rintro _ _ ⟨b9, rfl, rfl⟩
    refine wl_perm (List.perm_middle (l₁ := fr) (l₂ := F)).symm ?_
    refine wl_do (d_append (sz := 1) (bytes := 8) 0 (.pointer none) Try.underlying170 (by kernel_rfl) rfl rfl rfl hS rfl rfl (news := [ptr b (7 + (i : Int).toNat * 1)]) rfl rfl rfl (by omega) (by omega)) rfl ?_
    rintro v1 _ ⟨fr1, hS1, rfl⟩
    refine wl_perm List.perm_middle (wl_drop ?_)
    rw [fptrs_step b i (by omega)] at hS1
    refine wl_pu (y_assign rfl) rfl ?_
    refine wl_nil ?_
    refine at_block_normal ?_
    refine at_then ?_
    refine wc_region ?_
    refine wl_pu (y_add rfl rfl (by omega)) rfl ?_
    refine wl_pu (y_move rfl) rfl ?_
    refine wl_nil ?_
    -- at: round
    exact at_again (i + 1, v1, fr1) ⟨by dsimp only; omega, hS1⟩ (by dsimp only; omega) ⟨rfl, rfl, rfl, trivial⟩ rfl
  · skip
    have hi4' : i = 4 := by omega
    subst hi4'
    refine wc_exit ?_
    refine at_then_exit ?_
    refine at_then_exit ?_
    refine at_block_same ?_
    refine at_then ?_
    refine wc_seq ?_
    refine wc_region ?_
    refine wl_pu (y_move rfl) rfl ?_
    refine wl_pu (y_assign rfl) rfl ?_
    refine wl_nil ?_
    refine at_then ?_
    refine wc_ret ?_
    -- at: ret
    refine at_ret1 rfl rfl ?_
    exact ⟨fr, hS, rfl⟩

/-- The number that four bytes begin with. -/
def get4 (l : List UInt8) : Nat := (l[0]?.getD 0).toNat ||| (l[1]?.getD 0).toNat <<< 8 ||| (l[2]?.getD 0).toNat <<< 16 ||| (l[3]?.getD 0).toNat <<< 24
theorem u8_nth (l : List UInt8) (i : Nat) (h : i < l.length) : nth (B8 l) i = some (.int .u8 (((l[i]?.getD 0).toNat : Nat) : Int)) := by
  rw [nth_eq, B8, List.getElem?_map, List.getElem?_eq_getElem h]; rfl
theorem get_spec (F : Hp) (b off len cap : Nat) (T : TypeId) (fz : Nat × Nat) (cs : List Value) (l : List UInt8) (hc : ∀ i, i < 4 → nth cs (off + i * 1) = some (.int .u8 (((l[i]?.getD 0).toNat : Nat) : Int))) (h4 : 4 ≤ len) :
    Ctr Try.prog 125 [sl b off len cap] ((b, .cells ⟨cs⟩ T fz) :: F) (fun v L' => v = .int .u32 ((get4 l : Nat) : Int) ∧ L' = (b, .cells ⟨cs⟩ T fz) :: F) := by
  have k0 := UInt8.toNat_lt (l[0]?.getD 0)
  have k1 := UInt8.toNat_lt (l[1]?.getD 0)
  have k2 := UInt8.toNat_lt (l[2]?.getD 0)
  have k3 := UInt8.toNat_lt (l[3]?.getD 0)
  have c0 := hc 0 (by omega)
  have c1 := hc 1 (by omega)
  have c2 := hc 2 (by omega)
  have c3 := hc 3 (by omega)
  rw [get4]
  generalize (l[0]?.getD 0).toNat = x0 at *
  generalize (l[1]?.getD 0).toNat = x1 at *
  generalize (l[2]?.getD 0).toNat = x2 at *
  generalize (l[3]?.getD 0).toNat = x3 at *
  have s1 : x1 <<< 8 < 4294967296 := by rw [Nat.shiftLeft_eq]; omega
  have s2 : x2 <<< 16 < 4294967296 := by rw [Nat.shiftLeft_eq]; omega
  have s3 : x3 <<< 24 < 4294967296 := by rw [Nat.shiftLeft_eq]; omega
  have o1 : x0 ||| x1 <<< 8 < 4294967296 := Nat.or_lt_two_pow (n := 32) (by omega) s1
  have o2 : x0 ||| x1 <<< 8 ||| x2 <<< 16 < 4294967296 := Nat.or_lt_two_pow (n := 32) o1 s2
  refine spec_body Try.func125 Try.ntmps125 rfl rfl ?_
  refine wc_seq ?_
  refine wc_region ?_
  refine wl_pu (y_assign rfl) rfl ?_
  refine wl_nil ?_
  refine at_then ?_
  refine wc_seq ?_
  -- at: draw
  apply wc_draw 23 (pl := [_, _, _, _, _, _, _, _, _, _, _, _, _, _, _, _, _, _, _, _, _, _, _]) (by kernel_rfl)
  rotate_left
  refine hw_pu (y_move rfl) ?_
  refine hw_pu (y_ix 1 Try.underlying24 (by kernel_rfl) rfl rfl (by omega)) ?_
  refine hw_rd (y_load 0 rfl rfl c0 (by kernel_rfl)) ?_
  refine hw_pu (y_conv Try.underlying5 Try.underlying23 rfl (IntWalk.u32_in _ (by omega))) ?_
  refine hw_pu (y_move rfl) ?_
  refine hw_pu (y_ix 1 Try.underlying24 (by kernel_rfl) rfl rfl (by omega)) ?_
  refine hw_rd (y_load 0 rfl rfl c1 (by kernel_rfl)) ?_
  refine hw_pu (y_conv Try.underlying5 Try.underlying23 rfl (IntWalk.u32_in _ (by omega))) ?_
  refine hw_pu (y_shl x1 8 rfl rfl (by decide) (lt32 s1)) ?_
  refine hw_pu (y_or x0 (x1 <<< 8) rfl rfl (lt32 (by omega)) (lt32 s1)) ?_
  refine hw_pu (y_move rfl) ?_
  refine hw_pu (y_ix 1 Try.underlying24 (by kernel_rfl) rfl rfl (by omega)) ?_
  refine hw_rd (y_load 0 rfl rfl c2 (by kernel_rfl)) ?_
  refine hw_pu (y_conv Try.underlying5 Try.underlying23 rfl (IntWalk.u32_in _ (by omega))) ?_
  refine hw_pu (y_shl x2 16 rfl rfl (by decide) (lt32 s2)) ?_
  refine hw_pu (y_or (x0 ||| x1 <<< 8) (x2 <<< 16) rfl rfl (lt32 o1) (lt32 s2)) ?_
  refine hw_pu (y_move rfl) ?_
  refine hw_pu (y_ix 1 Try.underlying24 (by kernel_rfl) rfl rfl (by omega)) ?_
  refine hw_rd (y_load 0 rfl rfl c3 (by kernel_rfl)) ?_
  refine hw_pu (y_conv Try.underlying5 Try.underlying23 rfl (IntWalk.u32_in _ (by omega))) ?_
  refine hw_pu (y_shl x3 24 rfl rfl (by decide) (lt32 s3)) ?_
  refine hw_pu (y_or (x0 ||| x1 <<< 8 ||| x2 <<< 16) (x3 <<< 24) rfl rfl (lt32 o2) (lt32 s3)) ?_
  refine hw_pu (y_assign rfl) ?_
  refine hw_end [] rfl ?_
  case hB => kernel_rfl
  refine wl_nil ?_
  refine at_nq ?_
  refine at_then ?_
  refine wc_ret ?_
  -- at: ret
  refine at_ret1 rfl rfl ?_
  exact ⟨rfl, rfl⟩
end Go.Proofs.Ytkpndnjhfocheaa
