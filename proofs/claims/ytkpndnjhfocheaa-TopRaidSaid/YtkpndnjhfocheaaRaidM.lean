/- slices.Repeat of one sector; the shapes of raids. -/
import Derived.Test.YtkpndnjhfocheaaRaidL
namespace Go.Proofs.Ytkpndnjhfocheaa
open Go.SL
variable {X : Inhabited SL.Outside}

def rshLv (n : Int) : Int := if 2 + n % 3 = 2 then 1 else 5
theorem rshape_ok (n : Int) : GOk (rshLv n) (2 + n % 3) (2 + (n / 3 % 8) * 2) := by
  refine ⟨?_, by omega, by omega, by omega⟩
  unfold rshLv
  split <;> omega
theorem rshape_spec (F : Hp) (n : Int) (h : 0 ≤ n ∧ n < 256) : Ctr Try.prog 33 [.int .u8 n] F (fun v L' => v = .agg ⟨geo (rshLv n) (2 + n % 3) (2 + (n / 3 % 8) * 2)⟩ ∧ L' = F) := by
  refine spec_body Try.func33 Try.ntmps33 rfl rfl ?_
  refine wc_seq ?_
  refine wc_region ?_
  refine wl_do (d_alloc (z := .agg #[int 0, int 0, int 0]) (zeroB_of (by kernel_rfl))) rfl ?_
  rintro _ _ ⟨b2, rfl, rfl⟩
  refine wl_nil ?_
  refine at_then ?_
  refine wc_seq ?_
  refine wc_region ?_
  refine wl_pu (y_move rfl) rfl ?_
  refine wl_pu (y_rem rfl rfl (by omega)) rfl ?_
  first | refine wl_pu (y_conv Try.underlying5 Try.underlying3 rfl (IntWalk.i64_in _ (by omega))) rfl ?_ | refine wl_pu (y_conv Try.underlying5 Try.underlying3 rfl rfl) rfl ?_
  refine wl_pu (y_add rfl rfl (by omega)) rfl ?_
  refine wl_pu (y_move rfl) rfl ?_
  refine wl_pu (y_quoU rfl rfl (by omega) (IntWalk.u8_in _ (by omega))) rfl ?_
  refine wl_pu (y_rem rfl rfl (by omega)) rfl ?_
  first | refine wl_pu (y_conv Try.underlying5 Try.underlying3 rfl (IntWalk.i64_in _ (by omega))) rfl ?_ | refine wl_pu (y_conv Try.underlying5 Try.underlying3 rfl rfl) rfl ?_
  refine wl_pu (y_mul rfl rfl (by omega)) rfl ?_
  refine wl_pu (y_add rfl rfl (by omega)) rfl ?_
  refine wl_pu (y_build [int 5, int (2 + n % 3), int (2 + (n / 3 % 8) * 2)] rfl (by kernel_rfl)) rfl ?_
  refine wl_do (d_alloc (z := .agg #[int 0, int 0, int 0]) (zeroB_of (by kernel_rfl))) rfl ?_
  rintro _ _ ⟨b3, rfl, rfl⟩
  refine wl_do0 (d_storeAgg (k := 3) 0 rfl rfl rfl (by decide) rfl rfl (by kernel_rfl)) (fun _ _ hL => ?_)
  subst hL
  refine wl_heap ((b3, row 72 (geo 5 (2 + n % 3) (2 + (n / 3 % 8) * 2))) :: (b2, row 72 (geo 0 0 0)) :: F) rfl ?_
  refine wl_nil ?_
  refine at_then ?_
  refine wc_seq ?_
  refine wc_seq ?_
  refine wc_region ?_
  first | refine wl_pu (y_fieldAddr0 1 Try.underlying72 rfl rfl (by kernel_rfl) rfl) rfl ?_ | refine wl_pu (y_fieldAddr 1 Try.underlying72 rfl rfl (by kernel_rfl) rfl) rfl ?_
  first | refine wl_rd (y_load 0 rfl rfl rfl (by kernel_rfl)) rfl ?_ | refine wl_rd (y_load 1 rfl rfl rfl (by kernel_rfl)) rfl ?_ | refine wl_rd (y_load 2 rfl rfl rfl (by kernel_rfl)) rfl ?_ | refine wl_rd (y_load 3 rfl rfl rfl (by kernel_rfl)) rfl ?_ | refine wl_rd (y_load 4 rfl rfl rfl (by kernel_rfl)) rfl ?_ | refine wl_rd (y_load 5 rfl rfl rfl (by kernel_rfl)) rfl ?_
  refine wl_pu (y_eql rfl rfl) rfl ?_
  refine wl_nil ?_
  refine at_then ?_
  -- at: cond
  refine wc_condD rfl (fun hm => ?_) (fun hm => ?_)
  · skip
    refine wc_region ?_
    first | refine wl_pu (y_fieldAddr0 0 Try.underlying72 rfl rfl (by kernel_rfl) rfl) rfl ?_ | refine wl_pu (y_fieldAddr 0 Try.underlying72 rfl rfl (by kernel_rfl) rfl) rfl ?_
    refine wl_do0 (d_store 0 rfl rfl rfl rfl rfl (by kernel_rfl)) (fun _ _ hL => ?_)
    subst hL
    refine wl_heap ((b3, row 72 (geo 1 (2 + n % 3) (2 + (n / 3 % 8) * 2))) :: (b2, row 72 (geo 0 0 0)) :: F) rfl ?_
    refine wl_nil ?_
    refine at_then ?_
    refine wc_seq ?_
    refine wc_region ?_
    refine wl_rd (y_loadAgg (k := 3) (vs := geo 1 (2 + n % 3) (2 + (n / 3 % 8) * 2)) 0 rfl rfl rfl rfl (by kernel_rfl) (by kernel_rfl)) rfl ?_
    refine wl_do0 (d_storeAgg (k := 3) 1 rfl rfl rfl (by decide) rfl rfl (by kernel_rfl)) (fun _ _ hL => ?_)
    subst hL
    refine wl_nil ?_
    refine at_then ?_
    refine wc_ret ?_
    -- at: ret
    refine at_heap ((b3, row 72 (geo 1 (2 + n % 3) (2 + (n / 3 % 8) * 2))) :: (b2, row 72 (geo 1 (2 + n % 3) (2 + (n / 3 % 8) * 2))) :: F) rfl ?_
    refine at_retC0 (k := 3) (vs := geo 1 (2 + n % 3) (2 + (n / 3 % 8) * 2)) 1 rfl rfl rfl rfl rfl (by kernel_rfl) (by kernel_rfl) (fun _ hO => hO.drop.drop) ?_
    exact ⟨by rw [rshLv, if_pos hm], rfl⟩
  · skip
    refine wc_skip ?_
    refine at_then ?_
    refine wc_seq ?_
    refine wc_region ?_
    refine wl_rd (y_loadAgg (k := 3) (vs := geo 5 (2 + n % 3) (2 + (n / 3 % 8) * 2)) 0 rfl rfl rfl rfl (by kernel_rfl) (by kernel_rfl)) rfl ?_
    refine wl_do0 (d_storeAgg (k := 3) 1 rfl rfl rfl (by decide) rfl rfl (by kernel_rfl)) (fun _ _ hL => ?_)
    subst hL
    refine wl_nil ?_
    refine at_then ?_
    refine wc_ret ?_
    -- at: ret
    refine at_heap ((b3, row 72 (geo 5 (2 + n % 3) (2 + (n / 3 % 8) * 2))) :: (b2, row 72 (geo 5 (2 + n % 3) (2 + (n / 3 % 8) * 2))) :: F) rfl ?_
    refine at_retC0 (k := 3) (vs := geo 5 (2 + n % 3) (2 + (n / 3 % 8) * 2)) 1 rfl rfl rfl rfl rfl (by kernel_rfl) (by kernel_rfl) (fun _ hO => hO.drop.drop) ?_
    exact ⟨by rw [rshLv, if_neg hm], rfl⟩

theorem y_andE {P : Program} {n : Nat} {E : Env} {ty T T' : TypeId} {x y : Operand} {k : IntKind} (a b r : Nat) (hx : ev E x = some (.int k (a : Int))) (hy : ev E y = some (.int k (b : Int))) (ha : a < 2 ^ top k) (hb : b < 2 ^ top k) (he : a &&& b = r) : Pu P n E (.binOp .and T x y T') ty (.int k (r : Int)) := he ▸ y_and a b hx hy ha hb
theorem y_shrE {P : Program} {n : Nat} {E : Env} {ty T T' : TypeId} {x y : Operand} {k k' : IntKind} (a s r : Nat) (hx : ev E x = some (.int k (a : Int))) (hy : ev E y = some (.int k' (s : Int))) (ha : a < 2 ^ k.bits) (he : a >>> s = r) : Pu P n E (.binOp .shr T x y T') ty (.int k (r : Int)) := he ▸ y_shr a s hx hy ha
theorem y_mulE {P : Program} {n : Nat} {E : Env} {ty T T' : TypeId} {x y : Operand} {i j r : Int} (hx : ev E x = some (.int .u64 i)) (hy : ev E y = some (.int .u64 j)) (h : 0 ≤ r ∧ r < 18446744073709551616) (he : i * j = r) : Pu P n E (.binOp .mul T x y T') ty (.int .u64 r) := by
  have := y_mulW (P := P) (n := n) (ty := ty) (T := T) (T' := T') hx hy
  rwa [he, IntWalk.u64_in _ (by omega)] at this
theorem y_addE {P : Program} {n : Nat} {E : Env} {ty T T' : TypeId} {x y : Operand} {i j r : Int} (hx : ev E x = some (.int .u64 i)) (hy : ev E y = some (.int .u64 j)) (h : 0 ≤ r ∧ r < 18446744073709551616) (he : i + j = r) : Pu P n E (.binOp .add T x y T') ty (.int .u64 r) := by
  have := y_addW (P := P) (n := n) (ty := ty) (T := T) (T' := T') hx hy
  rwa [he, IntWalk.u64_in _ (by omega)] at this
theorem low_and {c : Nat} (h : c < 4294967296) : c &&& 4294967295 = c := Nat.and_two_pow_sub_one_of_lt_two_pow (n := 32) h
theorem low_shr {c : Nat} (h : c < 4294967296) : c >>> 32 = 0 := by rw [Nat.shiftRight_eq_div_pow]; exact Nat.div_eq_of_lt h

theorem mul64_spec (F : Hp) (c : Nat) (h : c < 4294967296) : Ctr Try.prog 119 [.int .u64 ((1 : Nat) : Int), .int .u64 (c : Int)] F (fun v L' => v = .tuple #[.int .u64 0, .int .u64 (c : Int)] ∧ L' = F) := by
  refine spec_body Try.func119 Try.ntmps119 rfl rfl ?_
  refine wc_seq ?_
  refine wc_region ?_
  refine wl_pu (y_assign rfl) rfl ?_
  refine wl_pu (y_assign rfl) rfl ?_
  refine wl_nil ?_
  refine at_then ?_
  refine wc_seq ?_
  refine wc_region ?_
  refine wl_pu (y_move rfl) rfl ?_
  refine wl_pu (y_andE 1 4294967295 1 rfl rfl (by decide) (by decide) (by decide)) rfl ?_
  refine wl_pu (y_assign rfl) rfl ?_
  refine wl_nil ?_
  refine at_then ?_
  refine wc_seq ?_
  refine wc_region ?_
  refine wl_pu (y_move rfl) rfl ?_
  refine wl_pu (y_shrE 1 32 0 rfl rfl (by decide) (by decide)) rfl ?_
  refine wl_pu (y_assign rfl) rfl ?_
  refine wl_nil ?_
  refine at_then ?_
  refine wc_seq ?_
  refine wc_region ?_
  refine wl_pu (y_move rfl) rfl ?_
  refine wl_pu (y_andE c 4294967295 c rfl rfl (by show c < 18446744073709551616; omega) (by decide) (low_and h)) rfl ?_
  refine wl_pu (y_assign rfl) rfl ?_
  refine wl_nil ?_
  refine at_then ?_
  refine wc_seq ?_
  refine wc_region ?_
  refine wl_pu (y_move rfl) rfl ?_
  refine wl_pu (y_shrE c 32 0 rfl rfl (by show c < 18446744073709551616; omega) (low_shr h)) rfl ?_
  refine wl_pu (y_assign rfl) rfl ?_
  refine wl_nil ?_
  refine at_then ?_
  refine wc_seq ?_
  refine wc_region ?_
  refine wl_pu (y_move rfl) rfl ?_
  refine wl_pu (y_move rfl) rfl ?_
  refine wl_pu (y_mulE (r := (c : Int)) rfl rfl (by omega) (by show ((1 : Nat) : Int) * c = c; omega)) rfl ?_
  refine wl_pu (y_assign rfl) rfl ?_
  refine wl_nil ?_
  refine at_then ?_
  refine wc_seq ?_
  refine wc_region ?_
  refine wl_pu (y_move rfl) rfl ?_
  refine wl_pu (y_move rfl) rfl ?_
  refine wl_pu (y_mulE (r := ((0 : Nat) : Int)) rfl rfl (by omega) (by show ((0 : Nat) : Int) * c = 0; omega)) rfl ?_
  refine wl_pu (y_move rfl) rfl ?_
  refine wl_pu (y_shrE c 32 0 rfl rfl (by show c < 18446744073709551616; omega) (low_shr h)) rfl ?_
  refine wl_pu (y_addE (r := ((0 : Nat) : Int)) rfl rfl (by omega) rfl) rfl ?_
  refine wl_pu (y_assign rfl) rfl ?_
  refine wl_nil ?_
  refine at_then ?_
  refine wc_seq ?_
  refine wc_region ?_
  refine wl_pu (y_move rfl) rfl ?_
  refine wl_pu (y_andE 0 4294967295 0 rfl rfl (by decide) (by decide) (by decide)) rfl ?_
  refine wl_pu (y_assign rfl) rfl ?_
  refine wl_nil ?_
  refine at_then ?_
  refine wc_seq ?_
  refine wc_region ?_
  refine wl_pu (y_move rfl) rfl ?_
  refine wl_pu (y_shrE 0 32 0 rfl rfl (by decide) (by decide)) rfl ?_
  refine wl_pu (y_assign rfl) rfl ?_
  refine wl_nil ?_
  refine at_then ?_
  refine wc_seq ?_
  refine wc_region ?_
  refine wl_pu (y_move rfl) rfl ?_
  refine wl_pu (y_move rfl) rfl ?_
  refine wl_pu (y_move rfl) rfl ?_
  refine wl_pu (y_mulE (r := ((0 : Nat) : Int)) rfl rfl (by omega) rfl) rfl ?_
  refine wl_pu (y_addE (r := ((0 : Nat) : Int)) rfl rfl (by omega) rfl) rfl ?_
  refine wl_pu (y_assign rfl) rfl ?_
  refine wl_nil ?_
  refine at_then ?_
  refine wc_seq ?_
  refine wc_region ?_
  refine wl_pu (y_move rfl) rfl ?_
  refine wl_pu (y_move rfl) rfl ?_
  refine wl_pu (y_mulE (r := ((0 : Nat) : Int)) rfl rfl (by omega) rfl) rfl ?_
  refine wl_pu (y_move rfl) rfl ?_
  refine wl_pu (y_addE (r := ((0 : Nat) : Int)) rfl rfl (by omega) rfl) rfl ?_
  refine wl_pu (y_move rfl) rfl ?_
  refine wl_pu (y_shrE 0 32 0 rfl rfl (by decide) (by decide)) rfl ?_
  refine wl_pu (y_addE (r := 0) rfl rfl (by omega) rfl) rfl ?_
  refine wl_pu (y_assign rfl) rfl ?_
  refine wl_nil ?_
  refine at_then ?_
  refine wc_seq ?_
  refine wc_region ?_
  refine wl_pu (y_move rfl) rfl ?_
  refine wl_pu (y_move rfl) rfl ?_
  refine wl_pu (y_mulE (r := (c : Int)) rfl rfl (by omega) (by show ((1 : Nat) : Int) * c = c; omega)) rfl ?_
  refine wl_pu (y_assign rfl) rfl ?_
  refine wl_nil ?_
  refine at_then ?_
  refine wc_ret ?_
  -- at: ret
  refine at_ret2 rfl rfl rfl ?_
  exact ⟨rfl, rfl⟩
theorem mul_spec (F : Hp) (c : Nat) (h : c < 4294967296) : Ctr Try.prog 75 [.int .u64 ((1 : Nat) : Int), .int .u64 (c : Int)] F (fun v L' => v = .tuple #[.int .u64 0, .int .u64 (c : Int)] ∧ L' = F) := by
  refine spec_body Try.func75 Try.ntmps75 rfl rfl ?_
  refine wc_seq ?_
  refine wc_region ?_
  refine wl_pu (y_assign rfl) rfl ?_
  refine wl_pu (y_assign rfl) rfl ?_
  refine wl_nil ?_
  refine at_then ?_
  refine wc_seq ?_
  -- at: cond
  refine wc_condF rfl ?_
  refine wc_skip ?_
  refine at_then ?_
  refine wc_seq ?_
  refine wc_region ?_
  refine wl_pu (y_move rfl) rfl ?_
  refine wl_pu (y_move rfl) rfl ?_
  -- at: op (call {callee:(value (func 119)), args:[t23, t24], argTypes:[110, 110]})
  refine wl_do (d_call (by kernel_rfl) rfl (mul64_spec _ c h)) rfl ?_
  rintro _ _ ⟨rfl, rfl⟩
  refine wl_pu (y_move rfl) rfl ?_
  refine wl_pu (y_extract rfl rfl) rfl ?_
  refine wl_pu (y_extract rfl rfl) rfl ?_
  refine wl_pu (y_assign rfl) rfl ?_
  refine wl_pu (y_assign rfl) rfl ?_
  refine wl_nil ?_
  refine at_then ?_
  refine wc_seq ?_
  refine wc_region ?_
  refine wl_pu (y_move rfl) rfl ?_
  refine wl_pu (y_move rfl) rfl ?_
  refine wl_pu (y_assign rfl) rfl ?_
  refine wl_pu (y_assign rfl) rfl ?_
  refine wl_nil ?_
  refine at_then ?_
  refine wc_ret ?_
  -- at: ret
  refine at_ret2 rfl rfl rfl ?_
  exact ⟨rfl, rfl⟩

theorem y_rfrom {P : Program} {n : Nat} {E : Env} {ty T : TypeId} {x o : Operand} {e : TypeId} {b len cap i : Nat} (hu : P.underlying T = some (.slice e)) (hz : szB P e 1 = true) (hx : ev E x = some (sl b 0 len cap)) (ho : ev E o = some (int (i : Int))) (h : i ≤ len) (hc : i < cap) : Pu P n E (.slice T x (some o) none none) ty (sl b i (len - i) (cap - i)) := by
  have := y_fromL (P := P) (n := n) (ty := ty) 1 hu hz hx ho (by omega)
  rwa [Int.toNat_natCast, if_neg (by omega), Nat.zero_add, Nat.mul_one] at this
theorem rep_copy {s z : Value} {k c m : Nat} (h1 : m ≤ k) :
    (List.replicate k s ++ List.replicate (c - k) z).take k ++ ((List.replicate k s ++ List.replicate (c - k) z).drop 0).take m ++ (List.replicate k s ++ List.replicate (c - k) z).drop (k + m) = List.replicate (k + m) s ++ List.replicate (c - (k + m)) z := by
  rw [List.drop_zero, List.take_append_of_le_length (by simp), List.take_append_of_le_length (by simpa using h1), List.take_replicate, List.take_replicate, List.drop_append, List.length_replicate, List.drop_replicate, List.drop_replicate, Nat.min_self, Nat.min_eq_left h1, show k - (k + m) = 0 by omega, List.replicate_zero, List.nil_append, show k + m - k = m by omega, show c - k - m = c - (k + m) by omega, List.replicate_append_replicate]

theorem repeatS_spec (F : Hp) (b : Nat) (l : List UInt8) (c : Nat) (hc : 1 ≤ c ∧ c ≤ 1000) : Ctr Try.prog 86 [sl b 0 1 1, int (c : Int)] ((b, row 9 [S l]) :: F) (fun v L' => ∃ b2, v = sl b2 0 c c ∧ L' = (b2, row 9 (List.replicate c (S l))) :: F) := by
  refine spec_body Try.func86 Try.ntmps86 rfl rfl ?_
  refine wc_seq ?_
  refine wc_region ?_
  refine wl_pu (y_assign rfl) rfl ?_
  refine wl_nil ?_
  refine at_then ?_
  refine wc_seq ?_
  refine wc_seq ?_
  refine wc_region ?_
  refine wl_pu (y_move rfl) rfl ?_
  refine wl_pu (y_lss rfl rfl) rfl ?_
  refine wl_nil ?_
  refine at_then ?_
  -- at: cond
  refine wc_condD rfl (fun hc => absurd hc ((by omega))) (fun _ => ?_)
  refine wc_skip ?_
  refine at_then ?_
  refine wc_seq ?_
  refine wc_region ?_
  refine wl_pu (y_move rfl) rfl ?_
  refine wl_pu (y_lenL Try.underlying36 rfl) rfl ?_
  refine wl_pu (v := .int .u64 ((1 : Nat) : Int)) (y_conv Try.underlying3 Try.underlying112 rfl rfl) rfl ?_
  refine wl_pu (y_move rfl) rfl ?_
  first | refine wl_pu (y_conv Try.underlying3 Try.underlying112 rfl (IntWalk.u64_in _ (by omega))) rfl ?_ | refine wl_pu (y_conv Try.underlying3 Try.underlying112 rfl rfl) rfl ?_
  -- at: op (call {callee:(value (func 75)), args:[t15, t17], argTypes:[112, 112]})
  refine wl_do (d_call (by kernel_rfl) rfl (mul_spec _ c (by omega))) rfl ?_
  rintro _ _ ⟨rfl, rfl⟩
  refine wl_pu (y_move rfl) rfl ?_
  refine wl_pu (y_extract rfl rfl) rfl ?_
  refine wl_pu (y_extract rfl rfl) rfl ?_
  refine wl_pu (y_assign rfl) rfl ?_
  refine wl_pu (y_assign rfl) rfl ?_
  refine wl_nil ?_
  refine at_then ?_
  refine wc_seq ?_
  refine wc_seq ?_
  refine wc_region ?_
  refine wl_pu (y_move rfl) rfl ?_
  refine wl_pu (y_gtr rfl rfl) rfl ?_
  refine wl_pu (y_move rfl) rfl ?_
  -- at: guard 2
  refine wl_splitD 23 rfl (fun hc => absurd hc ((by omega))) (fun _ => ?_)
  refine wl_gon rfl rfl ?_
  refine wl_pu (y_move rfl) rfl ?_
  refine wl_gon rfl rfl ?_
  refine wl_pu (y_gtr rfl rfl) rfl ?_
  first | refine wl_pu (y_pickT rfl rfl) rfl ?_ | refine wl_pu (y_pickF rfl rfl) rfl ?_
  refine wl_nil ?_
  refine at_then ?_
  -- at: cond
  refine wc_condD rfl (fun hc => absurd hc ((by omega))) (fun _ => ?_)
  refine wc_skip ?_
  refine at_then ?_
  refine wc_seq ?_
  refine wc_region ?_
  refine wl_pu (y_move rfl) rfl ?_
  refine wl_pu (v := int (c : Int)) (y_conv Try.underlying112 Try.underlying3 rfl (IntWalk.i64_in _ (by omega))) rfl ?_
  refine wl_do (d_make (z := S []) (by_ := 16) Try.underlying36 (zeroB_of (by kernel_rfl)) (by kernel_rfl) rfl (by kernel_rfl) rfl rfl (by omega)) rfl ?_
  rintro _ _ ⟨b2, rfl, rfl⟩
  rw [Int.toNat_natCast]
  refine wl_heap ((b2, row 9 (List.replicate c (S []))) :: (b, row 9 [S l]) :: F) rfl ?_
  refine wl_pu (y_assign rfl) rfl ?_
  refine wl_nil ?_
  refine at_then ?_
  refine wc_seq ?_
  refine wc_region ?_
  refine wl_pu (y_move rfl) rfl ?_
  refine wl_pu (y_move rfl) rfl ?_
  -- at: op (call {callee:(builtin copy), args:[t31, t32], argTypes:[36, 36]})
  refine wl_do (d_copy 0 1 Try.underlying36 (by kernel_rfl) rfl rfl rfl rfl (by simp) (by simp) rfl) rfl ?_
  rintro _ _ ⟨rfl, rfl⟩
  refine wl_heap ((b2, row 9 (List.replicate 1 (S l) ++ List.replicate (c - 1) (S []))) :: (b, row 9 [S l]) :: F) ?_ ?_
  · show (b2, row 9 _) :: _ = _
    obtain ⟨c', rfl⟩ : ∃ c', c = c' + 1 := ⟨c - 1, by omega⟩
    simp [List.replicate_succ]
  rw [Nat.min_eq_left hc.1]
  refine wl_pu (y_assign rfl) rfl ?_
  refine wl_nil ?_
  refine at_then ?_
  refine wc_seq ?_
  refine wc_block ?_
  -- at: loop
  refine wc_loop (σ := Nat) (fun k => 1 ≤ k ∧ k ≤ c) (fun k => c - k) (fun k => [(7, sl b2 0 c c), (8, int (k : Int))]) (fun k => (b2, row 9 (List.replicate k (S l) ++ List.replicate (c - k) (S []))) :: (b, row 9 [S l]) :: F) 1 ⟨Nat.le_refl _, hc.1⟩ ⟨rfl, rfl, trivial⟩ rfl ?_
  rintro k ⟨hk1, hk2⟩
  show WC _ _ _ _ [(7, sl b2 0 c c), (8, int (k : Int))] _
  refine wc_seq ?_
  refine wc_seq ?_
  refine wc_region ?_
  refine wl_pu (y_move rfl) rfl ?_
  refine wl_pu (y_move rfl) rfl ?_
  refine wl_pu (y_lenL Try.underlying36 rfl) rfl ?_
  refine wl_pu (y_lss rfl rfl) rfl ?_
  refine wl_nil ?_
  refine at_then ?_
  -- at: cond
  refine wc_condD rfl (fun h => ?_) (fun h => ?_)
  · skip
    refine wc_skip ?_
    refine at_then ?_
    refine wc_block ?_
    -- at: draw
    refine wc_anyN (by kernel_rfl) ?_
    refine wy_pu (i := 0) rfl (by kernel_rfl) (y_move rfl) rfl ?_
    refine wy_pu (i := 1) rfl (by kernel_rfl) (y_move rfl) rfl ?_
    refine wy_pu (i := 2) rfl (by kernel_rfl) (y_move rfl) rfl ?_
    refine wy_pu (i := 3) rfl (by kernel_rfl) (y_rfrom Try.underlying36 (by kernel_rfl) rfl rfl hk2 (by omega)) rfl ?_
    refine wy_pu (i := 4) rfl (by kernel_rfl) (y_move rfl) rfl ?_
    refine wy_pu (i := 5) rfl (by kernel_rfl) (y_move rfl) rfl ?_
    refine wy_pu (i := 6) rfl (by kernel_rfl) (v := sl b2 0 k c) (y_toL (j := (k : Int)) 1 Try.underlying36 (by kernel_rfl) rfl rfl (by omega)) rfl ?_
    refine wy_1 (i := 7) (by kernel_rfl) ?_
    refine wo_do rfl (d_copy 0 0 Try.underlying36 (by kernel_rfl) rfl rfl rfl rfl (by simp <;> omega) (by simp <;> omega) (by simp [allOne, Value.oneCell'])) rfl ?_
    rintro _ _ ⟨rfl, rfl⟩
    refine wy_heap ((b2, row 9 (List.replicate (k + min k (c - k)) (S l) ++ List.replicate (c - (k + min k (c - k))) (S []))) :: (b, row 9 [S l]) :: F) ?_ ?_
    · show (b2, row 9 _) :: _ = _
      rw [rep_copy (Nat.min_le_left _ _)]
    refine wy_pu (i := 8) rfl (by kernel_rfl) (y_add rfl rfl (by omega)) rfl ?_
    refine wy_pu (i := 9) rfl (by kernel_rfl) (y_assign rfl) rfl ?_
    refine wy_nil (by kernel_rfl) ?_
    refine at_nq ?_
    refine at_block_normal ?_
    exact at_again (k + min k (c - k)) ⟨by omega, by omega⟩ (by show c - (k + min k (c - k)) < c - k; omega) ⟨rfl, by show some _ = some _; congr 2, trivial⟩ rfl
  · skip
    have hkc : k = c := by omega
    subst hkc
    refine wc_exit ?_
    refine at_then_exit ?_
    refine at_then_exit ?_
    refine at_block_same ?_
    refine at_then ?_
    refine wc_seq ?_
    refine wc_region ?_
    refine wl_pu (y_move rfl) rfl ?_
    refine wl_pu (y_assign rfl) rfl ?_
    refine wl_nil ?_
    refine at_then ?_
    refine wc_ret ?_
    -- at: ret
    refine at_perm Go.SL.p1 (at_drop ?_)
    refine at_ret1 rfl rfl ?_
    exact ⟨b2, rfl, by rw [Nat.sub_self, List.replicate_zero, List.append_nil]⟩
end Go.Proofs.Ytkpndnjhfocheaa
