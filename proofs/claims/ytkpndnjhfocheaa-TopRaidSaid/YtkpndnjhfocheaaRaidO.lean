/- Each sector is read as one knows it, and each row is right. -/
import Derived.Test.YtkpndnjhfocheaaRaidN
namespace Go.Proofs.Ytkpndnjhfocheaa
open Go.SL
variable {X : Inhabited SL.Outside}

theorem y_toA {P : Program} {n : Nat} {E : Env} {ty T : TypeId} {x p : Operand} {e : TypeId} {b off len j : Nat} (hu : P.underlying T = some (.array len e)) (hz : szB P e 1 = true) (hx : ev E x = some (ptr b off)) (hp : ev E p = some (int (j : Int))) (h : j ≤ len) : Pu P n E (.slice T x none (some p) none) ty (sl b off j len) := fun _ _ _ _ a hF w => by
  simp only [execOp, hF.ev hx, Option.map_some, hF.ev hp]
  simp [Instr.sliceAt, Instr.slice, Instr.sliceBounds, Instr.sliceBound, asIntOf, run_underlying hu, Go.SL.run_sizeOf hz, Instr.sureAddr, Addr.add, h]

theorem RD.sz_eq (R : RD) (h : R.G) : (R.rw : Int) * ((R.n : Int) - 1) = (R.sz : Int) := by
  have hn := h.mem3
  obtain ⟨n', hn'⟩ : ∃ n', R.n = n' + 1 := ⟨R.n - 1, by omega⟩
  rw [RD.sz, hn']
  push_cast
  simp
theorem RD.sz_le (R : RD) (h : R.G) : 2 ≤ R.sz ∧ R.sz ≤ 192 := by
  have hlo := h.lo
  have hhi := h.hi
  unfold RD.sz
  rcases h.three with h1 | h1 | h1 <;> rw [h1] <;> simp <;> omega

theorem y_eqBE {P : Program} {n : Nat} {E : Env} {ty T T' : TypeId} {x y : Operand} {p q r : Bool} (hu : P.underlying T = some .bool) (hx : ev E x = some (.bool p)) (hy : ev E y = some (.bool q)) (hr : (p == q) = r) : Pu P n E (.binOp .eql T x y T') ty (.bool r) := y_eqB hu hx hy hr
theorem contB_spec (R : RD) (hG : R.G) (F : Hp) :
    Ctr Try.prog 96 [sl R.bx 4 R.n 4, .bool false] (R.hp F) (fun u L' => u = .bool (!(mems R.n).all R.f) ∧ L' = R.hp F) := by
  have hn := hG.mem3
  have hix : Ctr Try.prog 147 [sl R.bx 4 R.n 4, .bool false] (R.hp F) (fun u L' => (∃ i : Int, u = int i ∧ decide (i ≥ 0) = !(mems R.n).all R.f) ∧ L' = R.hp F) := by
    refine spec_body Try.func147 Try.ntmps147 rfl rfl ?_
    refine wc_seq ?_
    refine wc_region ?_
    refine wl_pu (y_assign rfl) rfl ?_
    refine wl_nil ?_
    refine at_then ?_
    refine wc_seq ?_
    refine wc_seq ?_
    refine wc_region ?_
    refine wl_pu (y_move rfl) rfl ?_
    refine wl_pu (y_lenL Try.underlying139 rfl) rfl ?_
    refine wl_pu (y_move rfl) rfl ?_
    refine wl_nil ?_
    refine at_then ?_
    refine wc_block ?_
    -- at: loop
    refine wc_loop (σ := Nat) (fun i => i ≤ R.n ∧ ∀ q : Nat, q < i → R.f q = true) (fun i => R.n - i) (fun i => [(0, sl R.bx 4 R.n 4), (1, .bool false), (7, int (R.n : Int)), (8, int (i : Int))]) (fun i => R.hp F) 0 ⟨Nat.zero_le _, fun q hq => absurd hq (by omega)⟩ ⟨rfl, rfl, rfl, rfl, trivial⟩ rfl ?_
    rintro i ⟨hi, hall⟩
    show WC _ _ _ _ [(0, sl R.bx 4 R.n 4), (1, .bool false), (7, int (R.n : Int)), (8, int (i : Int))] (R.hp F)
    refine wc_seq ?_
    refine wc_region ?_
    refine wl_pu (y_lss rfl rfl) rfl ?_
    refine wl_nil ?_
    refine at_then ?_
    refine wc_seq ?_
    -- at: cond
    refine wc_condD rfl (fun h => ?_) (fun h => ?_)
    · skip
      refine wc_skip ?_
      refine at_then ?_
      refine wc_seq ?_
      refine wc_block ?_
      refine wc_seq ?_
      refine wc_region ?_
      refine wl_pu (y_move rfl) rfl ?_
      refine wl_pu (y_assign rfl) rfl ?_
      refine wl_nil ?_
      refine at_then ?_
      refine wc_seq ?_
      refine wc_region ?_
      refine wl_pu (y_move rfl) rfl ?_
      refine wl_pu (y_move rfl) rfl ?_
      refine wl_pu (y_move rfl) rfl ?_
      first | refine wl_pu (y_ix1 Try.underlying139 (by kernel_rfl) rfl rfl (by omega)) rfl ?_ | refine wl_pu (y_ix 1 Try.underlying139 (by kernel_rfl) rfl rfl (by omega)) rfl ?_
      refine wl_rd (y_load 0 rfl rfl (v := .bool (R.f i)) (R.in_nth (by omega)) (by kernel_rfl)) rfl ?_
      refine wl_pu (y_eqBE (r := !R.f i) Try.underlying4 rfl rfl (by cases R.f i <;> rfl)) rfl ?_
      refine wl_nil ?_
      refine at_then ?_
      -- at: cond
      refine wc_condB rfl (fun hb => ?_) (fun hb => ?_)
      · skip
        have hb' : R.f i = false := by simpa using hb
        refine wc_seq ?_
        refine wc_region ?_
        refine wl_pu (y_move rfl) rfl ?_
        refine wl_pu (y_assign rfl) rfl ?_
        refine wl_nil ?_
        refine at_then ?_
        refine wc_ret ?_
        refine at_block_ret ?_
        refine at_then_ret ?_
        refine at_then_ret ?_
        refine at_block_ret ?_
        refine at_then_ret ?_
        -- at: ret
        refine at_ret1 rfl rfl ?_
        refine ⟨⟨i, rfl, ?_⟩, rfl⟩
        have : (mems R.n).all R.f = false := List.all_eq_false.2 ⟨i, mems_mem.2 (by omega), by simp [hb']⟩
        rw [this]
        simp
      · skip
        have hb' : R.f i = true := by simpa using hb
        refine wc_skip ?_
        refine at_block_normal ?_
        refine at_then ?_
        refine wc_region ?_
        refine wl_pu (y_add rfl rfl (by omega)) rfl ?_
        refine wl_pu (y_move rfl) rfl ?_
        refine wl_nil ?_
        -- at: round
        refine at_again (i + 1) ⟨by omega, fun q hq => ?_⟩ (by omega) ⟨rfl, rfl, rfl, rfl, trivial⟩ rfl
        rcases Nat.lt_succ_iff_lt_or_eq.1 hq with h' | rfl
        · exact hall q h'
        · exact hb'
    · skip
      refine wc_exit ?_
      refine at_then_exit ?_
      refine at_then_exit ?_
      refine at_block_same ?_
      refine at_then ?_
      refine wc_seq ?_
      refine wc_region ?_
      refine wl_pu (y_assign rfl) rfl ?_
      refine wl_nil ?_
      refine at_then ?_
      refine wc_ret ?_
      -- at: ret
      refine at_ret1 rfl rfl ?_
      refine ⟨⟨-1, rfl, ?_⟩, rfl⟩
      have : (mems R.n).all R.f = true := List.all_eq_true.2 fun m hm => by
        have := mems_mem.1 hm
        have h2 := hall m.toNat (by omega)
        rwa [Int.toNat_of_nonneg this.1] at h2
      rw [this]
      rfl
  refine spec_body Try.func96 Try.ntmps96 rfl rfl ?_
  refine wc_seq ?_
  refine wc_region ?_
  refine wl_pu (y_assign rfl) rfl ?_
  refine wl_nil ?_
  refine at_then ?_
  refine wc_seq ?_
  refine wc_region ?_
  refine wl_pu (y_move rfl) rfl ?_
  refine wl_pu (y_move rfl) rfl ?_
  -- at: op (call {callee:(value (func 147)), args:[t5, t6], argTypes:[139, 4]})
  refine wl_do (d_call (by kernel_rfl) rfl (hix)) rfl ?_
  rintro _ L9 ⟨⟨i, rfl, hi⟩, hL9⟩
  rw [hL9]
  clear hL9
  refine wl_pu (y_geq rfl rfl) rfl ?_
  refine wl_pu (y_assign rfl) rfl ?_
  refine wl_nil ?_
  refine at_then ?_
  refine wc_ret ?_
  -- at: ret
  refine at_ret1 rfl rfl ?_
  exact ⟨by rw [← hi], rfl⟩
theorem contB_q (R : RD) (hG : R.G) (F : Hp) : QCtr Try.prog 96 [sl R.bx 4 R.n 4, .bool false] (R.hp F) (.bool (!(mems R.n).all R.f)) := fun F' => by
  have h := contB_spec (X := X) R hG (F ++ F')
  have e : R.hp F ++ F' = R.hp (F ++ F') := by simp [RD.hp]
  rw [e]
  exact h

theorem reads'_spec (R : RD) (V : Int → Int → UInt8) (h : RS R V) (F : Hp) : Ctr Try.prog 44 [ptr R.bx 0] (R.hp F) (fun v L' => v = .bool true ∧ L' = R.hp F) := by
  have hG := h.G
  have hn := hG.mem3
  have hhi := hG.hi
  have hsz := R.sz_eq hG
  have hsl := R.sz_le hG
  refine spec_body Try.func44 Try.ntmps44 rfl rfl ?_
  refine wc_seq ?_
  refine wc_region ?_
  refine wl_pu (y_assign rfl) rfl ?_
  refine wl_nil ?_
  refine at_then ?_
  refine wc_seq ?_
  refine wc_seq ?_
  -- at: draw
  apply wc_draw 11 (pl := [_, _, _, _, _, _, _, _, _, _, _]) (by kernel_rfl)
  rotate_left
  refine hw_pu (y_move rfl) ?_
  refine hw_pu (y_nil rfl) ?_
  first | refine hw_pu (y_fieldAddr0 0 Try.underlying98 rfl rfl (by kernel_rfl) rfl) ?_ | refine hw_pu (y_fieldAddr 0 Try.underlying98 rfl rfl (by kernel_rfl) rfl) ?_
  refine hw_rd (y_loadAgg (k := 3) (vs := geo R.lv R.n R.rw) 0 rfl rfl rfl rfl (by kernel_rfl) (by kernel_rfl)) ?_
  refine hw_call (by kernel_rfl) rfl (QCtr.of fun F => size_spec F hG) ?_
  refine hw_pu (y_move rfl) ?_
  refine hw_pu (y_nil rfl) ?_
  first | refine hw_pu (y_fieldAddr0 8 Try.underlying98 rfl rfl (by kernel_rfl) rfl) ?_ | refine hw_pu (y_fieldAddr 8 Try.underlying98 rfl rfl (by kernel_rfl) rfl) ?_
  first | refine hw_rd (y_load 0 rfl rfl rfl (by kernel_rfl)) ?_ | refine hw_rd (y_load 1 rfl rfl rfl (by kernel_rfl)) ?_ | refine hw_rd (y_load 2 rfl rfl rfl (by kernel_rfl)) ?_ | refine hw_rd (y_load 3 rfl rfl rfl (by kernel_rfl)) ?_ | refine hw_rd (y_load 4 rfl rfl rfl (by kernel_rfl)) ?_ | refine hw_rd (y_load 5 rfl rfl rfl (by kernel_rfl)) ?_
  refine hw_pu (y_lenL Try.underlying36 rfl) ?_
  refine hw_pu (y_neq rfl rfl) ?_
  refine hw_end [] rfl ?_
  case hB => kernel_rfl
  refine wl_nil ?_
  refine at_nq ?_
  refine at_then ?_
  -- at: cond
  refine wc_condD rfl (fun hc => absurd hc ((by omega))) (fun _ => ?_)
  refine wc_skip ?_
  refine at_then ?_
  refine wc_seq ?_
  refine wc_seq ?_
  refine wc_region ?_
  refine wl_pu (y_move rfl) rfl ?_
  refine wl_pu (y_nil rfl) rfl ?_
  first | refine wl_pu (y_fieldAddr0 8 Try.underlying98 rfl rfl (by kernel_rfl) rfl) rfl ?_ | refine wl_pu (y_fieldAddr 8 Try.underlying98 rfl rfl (by kernel_rfl) rfl) rfl ?_
  first | refine wl_rd (y_load 0 rfl rfl rfl (by kernel_rfl)) rfl ?_ | refine wl_rd (y_load 1 rfl rfl rfl (by kernel_rfl)) rfl ?_ | refine wl_rd (y_load 2 rfl rfl rfl (by kernel_rfl)) rfl ?_ | refine wl_rd (y_load 3 rfl rfl rfl (by kernel_rfl)) rfl ?_ | refine wl_rd (y_load 4 rfl rfl rfl (by kernel_rfl)) rfl ?_ | refine wl_rd (y_load 5 rfl rfl rfl (by kernel_rfl)) rfl ?_
  refine wl_pu (y_lenL Try.underlying36 rfl) rfl ?_
  refine wl_pu (y_move rfl) rfl ?_
  refine wl_nil ?_
  refine at_then ?_
  refine wc_block ?_
  -- at: loop
  refine wc_loop (σ := Nat) (fun i => i ≤ R.sz) (fun i => R.sz - i) (fun i => [(0, ptr R.bx 0), (27, sl R.bp 0 R.sz R.sz), (28, int (R.sz : Int)), (29, int (i : Int))]) (fun _ => R.hp F) 0 (Nat.zero_le _) ⟨rfl, rfl, rfl, rfl, trivial⟩ rfl ?_
  intro i hi
  show WC _ _ _ _ [(0, ptr R.bx 0), (27, sl R.bp 0 R.sz R.sz), (28, int (R.sz : Int)), (29, int (i : Int))] (R.hp F)
  refine wc_seq ?_
  refine wc_region ?_
  refine wl_pu (y_lss rfl rfl) rfl ?_
  refine wl_nil ?_
  refine at_then ?_
  refine wc_seq ?_
  -- at: cond
  refine wc_condD rfl (fun hlt => ?_) (fun hlt => ?_)
  · skip
    have hi' : i < R.sz := by omega
    have hir : 0 ≤ (i : Int) ∧ (i : Int) < (R.rw : Int) * ((R.n : Int) - 1) := by omega
    have har := atR_lo hG hir
    have ham := dat_lo hG (atR R.n i) ((i : Int) / 2 % ((R.n : Int) - 1))
    have hpl := h.pl i hir.1 hir.2
    refine wc_skip ?_
    refine at_then ?_
    refine wc_seq ?_
    refine wc_block ?_
    refine wc_seq ?_
    refine wc_region ?_
    refine wl_pu (y_move rfl) rfl ?_
    first | refine wl_pu (y_ix1 Try.underlying36 (by kernel_rfl) rfl rfl (by omega)) rfl ?_ | refine wl_pu (y_ix 1 Try.underlying36 (by kernel_rfl) rfl rfl (by omega)) rfl ?_
    refine wl_rd (y_load 2 rfl rfl (v := S (rep (R.P i))) (by rw [Int.toNat_natCast]; exact drow_at R.P hi') (by kernel_rfl)) rfl ?_
    refine wl_pu (y_assign rfl) rfl ?_
    refine wl_pu (y_assign rfl) rfl ?_
    refine wl_nil ?_
    refine at_then ?_
    refine wc_seq ?_
    refine wc_region ?_
    refine wl_pu (y_move rfl) rfl ?_
    refine wl_pu (y_nil rfl) rfl ?_
    first | refine wl_pu (y_fieldAddr0 0 Try.underlying98 rfl rfl (by kernel_rfl) rfl) rfl ?_ | refine wl_pu (y_fieldAddr 0 Try.underlying98 rfl rfl (by kernel_rfl) rfl) rfl ?_
    refine wl_rd (y_loadAgg (k := 3) (vs := geo R.lv R.n R.rw) 0 rfl rfl rfl rfl (by kernel_rfl) (by kernel_rfl)) rfl ?_
    refine wl_pu (y_move rfl) rfl ?_
    -- at: op (call {callee:(value (func 42)), args:[t38, t39], argTypes:[72, 3]})
    refine wl_do (d_call (by kernel_rfl) rfl (at_spec _ hG i hir)) rfl ?_
    rintro _ _ ⟨rfl, rfl⟩
    refine wl_pu (y_move rfl) rfl ?_
    refine wl_pu (y_extract rfl rfl) rfl ?_
    refine wl_pu (y_extract rfl rfl) rfl ?_
    refine wl_pu (y_extract rfl rfl) rfl ?_
    refine wl_pu (y_assign rfl) rfl ?_
    refine wl_pu (y_assign rfl) rfl ?_
    refine wl_pu (y_assign rfl) rfl ?_
    refine wl_nil ?_
    refine at_then ?_
    refine wc_seq ?_
    refine wc_seq ?_
    refine wc_region ?_
    refine wl_pu (y_move rfl) rfl ?_
    first | refine wl_pu (y_notT rfl) rfl ?_ | refine wl_pu (y_notF rfl) rfl ?_ | refine wl_pu (y_not rfl) rfl ?_ | refine wl_pu (y_notB rfl) rfl ?_
    refine wl_nil ?_
    refine at_then ?_
    -- at: cond
    refine wc_condF rfl ?_
    refine wc_skip ?_
    refine at_then ?_
    refine wc_seq ?_
    refine wc_region ?_
    refine wl_pu (y_move rfl) rfl ?_
    refine wl_pu (y_move rfl) rfl ?_
    refine wl_pu (y_move rfl) rfl ?_
    -- at: op (call {callee:(value (func 40)), args:[t47, t48, t49], argTypes:[92, 3, 3]})
    refine wl_do (d_call (by kernel_rfl) rfl (value'_spec R V h.toRS0 F (atR R.n i) har (atM R.n i) ham)) rfl ?_
    rintro _ _ ⟨rfl, rfl⟩
    rw [← hpl]
    refine wl_pu (y_move rfl) rfl ?_
    refine wl_pu (y_extract rfl rfl) rfl ?_
    refine wl_pu (y_extract rfl rfl) rfl ?_
    refine wl_pu (y_assign rfl) rfl ?_
    refine wl_pu (y_assign rfl) rfl ?_
    refine wl_nil ?_
    refine at_then ?_
    refine wc_seq ?_
    refine wc_region ?_
    refine wl_pu (y_move rfl) rfl ?_
    first | refine wl_pu (y_notT rfl) rfl ?_ | refine wl_pu (y_notF rfl) rfl ?_ | refine wl_pu (y_not rfl) rfl ?_ | refine wl_pu (y_notB rfl) rfl ?_
    refine wl_pu (y_move rfl) rfl ?_
    -- at: guard 2
    refine wl_gon rfl rfl ?_
    refine wl_pu (y_move rfl) rfl ?_
    refine wl_gon rfl rfl ?_
    refine wl_pu (y_move rfl) rfl ?_
    refine wl_gon rfl rfl ?_
    refine wl_pu (y_neS rfl rfl) rfl ?_
    first | refine wl_pu (y_pickT rfl rfl) rfl ?_ | refine wl_pu (y_pickF rfl rfl) rfl ?_
    refine wl_nil ?_
    refine at_then ?_
    -- at: cond
    refine wc_condD rfl (fun hc => absurd hc ((fun hc => hc rfl))) (fun _ => ?_)
    refine wc_skip ?_
    refine at_block_normal ?_
    refine at_then ?_
    refine wc_region ?_
    refine wl_pu (y_add rfl rfl (by omega)) rfl ?_
    refine wl_pu (y_move rfl) rfl ?_
    refine wl_nil ?_
    -- at: round
    exact at_again (i + 1) hi' (by omega) ⟨rfl, rfl, rfl, rfl, trivial⟩ rfl
  · skip
    refine wc_exit ?_
    refine at_then_exit ?_
    refine at_then_exit ?_
    refine at_block_same ?_
    refine at_then ?_
    refine wc_seq ?_
    refine wc_seq ?_
    refine wc_region ?_
    refine wl_pu (y_assign rfl) rfl ?_
    refine wl_nil ?_
    refine at_then ?_
    refine wc_block ?_
    -- at: loop
    refine wc_loop (σ := Nat) (fun r => r ≤ R.rw) (fun r => R.rw - r) (fun r => [(0, ptr R.bx 0), (10, int (r : Int))]) (fun _ => R.hp F) 0 (Nat.zero_le _) ⟨rfl, rfl, trivial⟩ rfl ?_
    intro r hr
    show WC _ _ _ _ [(0, ptr R.bx 0), (10, int (r : Int))] (R.hp F)
    refine wc_seq ?_
    refine wc_seq ?_
    -- at: draw
    by_cases hrr : (r : Int) < R.rw
    · skip
      apply wc_draw 20 (pl := [_, _, _, _, _, _, _, _, _, _, _, _, _, _, _, _, _, _, _, _]) (by kernel_rfl)
      rotate_left
      refine hw_pu (y_move rfl) ?_
      refine hw_pu (y_move rfl) ?_
      refine hw_pu (y_nil rfl) ?_
      first | refine hw_pu (y_fieldAddr0 0 Try.underlying98 rfl rfl (by kernel_rfl) rfl) ?_ | refine hw_pu (y_fieldAddr 0 Try.underlying98 rfl rfl (by kernel_rfl) rfl) ?_
      first | refine hw_pu (y_fieldAddr0 2 Try.underlying72 rfl rfl (by kernel_rfl) rfl) ?_ | refine hw_pu (y_fieldAddr 2 Try.underlying72 rfl rfl (by kernel_rfl) rfl) ?_
      refine hw_rd (y_load 0 rfl rfl (v := int (R.rw : Int)) rfl (by kernel_rfl)) ?_
      refine hw_pu (y_lss rfl rfl) ?_
      refine hw_pu (y_move rfl) ?_
      -- at: hw guard 7
      refine hw_isT 68 rfl (hrr) ?_
      refine hw_gonL rfl rfl ?_
      refine hw_pu (y_move rfl) ?_
      refine hw_gonL rfl rfl ?_
      refine hw_pu (y_nil rfl) ?_
      refine hw_gonL rfl rfl ?_
      first | refine hw_pu (y_fieldAddr0 4 Try.underlying98 rfl rfl (by kernel_rfl) rfl) ?_ | refine hw_pu (y_fieldAddr 4 Try.underlying98 rfl rfl (by kernel_rfl) rfl) ?_
      refine hw_gonL rfl rfl ?_
      refine hw_pu (y_move rfl) ?_
      refine hw_gonL rfl rfl ?_
      refine hw_pu (y_nil rfl) ?_
      refine hw_gonL rfl rfl ?_
      first | refine hw_pu (y_fieldAddr0 0 Try.underlying98 rfl rfl (by kernel_rfl) rfl) ?_ | refine hw_pu (y_fieldAddr 0 Try.underlying98 rfl rfl (by kernel_rfl) rfl) ?_
      refine hw_gonL rfl rfl ?_
      first | refine hw_pu (y_fieldAddr0 1 Try.underlying72 rfl rfl (by kernel_rfl) rfl) ?_ | refine hw_pu (y_fieldAddr 1 Try.underlying72 rfl rfl (by kernel_rfl) rfl) ?_
      refine hw_gonL rfl rfl ?_
      refine hw_rd (y_load 0 rfl rfl (v := int (R.n : Int)) rfl (by kernel_rfl)) ?_
      refine hw_gonL rfl rfl ?_
      refine hw_pu (y_toA Try.underlying84 (by kernel_rfl) rfl rfl (by omega)) ?_
      refine hw_gonL rfl rfl ?_
      -- at: hw op (call {callee:(value (func 96)), args:[t77, c:(bool false)], argTypes:[139, 4]})
      refine hw_call (by kernel_rfl) rfl (contB_q R hG F) ?_
      refine hw_gonL rfl rfl ?_
      first | refine hw_pu (y_notT rfl) ?_ | refine hw_pu (y_notF rfl) ?_ | refine hw_pu (y_not rfl) ?_ | refine hw_pu (y_notB rfl) ?_
      first | refine hw_pu (y_pickT rfl rfl) ?_ | refine hw_pu (y_pickF rfl rfl) ?_
      refine hw_end [] rfl ?_
      case hB => kernel_rfl
      refine wl_nil ?_
      refine at_nq ?_
      refine at_then ?_
      -- at: cond
      refine wc_condB rfl (fun hb => ?_) (fun hb => ?_)
      · skip
        have hall : ∀ m ∈ mems R.n, R.f m = true := List.all_eq_true.1 (by simpa using hb)
        refine wc_skip ?_
        refine at_then ?_
        refine wc_seq ?_
        refine wc_block ?_
        refine wc_seq ?_
        refine wc_region ?_
        refine wl_pu (y_assign rfl) rfl ?_
        refine wl_nil ?_
        refine at_then ?_
        refine wc_seq ?_
        refine wc_seq ?_
        refine wc_region ?_
        refine wl_pu (y_move rfl) rfl ?_
        refine wl_pu (y_nil rfl) rfl ?_
        first | refine wl_pu (y_fieldAddr0 3 Try.underlying98 rfl rfl (by kernel_rfl) rfl) rfl ?_ | refine wl_pu (y_fieldAddr 3 Try.underlying98 rfl rfl (by kernel_rfl) rfl) rfl ?_
        first | refine wl_rd (y_load 0 rfl rfl rfl (by kernel_rfl)) rfl ?_ | refine wl_rd (y_load 1 rfl rfl rfl (by kernel_rfl)) rfl ?_ | refine wl_rd (y_load 2 rfl rfl rfl (by kernel_rfl)) rfl ?_ | refine wl_rd (y_load 3 rfl rfl rfl (by kernel_rfl)) rfl ?_ | refine wl_rd (y_load 4 rfl rfl rfl (by kernel_rfl)) rfl ?_ | refine wl_rd (y_load 5 rfl rfl rfl (by kernel_rfl)) rfl ?_
        refine wl_pu (y_lenL Try.underlying96 rfl) rfl ?_
        refine wl_pu (y_move rfl) rfl ?_
        refine wl_nil ?_
        refine at_then ?_
        refine wc_block ?_
        -- at: loop
        refine wc_loop (σ := Nat × Value × Hp) (fun s => s.1 ≤ R.n ∧ SlF 9 1 s.2.1 s.1 (secs ((List.range s.1).map fun m : Nat => R.D m r)) s.2.2) (fun s => R.n - s.1) (fun s => [(0, ptr R.bx 0), (10, int (r : Int)), (11, s.2.1), (87, int (R.n : Int)), (88, int (s.1 : Int))]) (fun s => R.hp (s.2.2 ++ F)) (0, .slice none 0 0, []) ⟨Nat.zero_le _, .nil⟩ ⟨rfl, rfl, rfl, rfl, rfl, trivial⟩ rfl ?_
        rintro ⟨m, u, fr⟩ ⟨hm, hS⟩
        simp only [] at hm hS
        show WC _ _ _ _ [(0, ptr R.bx 0), (10, int (r : Int)), (11, u), (87, int (R.n : Int)), (88, int (m : Int))] (R.hp (fr ++ F))
        refine wc_seq ?_
        refine wc_region ?_
        refine wl_pu (y_lss rfl rfl) rfl ?_
        refine wl_nil ?_
        refine at_then ?_
        refine wc_seq ?_
        -- at: cond
        refine wc_condD rfl (fun hmn => ?_) (fun hmn => ?_)
        · skip
          have hmn' : m < R.n := by omega
          refine wc_skip ?_
          refine at_then ?_
          refine wc_seq ?_
          refine wc_block ?_
          refine wc_seq ?_
          refine wc_region ?_
          refine wl_pu (y_move rfl) rfl ?_
          refine wl_pu (y_assign rfl) rfl ?_
          refine wl_nil ?_
          refine at_then ?_
          refine wc_region ?_
          refine wl_pu (y_move rfl) rfl ?_
          refine wl_pu (y_move rfl) rfl ?_
          refine wl_pu (y_nil rfl) rfl ?_
          first | refine wl_pu (y_fieldAddr0 3 Try.underlying98 rfl rfl (by kernel_rfl) rfl) rfl ?_ | refine wl_pu (y_fieldAddr 3 Try.underlying98 rfl rfl (by kernel_rfl) rfl) rfl ?_
          first | refine wl_rd (y_load 0 rfl rfl rfl (by kernel_rfl)) rfl ?_ | refine wl_rd (y_load 1 rfl rfl rfl (by kernel_rfl)) rfl ?_ | refine wl_rd (y_load 2 rfl rfl rfl (by kernel_rfl)) rfl ?_ | refine wl_rd (y_load 3 rfl rfl rfl (by kernel_rfl)) rfl ?_ | refine wl_rd (y_load 4 rfl rfl rfl (by kernel_rfl)) rfl ?_ | refine wl_rd (y_load 5 rfl rfl rfl (by kernel_rfl)) rfl ?_
          refine wl_pu (y_move rfl) rfl ?_
          first | refine wl_pu (y_ix1 Try.underlying96 (by kernel_rfl) rfl rfl (by omega)) rfl ?_ | refine wl_pu (y_ix 1 Try.underlying96 (by kernel_rfl) rfl rfl (by omega)) rfl ?_
          refine wl_rd (y_load 1 rfl rfl (v := sl (R.bk m) 0 R.rw R.rw) (by rw [Int.toNat_natCast]; exact R.disk_nth hmn') (by kernel_rfl)) rfl ?_
          refine wl_pu (y_move rfl) rfl ?_
          first | refine wl_pu (y_ix1 Try.underlying36 (by kernel_rfl) rfl rfl (by omega)) rfl ?_ | refine wl_pu (y_ix 1 Try.underlying36 (by kernel_rfl) rfl rfl (by omega)) rfl ?_
          refine wl_rd (y_load (m + 3) rfl (R.dk_nth hmn' (fr ++ F)) (v := S (rep (R.D m r))) (by rw [Int.toNat_natCast]; exact drow_at _ (by omega)) (by kernel_rfl)) rfl ?_
          refine wl_do (d_buildSlice [S (rep (R.D m r))] Try.underlying36 rfl (built9 _)) rfl ?_
          rintro _ _ ⟨b1, rfl, rfl⟩
          refine wl_perm (L' := fr ++ ((b1, row 9 [S (rep (R.D m r))]) :: R.hp F)) ((List.Perm.cons _ (hp_inL R fr F)).trans perm_mid.symm) ?_
          refine wl_do (d_append (sz := 1) (bytes := 16) (L0 := (b1, row 9 [S (rep (R.D m r))]) :: R.hp F) 0 (S []) Try.underlying36 (by kernel_rfl) rfl rfl rfl hS rfl rfl (news := [S (rep (R.D m r))]) rfl rfl rfl (by omega) (by omega)) rfl ?_
          rintro u' _ ⟨fr', hS', rfl⟩
          refine wl_perm (L' := (b1, row 9 [S (rep (R.D m r))]) :: R.hp (fr' ++ F)) (perm_mid.trans (List.Perm.cons _ (hp_inL R fr' F).symm)) (wl_drop ?_)
          refine wl_pu (y_assign rfl) rfl ?_
          refine wl_nil ?_
          refine at_block_normal ?_
          refine at_then ?_
          refine wc_region ?_
          refine wl_pu (y_add rfl rfl (by omega)) rfl ?_
          refine wl_pu (y_move rfl) rfl ?_
          refine wl_nil ?_
          -- at: round
          refine at_again (m + 1, u', fr') ⟨hmn', ?_⟩ (by show R.n - (m + 1) < R.n - m; omega) ⟨rfl, rfl, rfl, rfl, rfl, trivial⟩ rfl
          show SlF 9 1 u' (m + 1) (secs ((List.range (m + 1)).map fun m : Nat => R.D m r)) fr'
          rw [List.range_succ, List.map_append, secs, List.map_append]
          exact hS'
        · skip
          have hme : m = R.n := by omega
          subst hme
          have hx : xall ((List.range R.n).map fun m : Nat => R.D m r) = 0 := by
            rw [← h.bal r (by omega) hrr, mems, List.map_map]
            refine congrArg xall (List.map_congr_left fun m hm => ?_)
            have := List.mem_range.1 hm
            exact h.dsk m r (by omega) (by omega) (by omega) hrr (hall m (mems_mem.2 (by omega)))
          have hS0 : SlF 9 1 u ((List.range R.n).map fun m : Nat => R.D m r).length (secs ((List.range R.n).map fun m : Nat => R.D m r)) fr := by
            rw [List.length_map, List.length_range]; exact hS
          refine wc_exit ?_
          refine at_then_exit ?_
          refine at_then_exit ?_
          refine at_block_same ?_
          refine at_then ?_
          refine wc_seq ?_
          refine wc_region ?_
          refine wl_pu (y_move rfl) rfl ?_
          -- at: op (call {callee:(value (func 97)), args:[t105], argTypes:[36]})
          refine wl_perm (L' := fr ++ R.hp F) (hp_inL R fr F) ?_
          refine wl_do (d_call (by kernel_rfl) rfl (xright_spec (R.hp F) hS0 (by simp; omega) hx)) rfl ?_
          rintro _ L9 ⟨rfl, hL9⟩
          rw [hL9]
          clear hL9
          refine wl_dropL ?_
          first | refine wl_pu (y_notT rfl) rfl ?_ | refine wl_pu (y_notF rfl) rfl ?_ | refine wl_pu (y_not rfl) rfl ?_ | refine wl_pu (y_notB rfl) rfl ?_
          refine wl_nil ?_
          refine at_then ?_
          -- at: cond
          refine wc_condF rfl ?_
          refine wc_skip ?_
          refine at_block_normal ?_
          refine at_then ?_
          refine wc_region ?_
          refine wl_pu (y_move rfl) rfl ?_
          refine wl_pu (y_add rfl rfl (by omega)) rfl ?_
          refine wl_pu (y_assign rfl) rfl ?_
          refine wl_nil ?_
          -- at: round
          exact at_again (r + 1) (by omega) (by omega) ⟨rfl, rfl, trivial⟩ rfl
      · skip
        refine wc_exit ?_
        refine at_then_exit ?_
        refine at_then_exit ?_
        refine at_block_same ?_
        refine at_then ?_
        refine wc_seq ?_
        refine wc_region ?_
        refine wl_pu (y_assign rfl) rfl ?_
        refine wl_nil ?_
        refine at_then ?_
        refine wc_ret ?_
        -- at: ret
        refine at_ret1 rfl rfl ?_
        exact ⟨rfl, rfl⟩
    · skip
      apply wc_draw 20 (pl := [_, _, _, _, _, _, _, _, _, _, _, _, _, _, _, _, _, _, _, _]) (by kernel_rfl)
      rotate_left
      refine hw_pu (y_move rfl) ?_
      refine hw_pu (y_move rfl) ?_
      refine hw_pu (y_nil rfl) ?_
      first | refine hw_pu (y_fieldAddr0 0 Try.underlying98 rfl rfl (by kernel_rfl) rfl) ?_ | refine hw_pu (y_fieldAddr 0 Try.underlying98 rfl rfl (by kernel_rfl) rfl) ?_
      first | refine hw_pu (y_fieldAddr0 2 Try.underlying72 rfl rfl (by kernel_rfl) rfl) ?_ | refine hw_pu (y_fieldAddr 2 Try.underlying72 rfl rfl (by kernel_rfl) rfl) ?_
      refine hw_rd (y_load 0 rfl rfl (v := int (R.rw : Int)) rfl (by kernel_rfl)) ?_
      refine hw_pu (y_lss rfl rfl) ?_
      refine hw_pu (y_move rfl) ?_
      -- at: hw guard 7
      refine hw_isF 68 rfl (hrr) ?_
      refine hw_goff rfl rfl rfl ?_
      refine hw_goff rfl rfl rfl ?_
      refine hw_goff rfl rfl rfl ?_
      refine hw_goff rfl rfl rfl ?_
      refine hw_goff rfl rfl rfl ?_
      refine hw_goff rfl rfl rfl ?_
      refine hw_goff rfl rfl rfl ?_
      refine hw_goff rfl rfl rfl ?_
      refine hw_goff rfl rfl rfl ?_
      refine hw_goff rfl rfl rfl ?_
      refine hw_goff rfl rfl rfl ?_
      first | refine hw_pu (y_pickT rfl rfl) ?_ | refine hw_pu (y_pickF rfl rfl) ?_
      refine hw_end [] rfl ?_
      case hB => kernel_rfl
      refine wl_nil ?_
      refine at_nq ?_
      refine at_then ?_
      -- at: cond
      refine wc_condF rfl ?_
      refine wc_exit ?_
      refine at_then_exit ?_
      refine at_then_exit ?_
      refine at_block_same ?_
      refine at_then ?_
      refine wc_seq ?_
      refine wc_region ?_
      refine wl_pu (y_assign rfl) rfl ?_
      refine wl_nil ?_
      refine at_then ?_
      refine wc_ret ?_
      -- at: ret
      refine at_ret1 rfl rfl ?_
      exact ⟨rfl, rfl⟩
end Go.Proofs.Ytkpndnjhfocheaa
