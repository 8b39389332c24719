/- super.counts: the votes' keys; the first state that is another; a superblock's weight. -/
import Derived.Test.YtkpndnjhfocheaaSupersJ
namespace Go.Proofs.Ytkpndnjhfocheaa
open Go.SL
variable {X : Inhabited SL.Outside}

theorem chk80 (w : World) (b : Bool) (a0 a1 a2 a3 a4 a5 a6 a7 a8 a9 a10 a11 : Int) : (Instr.checkKey b 10000 80 (.agg #[int a0, int a1, int a2, int a3, int a4, int a5, int a6, int a7, int a8, int a9, int a10, int a11])).run Try.prog w = .ok () w := by kernel_rfl
theorem run_findAsking (w : World) (k : List Int) (hk : ok80 k) : ∀ (l : List (List Int × Value)) (i : Nat), (∀ p ∈ l, ok80 p.1) → (Instr.findAsking 80 (κ80 k) (ents κ80 i l) i).run Try.prog w = .ok (posn k l i) w
  | [], i, _ => rfl
  | (a, v) :: r, i, h => by
    have ha := h (a, v) List.mem_cons_self
    have ih := run_findAsking w k hk r (i + 1) (fun p hp => h p (List.mem_cons_of_mem _ hp))
    show (Instr.findAsking 80 (κ80 k) ({ key := κ80 a, val := v, born := i } :: ents κ80 (i + 1) r) i).run Try.prog w = _
    simp only [Instr.findAsking, Sem.run_bind, eq80 w k a hk ha, Result.andThen_ok, posn]
    by_cases e : k = a
    · simp [e]
    · simp [e, ih]
theorem key80 : KeyT Try.prog 80 κ80 ok80 where
  check w b k h := by
    match k, h with
    | [a0, a1, a2, a3, a4, a5, a6, a7, a8, a9, a10, a11], _ => exact chk80 w b a0 a1 a2 a3 a4 a5 a6 a7 a8 a9 a10 a11
  stays w k h := by
    match k, h with
    | [a0, a1, a2, a3, a4, a5, a6, a7, a8, a9, a10, a11], _ =>
      have : Instr.sameBits (9999 + 1) (κ80 [a0, a1, a2, a3, a4, a5, a6, a7, a8, a9, a10, a11]) (κ80 [a0, a1, a2, a3, a4, a5, a6, a7, a8, a9, a10, a11]) = true := by simp [Instr.sameBits]
      show (if Instr.sameBits (9999 + 1) _ _ then pure _ else _ : Sem Value).run Try.prog w = _
      rw [if_pos this]; rfl
  find w k l hk hl := by
    have hf := run_findAsking w k hk l 0 hl.ok
    unfold Instr.findKey
    simp only [Sem.run_bind, run_underlying Try.underlying80, Result.andThen_ok]
    cases l with
    | nil => rfl
    | cons p r =>
      obtain ⟨a, v⟩ := p
      exact hf

theorem y_toA {n : Nat} {E : Env} {T e : TypeId} {ty : TypeId} {x p : Operand} {b off len : Nat} {j : Int} {k : IntKind} {P : Program} (es : Nat) (hu : P.underlying T = some (.array len e)) (hz : szB P e es = true) (hx : ev E x = some (ptr b off)) (hp : ev E p = some (.int k j)) (h : 0 ≤ j ∧ j ≤ len) : Pu P n E (.slice T x none (some p) none) ty (sl b off j.toNat len) := fun _ _ _ _ a hF w => by
  simp only [execOp, hF.ev hx, Option.map_none, Option.map_some, hF.ev hp]
  simp [Instr.sliceAt, run_underlying hu, Instr.sureAddr, Instr.sliceBounds, Instr.sliceBound, asIntOf, h.1, h.2, SL.run_sizeOf hz, addr_add]

/-- Is a state among the first k another than alive? -/
def anyOut (f : Nat → Int) : Nat → Bool
  | 0 => false
  | k + 1 => anyOut f k || decide (f k ≠ 1)
theorem anyOut_iff (f : Nat → Int) (k : Nat) : anyOut f k = true ↔ ∃ i, i < k ∧ f i ≠ 1 := by
  induction k with
  | zero => simp [anyOut]
  | succ k ih =>
    simp only [anyOut, Bool.or_eq_true, ih, decide_eq_true_eq]
    constructor
    · rintro (⟨i, hi, h⟩ | h)
      · exact ⟨i, by omega, h⟩
      · exact ⟨k, by omega, h⟩
    · rintro ⟨i, hi, h⟩
      by_cases e : i = k
      · exact .inr (e ▸ h)
      · exact .inl ⟨i, by omega, h⟩

theorem ne1_spec (F : Hp) (x : Int) : Ctr Try.prog 129 [int x] F (fun v L' => v = .bool (decide (x ≠ 1)) ∧ L' = F) := by
  refine spec_body Try.func129 Try.ntmps129 rfl rfl ?_
  refine wc_seq ?_
  refine wc_region ?_
  refine wl_pu (y_assign rfl) rfl ?_
  refine wl_nil ?_
  refine at_then ?_
  refine wc_seq ?_
  refine wc_region ?_
  refine wl_pu (y_move rfl) rfl ?_
  refine wl_pu (y_neq rfl rfl) rfl ?_
  refine wl_pu (y_assign rfl) rfl ?_
  refine wl_nil ?_
  refine at_then ?_
  refine wc_ret ?_
  -- at: ret
  refine at_ret1 rfl rfl ?_
  exact ⟨rfl, rfl⟩

theorem index_spec (F : Hp) (b : Nat) (cs : List Value) (f : Nat → Int) (k : Nat) (hk : k ≤ 4) (hc : ∀ i, i < k → nth cs (7 + i) = some (int (f i))) :
    Ctr Try.prog 171 [sl b 7 k 4, .func (.func 129) #[] #[]] ((b, row 80 cs) :: F) (fun v L' => ∃ r : Int, v = int r ∧ (r ≥ 0 ↔ anyOut f k = true) ∧ L' = (b, row 80 cs) :: F) := by
  refine spec_body Try.func171 Try.ntmps171 rfl rfl ?_
  refine wc_seq ?_
  refine wc_region ?_
  refine wl_pu (y_assign rfl) rfl ?_
  refine wl_nil ?_
  refine at_then ?_
  refine wc_seq ?_
  refine wc_seq ?_
  refine wc_region ?_
  refine wl_pu (y_move rfl) rfl ?_
  refine wl_pu (y_lenL Try.underlying74 rfl) rfl ?_
  refine wl_pu (y_move rfl) rfl ?_
  refine wl_nil ?_
  refine at_then ?_
  refine wc_block ?_
  -- at: loop
  refine wc_loop (σ := Nat) (fun i => i ≤ k ∧ anyOut f i = false) (fun i => k - i) (fun i => [(0, sl b 7 k 4), (1, .func (.func 129) #[] #[]), (7, int k), (8, int (i : Int))]) (fun _ => (b, row 80 cs) :: F) 0 ⟨by omega, rfl⟩ ⟨rfl, rfl, rfl, rfl, trivial⟩ rfl ?_
  rintro i ⟨hi, ha⟩
  refine wc_seq ?_
  refine wc_region ?_
  refine wl_pu (y_lss rfl rfl) rfl ?_
  refine wl_nil ?_
  refine at_then ?_
  refine wc_seq ?_
  -- at: cond
  refine wc_condD rfl (fun hik => ?_) (fun hik => ?_)
  · skip
    refine wc_skip ?_
    refine at_then ?_
    refine wc_seq ?_
    refine wc_block ?_
    refine wc_seq ?_
    refine wc_region ?_
    refine wl_pu (y_move rfl) rfl ?_
    refine wl_pu (y_assign rfl) rfl ?_
    refine wl_nil ?_
    refine at_then ?_
    refine wc_seq ?_
    refine wc_region ?_
    refine wl_pu (y_move rfl) rfl ?_
    refine wl_pu (y_move rfl) rfl ?_
    refine wl_pu (y_move rfl) rfl ?_
    refine wl_pu (y_ix 1 Try.underlying74 (by kernel_rfl) rfl rfl (by omega)) rfl ?_
    refine wl_rd (y_load 0 rfl rfl (v := int (f i)) (by rw [Int.toNat_natCast, Nat.mul_one]; exact hc i (by omega)) (by kernel_rfl)) rfl ?_
    -- at: op (call {callee:(value t11), args:[t15], argTypes:[3]})
    refine wl_do (d_callv (by kernel_rfl) rfl rfl (ne1_spec _ _)) rfl ?_
    rintro _ _ ⟨rfl, rfl⟩
    refine wl_nil ?_
    refine at_then ?_
    -- at: cond
    refine wc_condD rfl (fun hne => ?_) (fun hne => ?_)
    · skip
      refine wc_seq ?_
      refine wc_region ?_
      refine wl_pu (y_move rfl) rfl ?_
      refine wl_pu (y_assign rfl) rfl ?_
      refine wl_nil ?_
      refine at_then ?_
      refine wc_ret ?_
      refine at_block_ret ?_
      refine at_then_ret ?_
      refine at_then_ret ?_
      refine at_block_ret ?_
      refine at_then_ret ?_
      -- at: ret
      refine at_ret1 rfl rfl ?_
      exact ⟨_, rfl, by simp only [anyOut_iff]; exact ⟨fun _ => ⟨i, by omega, hne⟩, fun _ => by omega⟩, rfl⟩
    · skip
      refine wc_skip ?_
      refine at_block_normal ?_
      refine at_then ?_
      refine wc_region ?_
      refine wl_pu (y_add rfl rfl (by omega)) rfl ?_
      refine wl_pu (y_move rfl) rfl ?_
      refine wl_nil ?_
      -- at: round
      exact at_again (i + 1) ⟨by omega, by simp only [anyOut, ha, Bool.false_or]; simpa using hne⟩ (by omega) ⟨rfl, rfl, rfl, rfl, trivial⟩ rfl
  · skip
    refine wc_exit ?_
    refine at_then_exit ?_
    refine at_then_exit ?_
    refine at_block_same ?_
    refine at_then ?_
    refine wc_seq ?_
    refine wc_region ?_
    refine wl_pu (y_assign rfl) rfl ?_
    refine wl_nil ?_
    refine at_then ?_
    refine wc_ret ?_
    -- at: ret
    refine at_ret1 rfl rfl ?_
    have : i = k := by omega
    subst this
    exact ⟨_, rfl, by rw [ha]; simp, rfl⟩

theorem contains_spec (F : Hp) (b : Nat) (cs : List Value) (f : Nat → Int) (k : Nat) (hk : k ≤ 4) (hc : ∀ i, i < k → nth cs (7 + i) = some (int (f i))) :
    Ctr Try.prog 128 [sl b 7 k 4, .func (.func 129) #[] #[]] ((b, row 80 cs) :: F) (fun v L' => v = .bool (anyOut f k) ∧ L' = (b, row 80 cs) :: F) := by
  refine spec_body Try.func128 Try.ntmps128 rfl rfl ?_
  refine wc_seq ?_
  refine wc_region ?_
  refine wl_pu (y_assign rfl) rfl ?_
  refine wl_nil ?_
  refine at_then ?_
  refine wc_seq ?_
  refine wc_region ?_
  refine wl_pu (y_move rfl) rfl ?_
  refine wl_pu (y_move rfl) rfl ?_
  -- at: op (call {callee:(value (func 171)), args:[t5, t6], argTypes:[74, 65]})
  refine wl_do (d_call (by kernel_rfl) rfl (index_spec F b cs f k hk hc)) rfl ?_
  rintro _ _ ⟨r, rfl, hr, rfl⟩
  refine wl_pu (y_geq rfl rfl) rfl ?_
  refine wl_pu (y_assign rfl) rfl ?_
  refine wl_nil ?_
  refine at_then ?_
  refine wc_ret ?_
  -- at: ret
  refine at_ret1 rfl rfl ?_
  refine ⟨?_, rfl⟩
  congr 1
  cases hb : anyOut f k
  · exact decide_eq_false (fun h => by rw [hr, hb] at h; cases h)
  · exact decide_eq_true (hr.2 hb)

/-- What a superblock weighs among votes, by what it says. -/
def votesOf (lv : List (List Int × Value)) (k : List Int) : Int := match (mget k lv).getD (int 0) with
  | .int _ c => c
  | _ => 0
def weighs (lv : List (List Int × Value)) (k : List Int) (o : Bool) : Int := if o then IntKind.i64.wrap (IntKind.i64.wrap (2 * votesOf lv k) + 1) else IntKind.i64.wrap (2 * votesOf lv k)
structure VOk (lv : List (List Int × Value)) : Prop where
  ok : MOk ok80 lv
  int : ∀ p ∈ lv, ∃ c : Int, p.2 = int c
theorem mget_mem {K : Type} [DecidableEq K] {k : K} {v : Value} : ∀ {l : List (K × Value)}, mget k l = some v → (k, v) ∈ l
  | [], h => by cases h
  | (a, u) :: r, h => by
    simp only [mget] at h
    by_cases e : k = a
    · rw [if_pos e] at h; simp at h; rw [e, h]; exact List.mem_cons_self
    · rw [if_neg e] at h; exact List.mem_cons_of_mem _ (mget_mem h)
theorem VOk.get {lv : List (List Int × Value)} (h : VOk lv) (k : List Int) : (mget k lv).getD (SL.int 0) = SL.int (votesOf lv k) := by
  unfold votesOf
  cases hm : mget k lv with
  | none => rfl
  | some v =>
    obtain ⟨c, hc⟩ := h.int _ (mget_mem hm)
    simp only [] at hc
    subst hc
    rfl
theorem mput_mem {K : Type} [DecidableEq K] {k : K} {v : Value} : ∀ {l : List (K × Value)}, ∀ p ∈ mput k v l, p.2 = v ∨ ∃ q ∈ l, q.2 = p.2
  | [], p, hp => by simp [mput] at hp; exact .inl (by rw [hp])
  | (a, u) :: r, p, hp => by
    simp only [mput] at hp
    by_cases e : k = a
    · rw [if_pos e] at hp
      rcases List.mem_cons.1 hp with rfl | hp
      · exact .inl rfl
      · exact .inr ⟨p, List.mem_cons_of_mem _ hp, rfl⟩
    · rw [if_neg e] at hp
      rcases List.mem_cons.1 hp with rfl | hp
      · exact .inr ⟨_, List.mem_cons_self, rfl⟩
      · rcases mput_mem p hp with h | ⟨q, hq, h⟩
        · exact .inl h
        · exact .inr ⟨q, List.mem_cons_of_mem _ hq, h⟩
theorem VOk.put {lv : List (List Int × Value)} (h : VOk lv) {k : List Int} (hk : ok80 k) (c : Int) : VOk (mput k (SL.int c) lv) :=
  ⟨h.ok.put hk, fun p hp => by
    rcases mput_mem p hp with h1 | ⟨q, hq, h1⟩
    · exact ⟨c, h1⟩
    · obtain ⟨c', hc'⟩ := h.int q hq
      exact ⟨c', h1.symm.trans hc'⟩⟩

theorem weight_spec (F : Hp) (m vb : Nat) (lv : List (List Int × Value)) (hv : VOk lv) (ar me lv' mb rw ev ep : Int) (f : Nat → Int) (hm : 0 ≤ mb ∧ mb ≤ 4) :
    Ctr Try.prog 127 [.agg ⟨spc ar me lv' mb rw ev ep f 0⟩, ptr m 0] ((m, row 224 [.map (some vb)]) :: (vb, mrow κ80 lv) :: F) (fun v L' => v = int (weighs lv (spk ar 0 lv' mb rw ev ep f 0) (anyOut f mb.toNat)) ∧ L' = (m, row 224 [.map (some vb)]) :: (vb, mrow κ80 lv) :: F) := by
  refine spec_body Try.func127 Try.ntmps127 rfl rfl ?_
  refine wc_seq ?_
  refine wc_region ?_
  refine wl_do (d_box rfl) rfl ?_
  rintro _ _ ⟨bNEW, rfl, rfl⟩
  refine wl_pu (y_assign rfl) rfl ?_
  refine wl_nil ?_
  refine at_then ?_
  refine wc_seq ?_
  -- at: draw
  apply wc_draw 6 (pl := [_, _, _, _, _, _]) (by kernel_rfl)
  rotate_left
  first | refine hw_rd (y_load 0 rfl rfl rfl (by kernel_rfl)) ?_ | refine hw_rd (y_load 1 rfl rfl rfl (by kernel_rfl)) ?_ | refine hw_rd (y_load 2 rfl rfl rfl (by kernel_rfl)) ?_ | refine hw_rd (y_load 3 rfl rfl rfl (by kernel_rfl)) ?_ | refine hw_rd (y_load 4 rfl rfl rfl (by kernel_rfl)) ?_ | refine hw_rd (y_load 5 rfl rfl rfl (by kernel_rfl)) ?_
  refine hw_rd (y_loadAgg (k := 12) (vs := spc ar me lv' mb rw ev ep f 0) 0 rfl rfl rfl rfl (by kernel_rfl) (by kernel_rfl)) ?_
  -- at: hw op (call {callee:(value (func 126)), args:[t6], argTypes:[80]})
  refine hw_call (by kernel_rfl) rfl ((fun F' => says_spec _ ar me lv' mb rw ev ep f)) ?_
  refine hw_rd (v := int (votesOf lv (spk ar 0 lv' mb rw ev ep f 0))) (hv.get (spk ar 0 lv' mb rw ev ep f 0) ▸ y_look (k := spk ar 0 lv' mb rw ev ep f 0) 2 key80 Try.underlying224 (zeroB_of (by kernel_rfl)) rfl hv.ok rfl rfl rfl) ?_
  refine hw_pu (y_mulW rfl rfl) ?_
  refine hw_pu (y_assign rfl) ?_
  refine hw_end [] rfl ?_
  case hB => kernel_rfl
  refine wl_nil ?_
  refine at_nq ?_
  refine at_then ?_
  refine wc_seq ?_
  refine wc_seq ?_
  refine wc_region ?_
  first | refine wl_pu (y_fieldAddr0 7 Try.underlying80 rfl rfl (by kernel_rfl) rfl) rfl ?_ | refine wl_pu (y_fieldAddr 7 Try.underlying80 rfl rfl (by kernel_rfl) rfl) rfl ?_
  first | refine wl_pu (y_fieldAddr0 2 Try.underlying80 rfl rfl (by kernel_rfl) rfl) rfl ?_ | refine wl_pu (y_fieldAddr 2 Try.underlying80 rfl rfl (by kernel_rfl) rfl) rfl ?_
  first | refine wl_pu (y_fieldAddr0 1 Try.underlying72 rfl rfl (by kernel_rfl) rfl) rfl ?_ | refine wl_pu (y_fieldAddr 1 Try.underlying72 rfl rfl (by kernel_rfl) rfl) rfl ?_
  first | refine wl_rd (y_load 0 rfl rfl rfl (by kernel_rfl)) rfl ?_ | refine wl_rd (y_load 1 rfl rfl rfl (by kernel_rfl)) rfl ?_ | refine wl_rd (y_load 2 rfl rfl rfl (by kernel_rfl)) rfl ?_ | refine wl_rd (y_load 3 rfl rfl rfl (by kernel_rfl)) rfl ?_ | refine wl_rd (y_load 4 rfl rfl rfl (by kernel_rfl)) rfl ?_ | refine wl_rd (y_load 5 rfl rfl rfl (by kernel_rfl)) rfl ?_
  -- at: op (slice 78 t10 none (some t13) none)
  refine wl_pu (y_toA 1 Try.underlying78 (by kernel_rfl) rfl rfl (by omega)) rfl ?_
  -- at: op (call {callee:(value (func 128)), args:[t14, (func 129)], argTypes:[74, 65]})
  refine wl_do (d_call (by kernel_rfl) rfl (contains_spec _ bNEW (spc ar me lv' mb rw ev ep f 0) f mb.toNat (by omega) (by intro i hi; rcases i with _|_|_|_|i <;> first | rfl | omega))) rfl ?_
  rintro _ _ ⟨rfl, rfl⟩
  refine wl_nil ?_
  refine at_then ?_
  -- at: cond
  refine wc_condB rfl (fun ho => ?_) (fun ho => ?_)
  · skip
    refine wc_region ?_
    refine wl_pu (y_move rfl) rfl ?_
    refine wl_pu (y_addW rfl rfl) rfl ?_
    refine wl_pu (y_assign rfl) rfl ?_
    refine wl_nil ?_
    refine at_then ?_
    refine wc_seq ?_
    refine wc_region ?_
    refine wl_pu (y_move rfl) rfl ?_
    refine wl_pu (y_assign rfl) rfl ?_
    refine wl_nil ?_
    refine at_then ?_
    refine wc_ret ?_
    -- at: ret
    refine at_drop ?_
    refine at_ret1 rfl rfl ?_
    exact ⟨by rw [ho]; rfl, rfl⟩
  · skip
    refine wc_skip ?_
    refine at_then ?_
    refine wc_seq ?_
    refine wc_region ?_
    refine wl_pu (y_move rfl) rfl ?_
    refine wl_pu (y_assign rfl) rfl ?_
    refine wl_nil ?_
    refine at_then ?_
    refine wc_ret ?_
    -- at: ret
    refine at_drop ?_
    refine at_ret1 rfl rfl ?_
    exact ⟨by rw [ho]; rfl, rfl⟩
end Go.Proofs.Ytkpndnjhfocheaa
