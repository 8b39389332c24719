/- What row.Reads and row.Value come to. -/
import Derived.Test.YtkpndnjhfocheaaRaidD
namespace Go.Proofs.Ytkpndnjhfocheaa
open Go.SL
variable {X : Inhabited SL.Outside}

theorem rkey : KeyT Try.prog 3 int i64ok := KeyT.int Try.underlying3
theorem y_rlook {P : Program} {n : Nat} {E : Env} {L : Hp} {ty T : TypeId} {x y : Operand} {K : Type} [DecidableEq K] {κ : K → Value} {ok : K → Prop} {kt e : TypeId} (i : Nat) {b : Nat} {l : List (K × Value)} {k : K} {u v : Value} (Ky : KeyT P kt κ ok) (ht : P.underlying T = some (.map kt e)) (hz : zeroB P e u) (hk : ok k) (hl : MOk ok l) (hx : ev E x = some (.map (some b))) (hy : ev E y = some (κ k)) (hL : nth L i = some (b, mrow κ l)) (hv : (mget k l).getD u = v) :
    Rd P n E L (.lookup T x y false) ty v := hv ▸ y_look i Ky ht hz hk hl hx hy hL

/-! a sequence of whole numbers, asked by a function -/
def Idx (xs : List Int) (p : Int → Bool) (i : Int) : Prop :=
  (i = -1 ∧ ∀ x ∈ xs, p x = false) ∨ (∃ q : Nat, i = q ∧ (∀ q' (h : q' < xs.length), q' < q → p xs[q'] = false) ∧ ∃ h : q < xs.length, p xs[q] = true)
theorem Idx.any {xs : List Int} {p : Int → Bool} {i : Int} (h : Idx xs p i) : decide (0 ≤ i) = xs.any p := by
  rcases h with ⟨rfl, hno⟩ | ⟨q, rfl, _, hq, hp⟩
  · rw [List.any_eq_false.2 (fun x hx => by simp [hno x hx])]; rfl
  · rw [decide_eq_true (by omega)]
    exact (List.any_eq_true.2 ⟨xs[q], List.getElem_mem hq, hp⟩).symm
theorem idxf_spec (F A : Hp) {gf : FuncId} {lb : List Value} {v : Value} {xs : List Int} {fr : Hp} (p : Int → Bool) (he : enters Try.prog gf = true) (hp : ∀ x ∈ xs, ∀ F', Ctr Try.prog gf (int x :: lb) (A ++ F') (fun u L' => u = .bool (p x) ∧ L' = A ++ F'))
    (hS : SlF 3 1 v xs.length (xs.map int) fr) (hn : xs.length ≤ 1000000) :
    Ctr Try.prog 171 [v, .func (.func gf) #[] ⟨lb⟩] (fr ++ (A ++ F)) (fun u L' => ∃ i : Int, u = int i ∧ Idx xs p i ∧ L' = fr ++ (A ++ F)) := by
  generalize hk : xs.length = k at hS
  generalize hc : xs.map int = cs at hS
  cases hS with
  | nil =>
    have hx : xs = [] := List.map_eq_nil_iff.1 hc
    subst hx
    refine spec_body Try.func171 Try.ntmps171 rfl rfl ?_
    refine wc_seq ?_
    refine wc_region ?_
    refine wl_pu (y_assign rfl) rfl ?_
    refine wl_nil ?_
    refine at_then ?_
    refine wc_seq ?_
    refine wc_seq ?_
    refine wc_region ?_
    refine wl_pu (y_move rfl) rfl ?_
    refine wl_pu (y_lenL Try.underlying74 rfl) rfl ?_
    refine wl_pu (y_move rfl) rfl ?_
    refine wl_nil ?_
    refine at_then ?_
    refine wc_block ?_
    -- at: loop
    refine wc_loop (σ := Unit) (fun i => True) (fun i => 0) (fun i => [(7, int ((0 : Nat) : Int)), (8, int 0)]) (fun i => A ++ F) () trivial ⟨rfl, rfl, trivial⟩ rfl ?_
    intro _ _
    show WC _ _ _ _ [(7, int ((0 : Nat) : Int)), (8, int 0)] _
    refine wc_seq ?_
    refine wc_region ?_
    refine wl_pu (y_lss rfl rfl) rfl ?_
    refine wl_nil ?_
    refine at_then ?_
    refine wc_seq ?_
    -- at: cond
    refine wc_condD rfl (fun hc => absurd hc ((by omega))) (fun _ => ?_)
    refine wc_exit ?_
    refine at_then_exit ?_
    refine at_then_exit ?_
    refine at_block_same ?_
    refine at_then ?_
    refine wc_seq ?_
    refine wc_region ?_
    refine wl_pu (y_assign rfl) rfl ?_
    refine wl_nil ?_
    refine at_then ?_
    refine wc_ret ?_
    -- at: ret
    refine at_ret1 rfl rfl ?_
    exact ⟨-1, rfl, .inl ⟨rfl, by simp⟩, rfl⟩
  | own b _ cap _ sp hx hcap hs =>
    subst hk
    subst hc
    refine spec_body Try.func171 Try.ntmps171 rfl rfl ?_
    refine wc_seq ?_
    refine wc_region ?_
    refine wl_pu (y_assign rfl) rfl ?_
    refine wl_nil ?_
    refine at_then ?_
    refine wc_seq ?_
    refine wc_seq ?_
    refine wc_region ?_
    refine wl_pu (y_move rfl) rfl ?_
    refine wl_pu (y_lenL Try.underlying74 rfl) rfl ?_
    refine wl_pu (y_move rfl) rfl ?_
    refine wl_nil ?_
    refine at_then ?_
    refine wc_block ?_
    -- at: loop
    refine wc_loop (σ := Nat) (fun i => i ≤ xs.length ∧ ∀ q (h : q < i), ∀ hq : q < xs.length, p xs[q] = false) (fun i => xs.length - i) (fun i => [(0, sl b 0 xs.length cap), (1, .func (.func gf) #[] ⟨lb⟩), (7, int (xs.length : Int)), (8, int (i : Int))]) (fun i => (b, row 3 (xs.map int ++ sp)) :: (A ++ F)) 0 ⟨by omega, fun q h => absurd h (by omega)⟩ ⟨rfl, rfl, rfl, rfl, trivial⟩ rfl ?_
    rintro i ⟨hi, hno⟩
    show WC _ _ _ _ [(0, sl b 0 xs.length cap), (1, .func (.func gf) #[] ⟨lb⟩), (7, int (xs.length : Int)), (8, int (i : Int))] _
    refine wc_seq ?_
    refine wc_region ?_
    refine wl_pu (y_lss rfl rfl) rfl ?_
    refine wl_nil ?_
    refine at_then ?_
    refine wc_seq ?_
    -- at: cond
    refine wc_condD rfl (fun h => ?_) (fun h => ?_)
    · skip
      have hi' : i < xs.length := by omega
      refine wc_skip ?_
      refine at_then ?_
      refine wc_seq ?_
      refine wc_block ?_
      refine wc_seq ?_
      refine wc_region ?_
      refine wl_pu (y_move rfl) rfl ?_
      refine wl_pu (y_assign rfl) rfl ?_
      refine wl_nil ?_
      refine at_then ?_
      refine wc_seq ?_
      refine wc_region ?_
      refine wl_pu (y_move rfl) rfl ?_
      refine wl_pu (y_move rfl) rfl ?_
      refine wl_pu (y_move rfl) rfl ?_
      first | refine wl_pu (y_ix1 Try.underlying74 (by kernel_rfl) rfl rfl (by omega)) rfl ?_ | refine wl_pu (y_ix 1 Try.underlying74 (by kernel_rfl) rfl rfl (by omega)) rfl ?_
      refine wl_rd (y_load 0 rfl rfl (v := int xs[i]) (by rw [Int.toNat_natCast]; exact ints_at hi') (by kernel_rfl)) rfl ?_
      refine wl_perm (L' := A ++ ((b, row 3 (xs.map int ++ sp)) :: F)) perm_mid.symm ?_
      refine wl_do (d_callv he rfl rfl (hp xs[i] (List.getElem_mem hi') _)) rfl ?_
      rintro _ L9 ⟨rfl, hL9⟩
      rw [hL9]
      clear hL9
      refine wl_perm (L' := (b, row 3 (xs.map int ++ sp)) :: (A ++ F)) perm_mid ?_
      refine wl_nil ?_
      refine at_then ?_
      -- at: cond
      refine wc_condB rfl (fun hb => ?_) (fun hb => ?_)
      · skip
        refine wc_seq ?_
        refine wc_region ?_
        refine wl_pu (y_move rfl) rfl ?_
        refine wl_pu (y_assign rfl) rfl ?_
        refine wl_nil ?_
        refine at_then ?_
        refine wc_ret ?_
        refine at_block_ret ?_
        refine at_then_ret ?_
        refine at_then_ret ?_
        refine at_block_ret ?_
        refine at_then_ret ?_
        -- at: ret
        refine at_ret1 rfl rfl ?_
        exact ⟨i, rfl, .inr ⟨i, rfl, fun q h' hq => hno q hq h', hi', hb⟩, rfl⟩
      · skip
        refine wc_skip ?_
        refine at_block_normal ?_
        refine at_then ?_
        refine wc_region ?_
        refine wl_pu (y_add rfl rfl (by omega)) rfl ?_
        refine wl_pu (y_move rfl) rfl ?_
        refine wl_nil ?_
        -- at: round
        refine at_again (i + 1) ⟨by omega, fun q hq hq' => ?_⟩ (by omega) ⟨rfl, rfl, rfl, rfl, trivial⟩ rfl
        rcases Nat.lt_succ_iff_lt_or_eq.1 hq with h' | rfl
        · exact hno q h' hq'
        · exact hb
    · skip
      refine wc_exit ?_
      refine at_then_exit ?_
      refine at_then_exit ?_
      refine at_block_same ?_
      refine at_then ?_
      refine wc_seq ?_
      refine wc_region ?_
      refine wl_pu (y_assign rfl) rfl ?_
      refine wl_nil ?_
      refine at_then ?_
      refine wc_ret ?_
      -- at: ret
      refine at_ret1 rfl rfl ?_
      refine ⟨-1, rfl, .inl ⟨rfl, fun x hx => ?_⟩, rfl⟩
      obtain ⟨q, hq, rfl⟩ := List.getElem_of_mem hx
      exact hno q (by omega) hq

theorem contf_spec (F A : Hp) {gf : FuncId} {lb : List Value} {v : Value} {xs : List Int} {fr : Hp} (p : Int → Bool) (he : enters Try.prog gf = true) (hp : ∀ x ∈ xs, ∀ F', Ctr Try.prog gf (int x :: lb) (A ++ F') (fun u L' => u = .bool (p x) ∧ L' = A ++ F'))
    (hS : SlF 3 1 v xs.length (xs.map int) fr) (hn : xs.length ≤ 1000000) :
    Ctr Try.prog 128 [v, .func (.func gf) #[] ⟨lb⟩] (fr ++ (A ++ F)) (fun u L' => u = .bool (xs.any p) ∧ L' = fr ++ (A ++ F)) := by
  refine spec_body Try.func128 Try.ntmps128 rfl rfl ?_
  refine wc_seq ?_
  refine wc_region ?_
  refine wl_pu (y_assign rfl) rfl ?_
  refine wl_nil ?_
  refine at_then ?_
  refine wc_seq ?_
  refine wc_region ?_
  refine wl_pu (y_move rfl) rfl ?_
  refine wl_pu (y_move rfl) rfl ?_
  -- at: op (call {callee:(value (func 171)), args:[t5, t6], argTypes:[74, 65]})
  refine wl_do (d_call (by kernel_rfl) rfl (idxf_spec F A p he hp hS hn)) rfl ?_
  rintro _ _ ⟨i, rfl, hi, rfl⟩
  refine wl_pu (y_geq rfl rfl) rfl ?_
  refine wl_pu (y_assign rfl) rfl ?_
  refine wl_nil ?_
  refine at_then ?_
  refine wc_ret ?_
  -- at: ret
  refine at_ret1 rfl rfl ?_
  exact ⟨by rw [← hi.any], rfl⟩

/-- Of each member of a list a map has a sector. -/
structure Got (l : List (Int × Value)) (xs : List Int) (g : Int → UInt8) : Prop where
  ok : MOk i64ok l
  at_ : ∀ m ∈ xs, mget m l = some (S (rep (g m)))
  in_ : ∀ m ∈ xs, 0 ≤ m ∧ m < 4

theorem has1_spec (F : Hp) (m b : Nat) (l : List (Int × Value)) (g : Int → UInt8) (xs : List Int) (h : Got l xs g) (x : Int) (hx : x ∈ xs) :
    Ctr Try.prog 173 [int x, ptr m 0] ([(m, row 102 [.map (some b)]), (b, mrow int l)] ++ F) (fun u L' => u = .bool false ∧ L' = [(m, row 102 [.map (some b)]), (b, mrow int l)] ++ F) := by
  have hin := h.in_ x hx
  refine spec_body Try.func173 Try.ntmps173 rfl rfl ?_
  refine wc_heap ((m, row 102 [.map (some b)]) :: (b, mrow int l) :: F) rfl ?_
  refine wc_seq ?_
  refine wc_region ?_
  refine wl_pu (y_assign rfl) rfl ?_
  refine wl_nil ?_
  refine at_then ?_
  refine wc_seq ?_
  refine wc_region ?_
  first | refine wl_rd (y_load 0 rfl rfl rfl (by kernel_rfl)) rfl ?_ | refine wl_rd (y_load 1 rfl rfl rfl (by kernel_rfl)) rfl ?_ | refine wl_rd (y_load 2 rfl rfl rfl (by kernel_rfl)) rfl ?_ | refine wl_rd (y_load 3 rfl rfl rfl (by kernel_rfl)) rfl ?_ | refine wl_rd (y_load 4 rfl rfl rfl (by kernel_rfl)) rfl ?_ | refine wl_rd (y_load 5 rfl rfl rfl (by kernel_rfl)) rfl ?_
  refine wl_pu (y_move rfl) rfl ?_
  -- at: op (lookup 102 t4 t5 false)
  refine wl_rd (y_rlook (u := S []) (v := S (rep (g x))) (k := x) (l := l) 1 rkey Try.underlying102 (zeroB_of (by kernel_rfl)) ⟨by omega, by omega⟩ h.ok rfl rfl rfl (by rw [h.at_ x hx]; rfl)) rfl ?_
  refine wl_do (d_call (by kernel_rfl) rfl (is_spec _ (g x))) rfl ?_
  rintro _ _ ⟨rfl, rfl⟩
  first | refine wl_pu (y_notT rfl) rfl ?_ | refine wl_pu (y_notF rfl) rfl ?_ | refine wl_pu (y_not rfl) rfl ?_ | refine wl_pu (y_notB rfl) rfl ?_
  refine wl_pu (y_assign rfl) rfl ?_
  refine wl_nil ?_
  refine at_then ?_
  refine wc_ret ?_
  -- at: ret
  refine at_ret1 rfl rfl ?_
  exact ⟨rfl, rfl⟩

theorem has_spec (F : Hp) {v : Value} {xs : List Int} {fr : Hp} {b : Nat} {l : List (Int × Value)} {g : Int → UInt8} (h : Got l xs g) (hS : SlF 3 1 v xs.length (xs.map int) fr) (hn : xs.length ≤ 1000000) :
    Ctr Try.prog 133 [.map (some b), v] (fr ++ ((b, mrow int l) :: F)) (fun u L' => u = .bool true ∧ L' = fr ++ ((b, mrow int l) :: F)) := by
  refine spec_body Try.func133 Try.ntmps133 rfl rfl ?_
  refine wc_seq ?_
  refine wc_region ?_
  refine wl_do (d_box rfl) rfl ?_
  rintro _ _ ⟨bNEW, rfl, rfl⟩
  refine wl_pu (y_assign rfl) rfl ?_
  refine wl_nil ?_
  refine at_then ?_
  refine wc_seq ?_
  refine wc_region ?_
  refine wl_pu (y_move rfl) rfl ?_
  refine wl_pu (y_makeFunc1 rfl) rfl ?_
  -- at: op (call {callee:(value (func 128)), args:[t5, t6], argTypes:[74, 65]})
  refine wl_perm (L' := fr ++ ([(bNEW, row 102 [.map (some b)]), (b, mrow int l)] ++ F)) perm_mid.symm ?_
  refine wl_do (d_call (by kernel_rfl) rfl (contf_spec F [(bNEW, row 102 [.map (some b)]), (b, mrow int l)] (fun _ => false) (by kernel_rfl) (fun x hx F' => has1_spec F' bNEW b l g xs h x hx) hS hn)) rfl ?_
  rintro _ L9 ⟨rfl, hL9⟩
  rw [hL9]
  clear hL9
  refine wl_perm (L' := (bNEW, row 102 [.map (some b)]) :: (fr ++ ((b, mrow int l) :: F))) perm_mid ?_
  rw [show (xs.any fun _ => false) = false by simp]
  first | refine wl_pu (y_notT rfl) rfl ?_ | refine wl_pu (y_notF rfl) rfl ?_ | refine wl_pu (y_not rfl) rfl ?_ | refine wl_pu (y_notB rfl) rfl ?_
  refine wl_pu (y_assign rfl) rfl ?_
  refine wl_nil ?_
  refine at_then ?_
  refine wc_ret ?_
  -- at: ret
  refine at_drop ?_
  refine at_ret1 rfl rfl ?_
  exact ⟨rfl, rfl⟩

theorem built9 (l : List UInt8) : builtS Try.prog 9 1 [(0, S l)] = some ⟨[S l]⟩ := by kernel_rfl

theorem sectors_spec (F : Hp) {v : Value} {xs : List Int} {fr : Hp} {b : Nat} {l : List (Int × Value)} {g : Int → UInt8} (h : Got l xs g) (hS : SlF 3 1 v xs.length (xs.map int) fr) (hn : xs.length ≤ 1000000) :
    Ctr Try.prog 135 [.map (some b), v] (fr ++ ((b, mrow int l) :: F)) (fun u L' => ∃ fs, SlF 9 1 u (xs.map g).length (secs (xs.map g)) fs ∧ L' = fs ++ (fr ++ ((b, mrow int l) :: F))) := by
  generalize hk : xs.length = k at hS
  generalize hc : xs.map int = cs at hS
  cases hS with
  | nil =>
    have hx : xs = [] := List.map_eq_nil_iff.1 hc
    subst hx
    refine spec_body Try.func135 Try.ntmps135 rfl rfl ?_
    refine wc_seq ?_
    refine wc_region ?_
    refine wl_pu (y_assign rfl) rfl ?_
    refine wl_nil ?_
    refine at_then ?_
    refine wc_seq ?_
    refine wc_region ?_
    refine wl_pu (y_assign rfl) rfl ?_
    refine wl_nil ?_
    refine at_then ?_
    refine wc_seq ?_
    refine wc_seq ?_
    refine wc_region ?_
    refine wl_pu (y_move rfl) rfl ?_
    refine wl_pu (y_lenL Try.underlying74 rfl) rfl ?_
    refine wl_pu (y_move rfl) rfl ?_
    refine wl_nil ?_
    refine at_then ?_
    refine wc_block ?_
    -- at: loop
    refine wc_loop (σ := Unit) (fun i => True) (fun i => 0) (fun i => [(5, .slice none 0 0), (9, int ((0 : Nat) : Int)), (10, int 0)]) (fun i => (b, mrow int l) :: F) () trivial ⟨rfl, rfl, rfl, trivial⟩ rfl ?_
    intro _ _
    show WC _ _ _ _ [(5, .slice none 0 0), (9, int ((0 : Nat) : Int)), (10, int 0)] _
    refine wc_seq ?_
    refine wc_region ?_
    refine wl_pu (y_lss rfl rfl) rfl ?_
    refine wl_nil ?_
    refine at_then ?_
    refine wc_seq ?_
    -- at: cond
    refine wc_condD rfl (fun hc => absurd hc ((by omega))) (fun _ => ?_)
    refine wc_exit ?_
    refine at_then_exit ?_
    refine at_then_exit ?_
    refine at_block_same ?_
    refine at_then ?_
    refine wc_seq ?_
    refine wc_region ?_
    refine wl_pu (y_move rfl) rfl ?_
    refine wl_pu (y_assign rfl) rfl ?_
    refine wl_nil ?_
    refine at_then ?_
    refine wc_ret ?_
    -- at: ret
    refine at_ret1 rfl rfl ?_
    exact ⟨[], .nil, rfl⟩
  | own bx _ cap _ sp hx hcap hs =>
    subst hk
    subst hc
    refine spec_body Try.func135 Try.ntmps135 rfl rfl ?_
    refine wc_seq ?_
    refine wc_region ?_
    refine wl_pu (y_assign rfl) rfl ?_
    refine wl_nil ?_
    refine at_then ?_
    refine wc_seq ?_
    refine wc_region ?_
    refine wl_pu (y_assign rfl) rfl ?_
    refine wl_nil ?_
    refine at_then ?_
    refine wc_seq ?_
    refine wc_seq ?_
    refine wc_region ?_
    refine wl_pu (y_move rfl) rfl ?_
    refine wl_pu (y_lenL Try.underlying74 rfl) rfl ?_
    refine wl_pu (y_move rfl) rfl ?_
    refine wl_nil ?_
    refine at_then ?_
    refine wc_block ?_
    -- at: loop
    refine wc_loop (σ := Nat × Value × Hp) (fun s => s.1 ≤ xs.length ∧ SlF 9 1 s.2.1 s.1 (secs ((xs.take s.1).map g)) s.2.2) (fun s => xs.length - s.1)
      (fun s => [(0, .map (some b)), (5, s.2.1), (8, sl bx 0 xs.length cap), (9, int (xs.length : Int)), (10, int (s.1 : Int))]) (fun s => (bx, row 3 (xs.map int ++ sp)) :: (b, mrow int l) :: (s.2.2 ++ F)) (0, .slice none 0 0, []) ⟨by omega, .nil⟩ ⟨rfl, rfl, rfl, rfl, rfl, trivial⟩ rfl ?_
    rintro ⟨i, u, fs⟩ ⟨hi, hU⟩
    simp only [] at hi hU
    show WC _ _ _ _ [(0, .map (some b)), (5, u), (8, sl bx 0 xs.length cap), (9, int (xs.length : Int)), (10, int (i : Int))] ((bx, row 3 (xs.map int ++ sp)) :: (b, mrow int l) :: (fs ++ F))
    refine wc_seq ?_
    refine wc_region ?_
    refine wl_pu (y_lss rfl rfl) rfl ?_
    refine wl_nil ?_
    refine at_then ?_
    refine wc_seq ?_
    -- at: cond
    refine wc_condD rfl (fun h0 => ?_) (fun h0 => ?_)
    · skip
      have hi' : i < xs.length := by omega
      have hmem : xs[i] ∈ xs := List.getElem_mem hi'
      refine wc_skip ?_
      refine at_then ?_
      refine wc_seq ?_
      refine wc_block ?_
      refine wc_seq ?_
      refine wc_region ?_
      first | refine wl_pu (y_ix1 Try.underlying74 (by kernel_rfl) rfl rfl (by omega)) rfl ?_ | refine wl_pu (y_ix 1 Try.underlying74 (by kernel_rfl) rfl rfl (by omega)) rfl ?_
      refine wl_rd (y_load 0 rfl rfl (v := int xs[i]) (by rw [Int.toNat_natCast]; exact ints_at hi') (by kernel_rfl)) rfl ?_
      refine wl_pu (y_assign rfl) rfl ?_
      refine wl_nil ?_
      refine at_then ?_
      refine wc_region ?_
      refine wl_pu (y_move rfl) rfl ?_
      refine wl_pu (y_move rfl) rfl ?_
      refine wl_pu (y_move rfl) rfl ?_
      -- at: op (lookup 102 t15 t16 false)
      refine wl_rd (y_rlook (u := S []) (v := S (rep (g xs[i]))) (k := xs[i]) (l := l) 1 rkey Try.underlying102 (zeroB_of (by kernel_rfl)) ⟨by have := h.in_ _ hmem; omega, by have := h.in_ _ hmem; omega⟩ h.ok rfl rfl rfl (by rw [h.at_ _ hmem]; rfl)) rfl ?_
      refine wl_do (d_buildSlice [S (rep (g xs[i]))] Try.underlying36 rfl (built9 _)) rfl ?_
      rintro _ _ ⟨b1, rfl, rfl⟩
      refine wl_perm (L' := fs ++ ((b1, row 9 [S (rep (g xs[i]))]) :: (bx, row 3 (xs.map int ++ sp)) :: (b, mrow int l) :: F)) ((((List.Perm.cons _ (List.Perm.cons _ perm_mid.symm)).trans (List.Perm.cons _ perm_mid.symm)).trans perm_mid.symm)) ?_
      refine wl_do (d_append (sz := 1) (bytes := 16) (L0 := (b1, row 9 [S (rep (g xs[i]))]) :: (bx, row 3 (xs.map int ++ sp)) :: (b, mrow int l) :: F) 0 (S []) Try.underlying36 (by kernel_rfl) rfl rfl rfl hU rfl rfl (news := [S (rep (g xs[i]))]) rfl rfl rfl (by omega) (by omega)) rfl ?_
      rintro u' _ ⟨fs', hU', rfl⟩
      refine wl_perm (L' := (b1, row 9 [S (rep (g xs[i]))]) :: (bx, row 3 (xs.map int ++ sp)) :: (b, mrow int l) :: (fs' ++ F)) (perm_mid.trans (List.Perm.cons _ (perm_mid.trans (List.Perm.cons _ perm_mid)))) ?_
      refine wl_drop ?_
      refine wl_pu (y_assign rfl) rfl ?_
      refine wl_nil ?_
      refine at_block_normal ?_
      refine at_then ?_
      refine wc_region ?_
      refine wl_pu (y_add rfl rfl (by omega)) rfl ?_
      refine wl_pu (y_move rfl) rfl ?_
      refine wl_nil ?_
      -- at: round
      exact at_again (i + 1, u', fs') ⟨by show i + 1 ≤ xs.length; omega, by show SlF 9 1 u' (i + 1) (secs ((xs.take (i + 1)).map g)) fs'; rw [List.take_succ_eq_append_getElem hi', List.map_append, secs, List.map_append]; exact hU'⟩ (by show xs.length - (i + 1) < xs.length - i; omega) ⟨rfl, rfl, rfl, rfl, rfl, trivial⟩ rfl
    · skip
      have hil : i = xs.length := by omega
      subst hil
      refine wc_exit ?_
      refine at_then_exit ?_
      refine at_then_exit ?_
      refine at_block_same ?_
      refine at_then ?_
      refine wc_seq ?_
      refine wc_region ?_
      refine wl_pu (y_move rfl) rfl ?_
      refine wl_pu (y_assign rfl) rfl ?_
      refine wl_nil ?_
      refine at_then ?_
      refine wc_ret ?_
      -- at: ret
      refine at_perm (L' := fs ++ ((bx, row 3 (xs.map int ++ sp)) :: (b, mrow int l) :: F)) ((List.Perm.cons _ perm_mid.symm).trans perm_mid.symm) ?_
      refine at_ret1 rfl rfl ?_
      rw [List.take_length] at hU
      exact ⟨fs, by rw [List.length_map]; exact hU, rfl⟩

/-! the members that are in -/
abbrev ins (f : Int → Bool) : List Value := [.bool (f 0), .bool (f 1), .bool (f 2), .bool (f 3)]
theorem ins_nth (f : Int → Bool) {m : Int} (h : 0 ≤ m ∧ m < 4) : nth (ins f) (0 + m.toNat * 1) = some (.bool (f m)) := by
  have : m = 0 ∨ m = 1 ∨ m = 2 ∨ m = 3 := by omega
  rcases this with rfl | rfl | rfl | rfl <;> rfl
/-- One is out at most. -/
def OneOut (n : Nat) (f : Int → Bool) : Prop := ∀ a b : Int, 0 ≤ a → a < n → 0 ≤ b → b < n → f a = false → f b = false → a = b

section
variable {lv rw : Int} {n : Nat}
theorem may_spec (F : Hp) (h : GOk lv n rw) (f : Int → Bool) (ho : OneOut n f) (r : Int) (hr : 0 ≤ r ∧ r < rw) :
    Ctr Try.prog 132 [.agg ⟨geo lv n rw⟩, int r, .agg ⟨ins f⟩] F (fun v L' => v = int 0 ∧ L' = F) := by
  have hn := h.mem3
  refine spec_body Try.func132 Try.ntmps132 rfl rfl ?_
  refine wc_seq ?_
  refine wc_region ?_
  refine wl_do (d_box rfl) rfl ?_
  rintro _ _ ⟨bNEW, rfl, rfl⟩
  refine wl_do (d_box rfl) rfl ?_
  rintro _ _ ⟨bNEW2, rfl, rfl⟩
  refine wl_pu (y_assign rfl) rfl ?_
  refine wl_nil ?_
  refine at_then ?_
  refine wc_seq ?_
  refine wc_seq ?_
  refine wc_region ?_
  refine wl_heap ((bNEW2, row 84 (ins f)) :: (bNEW, row 72 (geo lv n rw)) :: F) rfl ?_
  refine wl_rd (y_loadAgg (k := 3) (vs := geo lv n rw) 1 rfl rfl rfl rfl (by kernel_rfl) (by kernel_rfl)) rfl ?_
  refine wl_pu (y_move rfl) rfl ?_
  -- at: op (call {callee:(value (func 137)), args:[t12, t13], argTypes:[72, 3]})
  refine wl_do (d_call (by kernel_rfl) rfl (parity_spec _ h r hr)) rfl ?_
  rintro _ _ ⟨rfl, rfl⟩
  refine wl_pu (y_move rfl) rfl ?_
  refine wl_pu (y_extract rfl rfl) rfl ?_
  refine wl_pu (y_extract rfl rfl) rfl ?_
  refine wl_pu (y_assign rfl) rfl ?_
  refine wl_pu (y_assign rfl) rfl ?_
  refine wl_nil ?_
  refine at_then ?_
  refine wc_seq ?_
  refine wc_region ?_
  refine wl_pu (y_move rfl) rfl ?_
  first | refine wl_pu (y_notT rfl) rfl ?_ | refine wl_pu (y_notF rfl) rfl ?_ | refine wl_pu (y_not rfl) rfl ?_ | refine wl_pu (y_notB rfl) rfl ?_
  refine wl_nil ?_
  refine at_then ?_
  -- at: cond
  refine wc_condF rfl ?_
  refine wc_skip ?_
  refine at_then ?_
  refine wc_seq ?_
  refine wc_region ?_
  refine wl_pu (y_assign rfl) rfl ?_
  refine wl_nil ?_
  refine at_then ?_
  refine wc_seq ?_
  refine wc_seq ?_
  refine wc_region ?_
  first | refine wl_pu (y_fieldAddr0 1 Try.underlying72 rfl rfl (by kernel_rfl) rfl) rfl ?_ | refine wl_pu (y_fieldAddr 1 Try.underlying72 rfl rfl (by kernel_rfl) rfl) rfl ?_
  first | refine wl_rd (y_load 0 rfl rfl rfl (by kernel_rfl)) rfl ?_ | refine wl_rd (y_load 1 rfl rfl rfl (by kernel_rfl)) rfl ?_ | refine wl_rd (y_load 2 rfl rfl rfl (by kernel_rfl)) rfl ?_ | refine wl_rd (y_load 3 rfl rfl rfl (by kernel_rfl)) rfl ?_ | refine wl_rd (y_load 4 rfl rfl rfl (by kernel_rfl)) rfl ?_ | refine wl_rd (y_load 5 rfl rfl rfl (by kernel_rfl)) rfl ?_
  refine wl_pu (y_move rfl) rfl ?_
  refine wl_nil ?_
  refine at_then ?_
  refine wc_block ?_
  -- at: loop
  refine wc_loop (σ := Nat × Nat) (fun s => s.1 ≤ n ∧ ((s.2 = 0 ∧ ∀ q : Nat, q < s.1 → f q = true) ∨ (s.2 = 1 ∧ ∃ q : Nat, q < s.1 ∧ f q = false))) (fun s => n - s.1)
    (fun s => [(5, ptr bNEW2 0), (9, int (s.2 : Int)), (20, int n), (21, int (s.1 : Int))]) (fun s => (bNEW2, row 84 (ins f)) :: (bNEW, row 72 (geo lv n rw)) :: F) (0, 0) ⟨by omega, .inl ⟨rfl, fun q hq => absurd hq (by omega)⟩⟩ ⟨rfl, rfl, rfl, rfl, trivial⟩ rfl ?_
  rintro ⟨i, c⟩ ⟨hi, hc⟩
  simp only [] at hi hc
  show WC _ _ _ _ [(5, ptr bNEW2 0), (9, int (c : Int)), (20, int n), (21, int (i : Int))] _
  refine wc_seq ?_
  refine wc_region ?_
  refine wl_pu (y_lss rfl rfl) rfl ?_
  refine wl_nil ?_
  refine at_then ?_
  refine wc_seq ?_
  -- at: cond
  refine wc_condD rfl (fun h0 => ?_) (fun h0 => ?_)
  · skip
    have hi' : i < n := by omega
    refine wc_skip ?_
    refine at_then ?_
    refine wc_seq ?_
    refine wc_block ?_
    refine wc_seq ?_
    refine wc_region ?_
    refine wl_pu (y_move rfl) rfl ?_
    refine wl_pu (y_assign rfl) rfl ?_
    refine wl_nil ?_
    refine at_then ?_
    refine wc_seq ?_
    refine wc_region ?_
    refine wl_pu (y_move rfl) rfl ?_
    refine wl_pu (y_ixA 1 Try.underlying84 (by kernel_rfl) rfl rfl (by omega)) rfl ?_
    refine wl_rd (y_load 0 rfl rfl (v := .bool (f i)) (ins_nth f (by omega)) (by kernel_rfl)) rfl ?_
    first | refine wl_pu (y_notT rfl) rfl ?_ | refine wl_pu (y_notF rfl) rfl ?_ | refine wl_pu (y_not rfl) rfl ?_ | refine wl_pu (y_notB rfl) rfl ?_
    refine wl_nil ?_
    refine at_then ?_
    -- at: cond
    refine wc_condB rfl (fun hb => ?_) (fun hb => ?_)
    · skip
      have hb' : f i = false := by simpa using hb
      refine wc_region ?_
      refine wl_pu (y_move rfl) rfl ?_
      refine wl_pu (y_add rfl rfl (by omega)) rfl ?_
      refine wl_pu (y_assign rfl) rfl ?_
      refine wl_nil ?_
      refine at_block_normal ?_
      refine at_then ?_
      refine wc_region ?_
      refine wl_pu (y_add rfl rfl (by omega)) rfl ?_
      refine wl_pu (y_move rfl) rfl ?_
      refine wl_nil ?_
      -- at: round
      refine at_again (i + 1, 1) ⟨by show i + 1 ≤ n; omega, .inr ⟨rfl, i, by show i < i + 1; omega, hb'⟩⟩ (by show n - (i + 1) < n - i; omega) ⟨rfl, ?_, rfl, rfl, trivial⟩ rfl
      rcases hc with ⟨rfl, _⟩ | ⟨_, q, hq, hqf⟩
      · rfl
      · have := ho i q (by omega) (by omega) (by omega) (by omega) hb' hqf
        omega
    · skip
      have hb' : f i = true := by simpa using hb
      refine wc_skip ?_
      refine at_block_normal ?_
      refine at_then ?_
      refine wc_region ?_
      refine wl_pu (y_add rfl rfl (by omega)) rfl ?_
      refine wl_pu (y_move rfl) rfl ?_
      refine wl_nil ?_
      -- at: round
      refine at_again (i + 1, c) ⟨by show i + 1 ≤ n; omega, ?_⟩ (by show n - (i + 1) < n - i; omega) ⟨rfl, rfl, rfl, rfl, trivial⟩ rfl
      rcases hc with ⟨hc0, hq⟩ | ⟨hc1, q, hq, hqf⟩
      · refine .inl ⟨hc0, fun q hq' => ?_⟩
        rcases Nat.lt_succ_iff_lt_or_eq.1 hq' with h' | rfl
        · exact hq q h'
        · exact hb'
      · exact .inr ⟨hc1, q, by show q < i + 1; omega, hqf⟩
  · skip
    refine wc_exit ?_
    refine at_then_exit ?_
    refine at_then_exit ?_
    refine at_block_same ?_
    refine at_then ?_
    refine wc_seq ?_
    refine wc_seq ?_
    refine wc_region ?_
    refine wl_pu (y_move rfl) rfl ?_
    refine wl_pu (y_gtr rfl rfl) rfl ?_
    refine wl_nil ?_
    refine at_then ?_
    -- at: cond
    refine wc_condD rfl (fun hc => absurd hc ((by omega))) (fun _ => ?_)
    refine wc_skip ?_
    refine at_then ?_
    refine wc_seq ?_
    refine wc_region ?_
    refine wl_pu (y_assign rfl) rfl ?_
    refine wl_nil ?_
    refine at_then ?_
    refine wc_ret ?_
    -- at: ret
    refine at_drop (at_drop ?_)
    refine at_ret1 rfl rfl ?_
    exact ⟨rfl, rfl⟩

/-- Whom a read of a member's sector reads. -/
def rds (n : Nat) (f : Int → Bool) (m : Int) : List Int := if f m = true then [m] else ((List.range n).map fun q : Nat => (q : Int)).filter (· ≠ m)
theorem rds_in {n : Nat} {f : Int → Bool} {m : Int} (hm : 0 ≤ m ∧ m < n) : ∀ x ∈ rds n f m, 0 ≤ x ∧ x < n := fun x hx => by
  unfold rds at hx
  split at hx
  · simp only [List.mem_singleton] at hx; omega
  · obtain ⟨hx, _⟩ := List.mem_filter.1 hx
    obtain ⟨q, hq, rfl⟩ := List.mem_map.1 hx
    have := List.mem_range.1 hq
    omega
theorem rds_len {n : Nat} {f : Int → Bool} {m : Int} (hn : 2 ≤ n ∧ n ≤ 4) : (rds n f m).length ≤ 4 := by
  unfold rds
  split
  · simp
  · refine Nat.le_trans (List.length_filter_le _ _) ?_
    simp; omega

theorem reads_spec (F : Hp) (h : GOk lv n rw) (f : Int → Bool) (ho : OneOut n f) (r : Int) (hr : 0 ≤ r ∧ r < rw) (m : Int) (hm : 0 ≤ m ∧ m < n) :
    Ctr Try.prog 87 [.agg ⟨geo lv n rw⟩, int r, .agg ⟨ins f⟩, int m] F (fun v L' => ∃ u fr, v = .tuple #[u, int 0] ∧ SlF 3 1 u (rds n f m).length ((rds n f m).map int) fr ∧ L' = fr ++ F) := by
  have hn := h.mem3
  refine spec_body Try.func87 Try.ntmps87 rfl rfl ?_
  refine wc_seq ?_
  refine wc_region ?_
  refine wl_do (d_box rfl) rfl ?_
  rintro _ _ ⟨bNEW, rfl, rfl⟩
  refine wl_do (d_box rfl) rfl ?_
  rintro _ _ ⟨bNEW2, rfl, rfl⟩
  refine wl_pu (y_assign rfl) rfl ?_
  refine wl_pu (y_assign rfl) rfl ?_
  refine wl_nil ?_
  refine at_then ?_
  refine wc_seq ?_
  refine wc_seq ?_
  refine wc_region ?_
  refine wl_heap ((bNEW2, row 84 (ins f)) :: (bNEW, row 72 (geo lv n rw)) :: F) rfl ?_
  refine wl_rd (y_loadAgg (k := 3) (vs := geo lv n rw) 1 rfl rfl rfl rfl (by kernel_rfl) (by kernel_rfl)) rfl ?_
  refine wl_pu (y_move rfl) rfl ?_
  refine wl_rd (y_loadAgg (k := 4) (vs := ins f) 0 rfl rfl rfl rfl (by kernel_rfl) (by kernel_rfl)) rfl ?_
  refine wl_do (d_call (by kernel_rfl) rfl (may_spec _ h f ho r hr)) rfl ?_
  rintro _ _ ⟨rfl, rfl⟩
  refine wl_pu (y_assign rfl) rfl ?_
  refine wl_nil ?_
  refine at_then ?_
  refine wc_seq ?_
  refine wc_region ?_
  refine wl_pu (y_move rfl) rfl ?_
  refine wl_pu (y_neq rfl rfl) rfl ?_
  refine wl_nil ?_
  refine at_then ?_
  -- at: cond
  refine wc_condD rfl (fun hc => absurd hc ((by omega))) (fun _ => ?_)
  refine wc_skip ?_
  refine at_then ?_
  refine wc_seq ?_
  refine wc_seq ?_
  refine wc_region ?_
  refine wl_pu (y_move rfl) rfl ?_
  refine wl_pu (y_lss rfl rfl) rfl ?_
  refine wl_pu (y_move rfl) rfl ?_
  -- at: guard 2
  refine wl_splitD 22 rfl (fun hc => absurd hc ((by omega))) (fun _ => ?_)
  refine wl_gon rfl rfl ?_
  refine wl_pu (y_move rfl) rfl ?_
  refine wl_gon rfl rfl ?_
  first | refine wl_pu (y_fieldAddr0 1 Try.underlying72 rfl rfl (by kernel_rfl) rfl) rfl ?_ | refine wl_pu (y_fieldAddr 1 Try.underlying72 rfl rfl (by kernel_rfl) rfl) rfl ?_
  refine wl_gon rfl rfl ?_
  first | refine wl_rd (y_load 0 rfl rfl rfl (by kernel_rfl)) rfl ?_ | refine wl_rd (y_load 1 rfl rfl rfl (by kernel_rfl)) rfl ?_ | refine wl_rd (y_load 2 rfl rfl rfl (by kernel_rfl)) rfl ?_ | refine wl_rd (y_load 3 rfl rfl rfl (by kernel_rfl)) rfl ?_ | refine wl_rd (y_load 4 rfl rfl rfl (by kernel_rfl)) rfl ?_ | refine wl_rd (y_load 5 rfl rfl rfl (by kernel_rfl)) rfl ?_
  refine wl_gon rfl rfl ?_
  refine wl_pu (y_geq rfl rfl) rfl ?_
  first | refine wl_pu (y_pickT rfl rfl) rfl ?_ | refine wl_pu (y_pickF rfl rfl) rfl ?_
  refine wl_nil ?_
  refine at_then ?_
  -- at: cond
  refine wc_condD rfl (fun hc => absurd hc ((by omega))) (fun _ => ?_)
  refine wc_skip ?_
  refine at_then ?_
  refine wc_seq ?_
  refine wc_seq ?_
  refine wc_region ?_
  refine wl_pu (y_move rfl) rfl ?_
  refine wl_pu (y_ixA 1 Try.underlying84 (by kernel_rfl) rfl rfl (by omega)) rfl ?_
  refine wl_rd (y_load 0 rfl rfl (v := .bool (f m)) (ins_nth f (by omega)) (by kernel_rfl)) rfl ?_
  refine wl_nil ?_
  refine at_then ?_
  -- at: cond
  refine wc_condB rfl (fun hb => ?_) (fun hb => ?_)
  · skip
    refine wc_seq ?_
    refine wc_region ?_
    refine wl_pu (y_move rfl) rfl ?_
    -- at: op (buildSlice 74 1 [(0, t31)])
    refine wl_do (d_buildSlice [int m] Try.underlying74 rfl (built1 rfl)) rfl ?_
    rintro _ _ ⟨b1, rfl, rfl⟩
    refine wl_pu (y_assign rfl) rfl ?_
    refine wl_pu (y_assign rfl) rfl ?_
    refine wl_nil ?_
    refine at_then ?_
    refine wc_ret ?_
    refine at_then_ret ?_
    -- at: ret
    refine at_perm (L' := (bNEW2, row 84 (ins f)) :: (bNEW, row 72 (geo lv n rw)) :: (b1, row 3 [int m]) :: F) Go.SL.p2.symm ?_
    refine at_drop (at_drop ?_)
    refine at_ret2 rfl rfl rfl ?_
    refine ⟨_, _, rfl, ?_, (List.singleton_append).symm⟩
    rw [rds, if_pos hb]
    exact .own b1 1 1 _ [] rfl (Nat.le_refl _) rfl
  · skip
    refine wc_skip ?_
    refine at_then ?_
    refine wc_seq ?_
    refine wc_region ?_
    refine wl_pu (y_assign rfl) rfl ?_
    refine wl_nil ?_
    refine at_then ?_
    refine wc_seq ?_
    refine wc_seq ?_
    refine wc_region ?_
    first | refine wl_pu (y_fieldAddr0 1 Try.underlying72 rfl rfl (by kernel_rfl) rfl) rfl ?_ | refine wl_pu (y_fieldAddr 1 Try.underlying72 rfl rfl (by kernel_rfl) rfl) rfl ?_
    first | refine wl_rd (y_load 0 rfl rfl rfl (by kernel_rfl)) rfl ?_ | refine wl_rd (y_load 1 rfl rfl rfl (by kernel_rfl)) rfl ?_ | refine wl_rd (y_load 2 rfl rfl rfl (by kernel_rfl)) rfl ?_ | refine wl_rd (y_load 3 rfl rfl rfl (by kernel_rfl)) rfl ?_ | refine wl_rd (y_load 4 rfl rfl rfl (by kernel_rfl)) rfl ?_ | refine wl_rd (y_load 5 rfl rfl rfl (by kernel_rfl)) rfl ?_
    refine wl_pu (y_move rfl) rfl ?_
    refine wl_nil ?_
    refine at_then ?_
    refine wc_block ?_
    -- at: loop
    refine wc_loop (σ := Nat × Value × Hp) (fun s => s.1 ≤ n ∧ SlF 3 1 s.2.1 ((((List.range s.1).map fun q : Nat => (q : Int)).filter (· ≠ m)).length) ((((List.range s.1).map fun q : Nat => (q : Int)).filter (· ≠ m)).map int) s.2.2) (fun s => n - s.1)
      (fun s => [(3, int m), (11, s.2.1), (34, int n), (35, int (s.1 : Int))]) (fun s => (bNEW2, row 84 (ins f)) :: (bNEW, row 72 (geo lv n rw)) :: (s.2.2 ++ F)) (0, .slice none 0 0, []) ⟨by show 0 ≤ n; omega, .nil⟩ ⟨rfl, rfl, rfl, rfl, trivial⟩ rfl ?_
    rintro ⟨i, u, fr⟩ ⟨hi, hS⟩
    simp only [] at hi hS
    show WC _ _ _ _ [(3, int m), (11, u), (34, int n), (35, int (i : Int))] ((bNEW2, row 84 (ins f)) :: (bNEW, row 72 (geo lv n rw)) :: (fr ++ F))
    have hst : ∀ k : Nat, ((List.range (k + 1)).map fun q : Nat => (q : Int)).filter (· ≠ m) = ((List.range k).map fun q : Nat => (q : Int)).filter (· ≠ m) ++ if (k : Int) ≠ m then [(k : Int)] else [] := fun k => by
      rw [List.range_succ, List.map_append, List.filter_append]
      by_cases hkm : (k : Int) = m <;> simp [hkm]
    have hlen : (((List.range i).map fun q : Nat => (q : Int)).filter (· ≠ m)).length ≤ 4 := Nat.le_trans (List.length_filter_le _ _) (by simp; omega)
    refine wc_seq ?_
    refine wc_region ?_
    refine wl_pu (y_lss rfl rfl) rfl ?_
    refine wl_nil ?_
    refine at_then ?_
    refine wc_seq ?_
    -- at: cond
    refine wc_condD rfl (fun h0 => ?_) (fun h0 => ?_)
    · skip
      refine wc_skip ?_
      refine at_then ?_
      refine wc_seq ?_
      refine wc_block ?_
      refine wc_seq ?_
      refine wc_region ?_
      refine wl_pu (y_move rfl) rfl ?_
      refine wl_pu (y_assign rfl) rfl ?_
      refine wl_nil ?_
      refine at_then ?_
      refine wc_seq ?_
      refine wc_region ?_
      refine wl_pu (y_move rfl) rfl ?_
      refine wl_pu (y_move rfl) rfl ?_
      refine wl_pu (y_neq rfl rfl) rfl ?_
      refine wl_nil ?_
      refine at_then ?_
      -- at: cond
      refine wc_condD rfl (fun hne => ?_) (fun hne => ?_)
      · skip
        refine wc_region ?_
        refine wl_pu (y_move rfl) rfl ?_
        refine wl_pu (y_move rfl) rfl ?_
        -- at: op (buildSlice 74 1 [(0, t42)])
        refine wl_do (d_buildSlice [int (i : Int)] Try.underlying74 rfl (built1 rfl)) rfl ?_
        rintro _ _ ⟨b1, rfl, rfl⟩
        refine wl_perm (L' := fr ++ ((b1, row 3 [int (i : Int)]) :: (bNEW2, row 84 (ins f)) :: (bNEW, row 72 (geo lv n rw)) :: F)) (((List.Perm.cons _ (List.Perm.cons _ perm_mid.symm)).trans (List.Perm.cons _ perm_mid.symm)).trans perm_mid.symm) ?_
        refine wl_do (d_append (sz := 1) (bytes := 8) (L0 := (b1, row 3 [int (i : Int)]) :: (bNEW2, row 84 (ins f)) :: (bNEW, row 72 (geo lv n rw)) :: F) 0 (int 0) Try.underlying74 (by kernel_rfl) rfl rfl rfl hS rfl rfl (news := [int (i : Int)]) rfl rfl rfl (by omega) (by omega)) rfl ?_
        rintro u' _ ⟨fr', hS', rfl⟩
        refine wl_perm (L' := (b1, row 3 [int (i : Int)]) :: (bNEW2, row 84 (ins f)) :: (bNEW, row 72 (geo lv n rw)) :: (fr' ++ F)) (perm_mid.trans (List.Perm.cons _ (perm_mid.trans (List.Perm.cons _ perm_mid)))) ?_
        refine wl_drop ?_
        refine wl_pu (y_assign rfl) rfl ?_
        refine wl_nil ?_
        refine at_block_normal ?_
        refine at_then ?_
        refine wc_region ?_
        refine wl_pu (y_add rfl rfl (by omega)) rfl ?_
        refine wl_pu (y_move rfl) rfl ?_
        refine wl_nil ?_
        -- at: round
        refine at_again (i + 1, u', fr') ⟨by show i + 1 ≤ n; omega, ?_⟩ (by show n - (i + 1) < n - i; omega) ⟨rfl, rfl, rfl, rfl, trivial⟩ rfl
        show SlF 3 1 u' _ _ fr'
        rw [hst i, if_pos hne, List.length_append, List.map_append]
        exact hS'
      · skip
        refine wc_skip ?_
        refine at_block_normal ?_
        refine at_then ?_
        refine wc_region ?_
        refine wl_pu (y_add rfl rfl (by omega)) rfl ?_
        refine wl_pu (y_move rfl) rfl ?_
        refine wl_nil ?_
        -- at: round
        refine at_again (i + 1, u, fr) ⟨by show i + 1 ≤ n; omega, ?_⟩ (by show n - (i + 1) < n - i; omega) ⟨rfl, rfl, rfl, rfl, trivial⟩ rfl
        show SlF 3 1 u _ _ fr
        rw [hst i, if_neg hne, List.append_nil]
        exact hS
    · skip
      have hin : i = n := by omega
      subst hin
      refine wc_exit ?_
      refine at_then_exit ?_
      refine at_then_exit ?_
      refine at_block_same ?_
      refine at_then ?_
      refine wc_seq ?_
      refine wc_region ?_
      refine wl_pu (y_move rfl) rfl ?_
      refine wl_pu (y_assign rfl) rfl ?_
      refine wl_pu (y_assign rfl) rfl ?_
      refine wl_nil ?_
      refine at_then ?_
      refine wc_ret ?_
      -- at: ret
      refine at_drop (at_drop ?_)
      refine at_ret2 rfl rfl rfl ?_
      refine ⟨u, fr, rfl, ?_, rfl⟩
      rw [rds, if_neg (by simp [hb])]
      exact hS

theorem value_spec (F : Hp) (h : GOk lv n rw) (f : Int → Bool) (ho : OneOut n f) (r : Int) (hr : 0 ≤ r ∧ r < rw) (m : Int) (hm : 0 ≤ m ∧ m < n) (b : Nat) (l : List (Int × Value)) (g : Int → UInt8) (hG : Got l (rds n f m) g) :
    Ctr Try.prog 88 [.agg ⟨geo lv n rw⟩, int r, .agg ⟨ins f⟩, int m, .map (some b)] ((b, mrow int l) :: F) (fun v L' => v = .tuple #[S (rep (xall ((rds n f m).map g))), int 0] ∧ L' = (b, mrow int l) :: F) := by
  have hn := h.mem3
  have hl := rds_len (f := f) (m := m) (n := n) (by omega)
  refine spec_body Try.func88 Try.ntmps88 rfl rfl ?_
  refine wc_seq ?_
  refine wc_region ?_
  refine wl_do (d_box rfl) rfl ?_
  rintro _ _ ⟨bNEW, rfl, rfl⟩
  refine wl_do (d_box rfl) rfl ?_
  rintro _ _ ⟨bNEW2, rfl, rfl⟩
  refine wl_pu (y_assign rfl) rfl ?_
  refine wl_pu (y_assign rfl) rfl ?_
  refine wl_nil ?_
  refine at_then ?_
  refine wc_seq ?_
  refine wc_region ?_
  refine wl_heap ((bNEW2, row 84 (ins f)) :: (bNEW, row 72 (geo lv n rw)) :: (b, mrow int l) :: F) rfl ?_
  refine wl_rd (y_loadAgg (k := 3) (vs := geo lv n rw) 1 rfl rfl rfl rfl (by kernel_rfl) (by kernel_rfl)) rfl ?_
  refine wl_pu (y_move rfl) rfl ?_
  refine wl_rd (y_loadAgg (k := 4) (vs := ins f) 0 rfl rfl rfl rfl (by kernel_rfl) (by kernel_rfl)) rfl ?_
  refine wl_pu (y_move rfl) rfl ?_
  -- at: op (call {callee:(value (func 87)), args:[t15, t16, t17, t18], argTypes:[72, 3, 84, 3]})
  refine wl_drop (wl_drop ?_)
  refine wl_do (d_call (by kernel_rfl) rfl (reads_spec _ h f ho r hr m hm)) rfl ?_
  rintro _ _ ⟨u, fr, rfl, hS, rfl⟩
  refine wl_pu (y_move rfl) rfl ?_
  refine wl_pu (y_extract rfl rfl) rfl ?_
  refine wl_pu (y_extract rfl rfl) rfl ?_
  refine wl_pu (y_assign rfl) rfl ?_
  refine wl_pu (y_assign rfl) rfl ?_
  refine wl_nil ?_
  refine at_then ?_
  refine wc_seq ?_
  refine wc_seq ?_
  refine wc_region ?_
  refine wl_pu (y_move rfl) rfl ?_
  refine wl_pu (y_neq rfl rfl) rfl ?_
  refine wl_nil ?_
  refine at_then ?_
  -- at: cond
  refine wc_condD rfl (fun hc => absurd hc ((by omega))) (fun _ => ?_)
  refine wc_skip ?_
  refine at_then ?_
  refine wc_seq ?_
  refine wc_seq ?_
  refine wc_region ?_
  refine wl_pu (y_move rfl) rfl ?_
  refine wl_pu (y_move rfl) rfl ?_
  -- at: op (call {callee:(value (func 133)), args:[t25, t26], argTypes:[102, 74]})
  refine wl_do (d_call (by kernel_rfl) rfl (has_spec F hG hS (by omega))) rfl ?_
  rintro _ L9 ⟨rfl, hL9⟩
  rw [hL9]
  clear hL9
  first | refine wl_pu (y_notT rfl) rfl ?_ | refine wl_pu (y_notF rfl) rfl ?_ | refine wl_pu (y_not rfl) rfl ?_ | refine wl_pu (y_notB rfl) rfl ?_
  refine wl_nil ?_
  refine at_then ?_
  -- at: cond
  refine wc_condF rfl ?_
  refine wc_skip ?_
  refine at_then ?_
  refine wc_seq ?_
  refine wc_region ?_
  refine wl_pu (y_move rfl) rfl ?_
  refine wl_pu (y_move rfl) rfl ?_
  -- at: op (call {callee:(value (func 135)), args:[t29, t30], argTypes:[102, 74]})
  refine wl_do (d_call (by kernel_rfl) rfl (sectors_spec F hG hS (by omega))) rfl ?_
  rintro s _ ⟨fs, hs, rfl⟩
  refine wl_do (d_call (by kernel_rfl) rfl (xsum_spec (fr ++ ((b, mrow int l) :: F)) hs (by rw [List.length_map]; omega))) rfl ?_
  rintro _ L9 ⟨rfl, hL9⟩
  rw [hL9]
  clear hL9
  refine wl_pu (y_extract rfl rfl) rfl ?_
  refine wl_pu (y_extract rfl rfl) rfl ?_
  refine wl_pu (y_assign rfl) rfl ?_
  refine wl_pu (y_assign rfl) rfl ?_
  refine wl_nil ?_
  refine at_then ?_
  refine wc_ret ?_
  -- at: ret
  refine at_dropL (at_dropL ?_)
  refine at_ret2 rfl rfl rfl ?_
  exact ⟨rfl, rfl⟩
end
end Go.Proofs.Ytkpndnjhfocheaa
