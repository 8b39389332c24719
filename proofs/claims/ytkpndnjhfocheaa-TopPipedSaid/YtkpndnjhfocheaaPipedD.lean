/- The wheel, as far as one timer at a time needs it: what each call comes to. -/
import Derived.Test.YtkpndnjhfocheaaChecked
import Derived.Test.YtkpndnjhfocheaaPipedC
import Derived.Test.YtkpndnjhfocheaaSLh
namespace Go.Proofs.Ytkpndnjhfocheaa
open Go.SL
variable {X : Inhabited SL.Outside}

def wrow (f : Nat → Value) (now last : Int) : List Value :=
  [f 0, f 1, f 2, f 3, f 4, f 5, f 6, f 7, f 8, f 9, f 10, f 11, f 12, f 13, f 14, f 15, int now, int last, .bool true]
abbrev whl (f : Nat → Value) (now last : Int) : Obj := row 147 (wrow f now last)
/-- Every slot nil but slot k. -/
def at1 (k : Nat) (p : Option Addr) (m c : Nat) : Nat → Value := fun i => .slice (if i = k then p else none) (if i = k then m else 0) (if i = k then c else 0)
abbrev nils : Nat → Value := at1 0 none 0 0
theorem at1_nil (k : Nat) : at1 k none 0 0 = nils := by funext i; simp [at1, nils]
theorem at1_self (k : Nat) (p : Option Addr) (m c : Nat) : at1 k p m c k = .slice p m c := by simp [at1]
theorem at1_ne {k i : Nat} (p : Option Addr) (m c : Nat) (h : i ≠ k) : at1 k p m c i = .slice none 0 0 := by simp [at1, h]
theorem wrow_nth (f : Nat → Value) (now last : Int) (i : Nat) (h : i < 16) : nth (wrow f now last) i = some (f i) := by
  rcases i with _|_|_|_|_|_|_|_|_|_|_|_|_|_|_|_|i <;> first | rfl | omega
theorem wrow_len (f : Nat → Value) (now last : Int) : (wrow f now last).length = 19 := rfl
theorem wrow_set (f : Nat → Value) (now last : Int) (i : Nat) (h : i < 16) (v : Value) : (wrow f now last).set i v = wrow (fun j => if j = i then v else f j) now last := by
  rcases i with _|_|_|_|_|_|_|_|_|_|_|_|_|_|_|_|i <;> first | rfl | omega
theorem at1_set (k : Nat) (p q : Option Addr) (m c m' c' : Nat) : (fun j => if j = k then Value.slice q m' c' else at1 k p m c j) = at1 k q m' c' := by
  funext j
  by_cases h : j = k <;> simp [at1, h]
theorem at1_set_ne {k i : Nat} (p : Option Addr) (m c : Nat) (h : i ≠ k) : (fun j => if j = i then Value.slice none 0 0 else at1 k p m c j) = at1 k p m c := by
  funext j
  by_cases h' : j = i
  · subst h'; simp [at1, h]
  · simp [h']
theorem nils_set (k : Nat) (q : Option Addr) (m' c' : Nat) : (fun j => if j = k then Value.slice q m' c' else nils j) = at1 k q m' c' := by
  funext j
  by_cases h : j = k <;> simp [at1, h]

theorem nils_at (k : Nat) : nils k = .slice none 0 0 := by simp [at1]

theorem wnew_spec (L : Hp) : Ctr Try.prog 16 [] L (fun v L' => ∃ b, v = ptr b 0 ∧ L' = (b, whl nils 0 0) :: L) := by
  refine spec_body Try.func16 Try.ntmps16 rfl rfl ?_
  refine wc_seq ?_
  refine wc_region ?_
  refine wl_pu (y_assign rfl) rfl ?_
  refine wl_nil ?_
  refine at_then ?_
  refine wc_seq ?_
  refine wc_region ?_
  -- at: op (build 147 [(3, c:(bool true))])
  refine wl_pu (y_build [.slice none 0 0, .slice none 0 0, .slice none 0 0, .slice none 0 0, .slice none 0 0, .slice none 0 0, .slice none 0 0, .slice none 0 0, .slice none 0 0, .slice none 0 0, .slice none 0 0, .slice none 0 0, .slice none 0 0, .slice none 0 0, .slice none 0 0, .slice none 0 0, int 0, int 0, .bool true] rfl (by kernel_rfl)) rfl ?_
  refine wl_do (d_box rfl) rfl ?_
  rintro _ _ ⟨bNEW, rfl, rfl⟩
  refine wl_pu (y_assign rfl) rfl ?_
  refine wl_nil ?_
  refine at_then ?_
  refine wc_ret ?_
  -- at: ret
  refine at_ret1 rfl rfl ?_
  exact ⟨_, rfl, rfl⟩

theorem wnone_spec (F : Hp) (b : Nat) (f : Nat → Value) (now last : Int) :
    Ctr Try.prog 62 [ptr b 0] ((b, whl f now last) :: F) (fun v L' => v = .bool false ∧ L' = (b, whl f now last) :: F) := by
  refine spec_body Try.func62 Try.ntmps62 rfl rfl ?_
  refine wc_seq ?_
  refine wc_region ?_
  refine wl_pu (y_assign rfl) rfl ?_
  refine wl_nil ?_
  refine at_then ?_
  refine wc_seq ?_
  refine wc_region ?_
  refine wl_pu (y_move rfl) rfl ?_
  refine wl_pu (y_eqlnil Try.underlying54 rfl rfl) rfl ?_
  refine wl_pu (y_move rfl) rfl ?_
  -- at: guard 2
  refine wl_gon rfl rfl ?_
  refine wl_pu (y_move rfl) rfl ?_
  refine wl_gon rfl rfl ?_
  refine wl_pu (y_nil rfl) rfl ?_
  refine wl_gon rfl rfl ?_
  first | refine wl_pu (y_fieldAddr0 18 Try.underlying147 rfl rfl (by kernel_rfl) rfl) rfl ?_ | refine wl_pu (y_fieldAddr 18 Try.underlying147 rfl rfl (by kernel_rfl) rfl) rfl ?_
  refine wl_gon rfl rfl ?_
  first | refine wl_rd (y_load 0 rfl rfl rfl (by kernel_rfl)) rfl ?_ | refine wl_rd (y_load 1 rfl rfl rfl (by kernel_rfl)) rfl ?_ | refine wl_rd (y_load 2 rfl rfl rfl (by kernel_rfl)) rfl ?_ | refine wl_rd (y_load 3 rfl rfl rfl (by kernel_rfl)) rfl ?_ | refine wl_rd (y_load 4 rfl rfl rfl (by kernel_rfl)) rfl ?_ | refine wl_rd (y_load 5 rfl rfl rfl (by kernel_rfl)) rfl ?_
  refine wl_gon rfl rfl ?_
  first | refine wl_pu (y_notT rfl) rfl ?_ | refine wl_pu (y_notF rfl) rfl ?_ | refine wl_pu (y_not rfl) rfl ?_ | refine wl_pu (y_notB rfl) rfl ?_
  first | refine wl_pu (y_pickT rfl rfl) rfl ?_ | refine wl_pu (y_pickF rfl rfl) rfl ?_
  refine wl_pu (y_assign rfl) rfl ?_
  refine wl_nil ?_
  refine at_then ?_
  refine wc_ret ?_
  -- at: ret
  refine at_ret1 rfl rfl ?_
  exact ⟨rfl, rfl⟩

theorem wlen_spec (F : Hp) (b k : Nat) (p : Option Addr) (m c : Nat) (now last : Int) (hm : m ≤ 1) (hk : k < 16) :
    Ctr Try.prog 32 [ptr b 0] ((b, whl (at1 k p m c) now last) :: F) (fun v L' => v = int m ∧ L' = (b, whl (at1 k p m c) now last) :: F) := by
  refine spec_body Try.func32 Try.ntmps32 rfl rfl ?_
  refine wc_seq ?_
  refine wc_region ?_
  refine wl_pu (y_assign rfl) rfl ?_
  refine wl_nil ?_
  refine at_then ?_
  refine wc_seq ?_
  refine wc_region ?_
  refine wl_pu (y_assign rfl) rfl ?_
  refine wl_nil ?_
  refine at_then ?_
  refine wc_seq ?_
  refine wc_seq ?_
  refine wc_region ?_
  refine wl_pu (y_move rfl) rfl ?_
  -- at: op (call {callee:(value (func 62)), args:[t5], argTypes:[54]})
  refine wl_do (d_call (by kernel_rfl) rfl (wnone_spec _ _ _ _ _)) rfl ?_
  rintro _ _ ⟨rfl, rfl⟩
  first | refine wl_pu (y_notT rfl) rfl ?_ | refine wl_pu (y_notF rfl) rfl ?_ | refine wl_pu (y_not rfl) rfl ?_ | refine wl_pu (y_notB rfl) rfl ?_
  refine wl_nil ?_
  refine at_then ?_
  -- at: cond
  refine wc_condT rfl ?_
  refine wc_seq ?_
  refine wc_region ?_
  refine wl_pu (y_move rfl) rfl ?_
  refine wl_nil ?_
  refine at_then ?_
  refine wc_block ?_
  -- at: loop
  refine wc_loop (σ := Nat) (fun i => i ≤ 16) (fun i => 16 - i) (fun i => [(0, ptr b 0), (3, int (if k < i then (m : Int) else 0)), (8, int (i : Int))]) (fun _ => (b, whl (at1 k p m c) now last) :: F) 0 (by omega) ⟨rfl, by simp [lk, int], rfl, trivial⟩ rfl ?_
  intro i hi
  refine wc_seq ?_
  refine wc_region ?_
  refine wl_pu (y_lss rfl rfl) rfl ?_
  refine wl_nil ?_
  refine at_then ?_
  refine wc_seq ?_
  -- at: cond
  refine wc_condD rfl (fun h => ?_) (fun h => ?_)
  · skip
    refine wc_skip ?_
    refine at_then ?_
    refine wc_seq ?_
    refine wc_block ?_
    refine wc_seq ?_
    refine wc_region ?_
    refine wl_pu (y_move rfl) rfl ?_
    refine wl_pu (y_assign rfl) rfl ?_
    refine wl_nil ?_
    refine at_then ?_
    refine wc_region ?_
    refine wl_pu (y_move rfl) rfl ?_
    refine wl_pu (y_move rfl) rfl ?_
    refine wl_pu (y_move rfl) rfl ?_
    refine wl_pu (y_nil rfl) rfl ?_
    first | refine wl_pu (y_fieldAddr0 0 Try.underlying147 rfl rfl (by kernel_rfl) rfl) rfl ?_ | refine wl_pu (y_fieldAddr 0 Try.underlying147 rfl rfl (by kernel_rfl) rfl) rfl ?_
    refine wl_pu (y_ixA 1 Try.underlying145 (by kernel_rfl) rfl rfl (by omega)) rfl ?_
    refine wl_rd (y_load 0 rfl rfl (wrow_nth _ _ _ _ (by omega)) (by kernel_rfl)) rfl ?_
    refine wl_pu (y_lenL Try.underlying144 rfl) rfl ?_
    refine wl_pu (y_add rfl rfl (by (first | omega | (split <;> split <;> omega)))) rfl ?_
    refine wl_pu (y_assign rfl) rfl ?_
    refine wl_nil ?_
    refine at_block_normal ?_
    refine at_then ?_
    refine wc_region ?_
    refine wl_pu (y_add rfl rfl (by (first | omega | (split <;> split <;> omega)))) rfl ?_
    refine wl_pu (y_move rfl) rfl ?_
    refine wl_nil ?_
    -- at: round
    have h3 : (if k < i then (m : Int) else 0) + ((if 0 + (i : Int).toNat * 1 = k then m else 0 : Nat) : Int) = if k < i + 1 then (m : Int) else 0 := by
      by_cases h1 : i = k
      · subst h1; simp
      · by_cases h2 : k < i
        · have : k < i + 1 := by omega
          simp [h1, h2, this]
        · have : ¬ k < i + 1 := by omega
          simp [h1, h2, this]
    refine at_again (i + 1) (by omega) (by omega) ⟨rfl, ?_, rfl, trivial⟩ rfl
    rw [← h3]; rfl
  · skip
    refine wc_exit ?_
    refine at_then_exit ?_
    refine at_then_exit ?_
    refine at_block_same ?_
    refine at_then ?_
    refine wc_seq ?_
    refine wc_region ?_
    refine wl_pu (y_move rfl) rfl ?_
    refine wl_pu (y_assign rfl) rfl ?_
    refine wl_nil ?_
    refine at_then ?_
    refine wc_ret ?_
    -- at: ret
    refine at_ret1 rfl rfl ?_
    refine ⟨?_, rfl⟩
    rw [if_pos (by omega)]

/-- A timer's cells. -/
abbrev tm (id due x : Int) : List Value := [int id, int due, .int .u32 x]
theorem wset_spec (F : Hp) (b : Nat) (now last due x : Int) (hl : 0 ≤ last ∧ last ≤ 1000000) (hd : 0 ≤ due ∧ due ≤ 1000000) :
    Ctr Try.prog 21 [ptr b 0, int due, .int .u32 x] ((b, whl nils now last) :: F) (fun v L' => ∃ (p : Option Addr) (c : Nat) (fr : Hp), v = .tuple #[int (last + 1), int 0] ∧
      SlF 151 3 (.slice p 1 c) 1 (tm (last + 1) due x) fr ∧ L' = (b, whl (at1 (due % 16).toNat p 1 c) now (last + 1)) :: (fr ++ F)) := by
  refine spec_body Try.func21 Try.ntmps21 rfl rfl ?_
  refine wc_seq ?_
  refine wc_region ?_
  refine wl_pu (y_assign rfl) rfl ?_
  refine wl_pu (y_assign rfl) rfl ?_
  refine wl_nil ?_
  refine at_then ?_
  refine wc_seq ?_
  refine wc_block ?_
  refine wc_seq ?_
  refine wc_region ?_
  refine wl_pu (y_move rfl) rfl ?_
  -- at: op (call {callee:(value (func 62)), args:[t10], argTypes:[54]})
  refine wl_do (d_call (by kernel_rfl) rfl (wnone_spec _ _ _ _ _)) rfl ?_
  rintro _ _ ⟨rfl, rfl⟩
  refine wl_pu (y_assign rfl) rfl ?_
  refine wl_nil ?_
  refine at_then ?_
  -- at: cond
  refine wc_condF rfl ?_
  refine wc_seq ?_
  refine wc_region ?_
  refine wl_pu (y_move rfl) rfl ?_
  refine wl_pu (y_lss rfl rfl) rfl ?_
  refine wl_pu (y_assign rfl) rfl ?_
  refine wl_nil ?_
  refine at_then ?_
  -- at: cond
  refine wc_condD rfl (fun hc => absurd hc ((by omega))) (fun _ => ?_)
  refine wc_seq ?_
  refine wc_region ?_
  refine wl_pu (y_move rfl) rfl ?_
  -- at: op (call {callee:(value (func 32)), args:[t16], argTypes:[54]})
  refine wl_do (d_call (by kernel_rfl) rfl (wlen_spec _ _ _ _ _ _ _ _ (by omega) (by omega))) rfl ?_
  rintro _ _ ⟨rfl, rfl⟩
  refine wl_pu (y_geq rfl rfl) rfl ?_
  refine wl_pu (y_assign rfl) rfl ?_
  refine wl_nil ?_
  refine at_then ?_
  -- at: cond
  refine wc_condD rfl (fun hc => absurd hc ((by omega))) (fun _ => ?_)
  refine wc_skip ?_
  refine at_block_normal ?_
  refine at_then ?_
  refine wc_seq ?_
  refine wc_region ?_
  refine wl_pu (y_move rfl) rfl ?_
  refine wl_pu (y_nil rfl) rfl ?_
  first | refine wl_pu (y_fieldAddr0 17 Try.underlying147 rfl rfl (by kernel_rfl) rfl) rfl ?_ | refine wl_pu (y_fieldAddr 17 Try.underlying147 rfl rfl (by kernel_rfl) rfl) rfl ?_
  refine wl_rd (y_load 0 rfl rfl (v := int last) rfl (by kernel_rfl)) rfl ?_
  refine wl_pu (y_add rfl rfl (by omega)) rfl ?_
  refine wl_pu (y_nil rfl) rfl ?_
  first | refine wl_pu (y_fieldAddr0 17 Try.underlying147 rfl rfl (by kernel_rfl) rfl) rfl ?_ | refine wl_pu (y_fieldAddr 17 Try.underlying147 rfl rfl (by kernel_rfl) rfl) rfl ?_
  refine wl_do0 (d_store 0 rfl rfl rfl rfl rfl (by kernel_rfl)) (fun _ _ hL => ?_)
  subst hL
  refine wl_heap ((b, whl nils now (last + 1)) :: F) rfl ?_
  refine wl_nil ?_
  refine at_then ?_
  refine wc_seq ?_
  refine wc_region ?_
  refine wl_pu (y_move rfl) rfl ?_
  refine wl_pu (y_move rfl) rfl ?_
  refine wl_pu (y_rem rfl rfl (by omega)) rfl ?_
  refine wl_pu (y_nil rfl) rfl ?_
  first | refine wl_pu (y_fieldAddr0 0 Try.underlying147 rfl rfl (by kernel_rfl) rfl) rfl ?_ | refine wl_pu (y_fieldAddr 0 Try.underlying147 rfl rfl (by kernel_rfl) rfl) rfl ?_
  refine wl_pu (y_ixA 1 Try.underlying145 (by kernel_rfl) rfl rfl (by omega)) rfl ?_
  refine wl_pu (y_assign rfl) rfl ?_
  refine wl_nil ?_
  refine at_then ?_
  refine wc_seq ?_
  -- at: draw
  have hix : (0 + (due % 16).toNat * 1) = (due % 16).toNat := by omega
  have hlt : (due % 16).toNat < 16 := by omega
  apply wc_draw 12 (pl := [_, _, _, _, _, _, _, _, _, _, _, _]) (by kernel_rfl)
  rotate_left
  refine hw_pu (y_move rfl) ?_
  refine hw_pu (y_move rfl) ?_
  refine hw_pu (y_nil rfl) ?_
  refine hw_rd (y_load 0 rfl rfl (v := .slice none 0 0) (by rw [hix]; exact (wrow_nth _ _ _ _ hlt).trans (congrArg some (nils_at _))) (by kernel_rfl)) ?_
  refine hw_pu (y_move rfl) ?_
  refine hw_pu (y_nil rfl) ?_
  first | refine hw_pu (y_fieldAddr0 17 Try.underlying147 rfl rfl (by kernel_rfl) rfl) ?_ | refine hw_pu (y_fieldAddr 17 Try.underlying147 rfl rfl (by kernel_rfl) rfl) ?_
  first | refine hw_rd (y_load 0 rfl rfl rfl (by kernel_rfl)) ?_ | refine hw_rd (y_load 1 rfl rfl rfl (by kernel_rfl)) ?_ | refine hw_rd (y_load 2 rfl rfl rfl (by kernel_rfl)) ?_ | refine hw_rd (y_load 3 rfl rfl rfl (by kernel_rfl)) ?_ | refine hw_rd (y_load 4 rfl rfl rfl (by kernel_rfl)) ?_ | refine hw_rd (y_load 5 rfl rfl rfl (by kernel_rfl)) ?_
  refine hw_pu (y_move rfl) ?_
  refine hw_pu (y_move rfl) ?_
  refine hw_pu (y_build [int (last + 1), int due, .int .u32 x] rfl (by kernel_rfl)) ?_
  refine hw_buildSlice (tm (last + 1) due x) Try.underlying144 rfl (by kernel_rfl) ?_
  intro g1
  -- at: hw_end with new blocks
  refine hw_endG3 rfl ?_
  case hB => kernel_rfl
  rintro b1 rfl
  refine wl_do (d_append (sz := 3) (bytes := 24) (fr := []) 0 (.agg #[int 0, int 0, .int .u32 0]) Try.underlying144 (by kernel_rfl) rfl rfl rfl .nil rfl rfl (news := tm (last + 1) due x) rfl rfl rfl (by omega) (by omega)) rfl ?_
  rintro v1 _ ⟨fr1, hS1, rfl⟩
  obtain ⟨p1, cap1, rfl⟩ := slF_form hS1
  refine wl_perm (List.perm_append_comm_assoc fr1 [(b1, row 151 (tm (last + 1) due x)), (b, whl nils now (last + 1))] F) ?_
  refine wl_drop ?_
  refine wl_pu (y_nil rfl) rfl ?_
  refine wl_do0 (d_store 0 rfl rfl rfl (by rw [wrow_len, hix]; exact blt_of (by omega)) rfl (by kernel_rfl)) (fun _ _ hL => ?_)
  subst hL
  refine wl_heap ((b, whl (at1 (due % 16).toNat p1 1 cap1) now (last + 1)) :: (fr1 ++ F)) ?_ ?_
  · exact congrArg (fun X => (b, row 147 X) :: (fr1 ++ F)) (by rw [hix, wrow_set _ _ _ _ hlt]; exact congrArg (fun f => wrow f now (last + 1)) (nils_set _ _ _ _))
  refine wl_nil ?_
  refine at_nq ?_
  refine at_then ?_
  refine wc_seq ?_
  refine wc_region ?_
  refine wl_pu (y_move rfl) rfl ?_
  refine wl_pu (y_nil rfl) rfl ?_
  first | refine wl_pu (y_fieldAddr0 17 Try.underlying147 rfl rfl (by kernel_rfl) rfl) rfl ?_ | refine wl_pu (y_fieldAddr 17 Try.underlying147 rfl rfl (by kernel_rfl) rfl) rfl ?_
  first | refine wl_rd (y_load 0 rfl rfl rfl (by kernel_rfl)) rfl ?_ | refine wl_rd (y_load 1 rfl rfl rfl (by kernel_rfl)) rfl ?_ | refine wl_rd (y_load 2 rfl rfl rfl (by kernel_rfl)) rfl ?_ | refine wl_rd (y_load 3 rfl rfl rfl (by kernel_rfl)) rfl ?_ | refine wl_rd (y_load 4 rfl rfl rfl (by kernel_rfl)) rfl ?_ | refine wl_rd (y_load 5 rfl rfl rfl (by kernel_rfl)) rfl ?_
  refine wl_pu (y_assign rfl) rfl ?_
  refine wl_pu (y_assign rfl) rfl ?_
  refine wl_nil ?_
  refine at_then ?_
  refine wc_ret ?_
  -- at: ret
  refine at_ret2 rfl rfl rfl ?_
  exact ⟨p1, cap1, fr1, rfl, hS1, rfl⟩
end Go.Proofs.Ytkpndnjhfocheaa
