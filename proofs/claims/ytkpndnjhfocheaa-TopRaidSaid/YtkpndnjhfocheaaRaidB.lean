/- Sectors of one byte each: what parity's functions come to. -/
import Derived.Test.YtkpndnjhfocheaaRaidA
import Derived.Test.YtkpndnjhfocheaaRepA
import Derived.Test.YtkpndnjhfocheaaSLr
namespace Go.Proofs.Ytkpndnjhfocheaa
open Go.SL
variable {X : Inhabited SL.Outside}

/-- A sector of one byte. -/
def rep (x : UInt8) : List UInt8 := List.replicate 64 x
theorem rep_len (x : UInt8) : (rep x).length = 64 := by simp [rep]
theorem rep_inj {x y : UInt8} : rep x = rep y ↔ x = y := ⟨fun h => by have := congrArg List.head? h; simpa [rep] using this, fun h => h ▸ rfl⟩
/-- The sum of bytes. -/
def xall (l : List UInt8) : UInt8 := l.foldl (fun a b => a ^^^ b) 0
theorem xall_step {l : List UInt8} {i : Nat} (h : i < l.length) : xall (l.take (i + 1)) = xall (l.take i) ^^^ l[i] := by
  rw [List.take_succ_eq_append_getElem h, xall, List.foldl_append]; rfl
def mix (j : Nat) (x y : UInt8) : List UInt8 := List.replicate j (x ^^^ y) ++ List.replicate (64 - j) x
theorem mix_len {j : Nat} (h : j ≤ 64) (x y : UInt8) : (mix j x y).length = 64 := by simp [mix]; omega
theorem mix_zero (x y : UInt8) : mix 0 x y = rep x := by simp [mix, rep]
theorem mix_all (x y : UInt8) : mix 64 x y = rep (x ^^^ y) := by simp [mix, rep]
theorem mix_at {j : Nat} (h : j < 64) (x y : UInt8) : (mix j x y)[j]'(by rw [mix_len (by omega)]; exact h) = x := by
  simp [mix]
theorem mix_set {j : Nat} (h : j < 64) (x y : UInt8) : (mix j x y).set j (x ^^^ y) = mix (j + 1) x y := by
  unfold mix
  rw [List.set_append_right _ _ (by simp), show 64 - j = (64 - (j + 1)) + 1 by omega]
  rw [List.length_replicate, Nat.sub_self, List.replicate_succ, List.set_cons_zero, show j + 1 = j + 1 from rfl, List.replicate_succ', List.append_assoc]
  rfl

theorem is_spec (F : Hp) (x : UInt8) : Ctr Try.prog 139 [S (rep x)] F (fun v L' => v = .bool true ∧ L' = F) := by
  refine spec_body Try.func139 Try.ntmps139 rfl rfl ?_
  refine wc_seq ?_
  refine wc_region ?_
  refine wl_pu (y_assign rfl) rfl ?_
  refine wl_nil ?_
  refine at_then ?_
  refine wc_seq ?_
  refine wc_region ?_
  refine wl_pu (y_move rfl) rfl ?_
  refine wl_pu (y_lenS Try.underlying9 rfl) rfl ?_
  refine wl_pu (y_eql rfl rfl) rfl ?_
  refine wl_pu (y_assign rfl) rfl ?_
  refine wl_nil ?_
  refine at_then ?_
  refine wc_ret ?_
  -- at: ret
  refine at_ret1 rfl rfl ?_
  exact ⟨by rw [rep_len]; rfl, rfl⟩
theorem zero_spec (F : Hp) : Ctr Try.prog 148 [] F (fun v L' => v = S (rep 0) ∧ L' = F) := by
  refine spec_body Try.func148 Try.ntmps148 rfl rfl ?_
  refine wc_seq ?_
  refine wc_region ?_
  refine wl_pu (y_assign rfl) rfl ?_
  refine wl_nil ?_
  refine at_then ?_
  refine wc_seq ?_
  refine wc_region ?_
  -- at: op (call {callee:(value (func 34)), args:[c:(string {data:[0]}), c:(int i64 64)], argTypes:[9, 3]})
  refine wl_do (d_call (by kernel_rfl) rfl (rep1_spec F 0 64 (by omega))) rfl ?_
  rintro _ L9 ⟨rfl, hL9⟩
  rw [hL9]
  clear hL9
  refine wl_pu (y_assign rfl) rfl ?_
  refine wl_nil ?_
  refine at_then ?_
  refine wc_ret ?_
  -- at: ret
  refine at_ret1 rfl rfl ?_
  exact ⟨rfl, rfl⟩

def secs (bs : List UInt8) : List Value := bs.map fun b => S (rep b)
theorem secs_at {bs : List UInt8} {sp : List Value} {i : Nat} (h : i < bs.length) : nth (secs bs ++ sp) i = some (S (rep bs[i])) := by
  rw [nth_eq, List.getElem?_append_left (by simpa [secs] using h)]; simp [secs, h]
theorem at8_rep (y : UInt8) (j : Nat) (h : j < 64) : at8 (rep y) (j : Int) = ((y.toNat : Nat) : Int) := by
  rw [at8_byte _ _ (by simpa [rep] using h)]; simp only [rep, List.getElem_replicate]

theorem xsumS_spec (F : Hp) (b cap : Nat) (bs : List UInt8) (sp : List Value) (hn : bs.length ≤ 1000000) :
    Ctr Try.prog 134 [sl b 0 bs.length cap] ((b, row 9 (secs bs ++ sp)) :: F) (fun v L' => v = .tuple #[S (rep (xall bs)), int 0] ∧ L' = (b, row 9 (secs bs ++ sp)) :: F) := by
  refine spec_body Try.func134 Try.ntmps134 rfl rfl ?_
  refine wc_seq ?_
  refine wc_region ?_
  refine wl_pu (y_assign rfl) rfl ?_
  refine wl_pu (y_assign rfl) rfl ?_
  refine wl_nil ?_
  refine at_then ?_
  refine wc_seq ?_
  refine wc_region ?_
  refine wl_do (d_make (z := .int .u8 0) (by_ := 1) Try.underlying24 (zeroB_of (by kernel_rfl)) (by kernel_rfl) rfl (by kernel_rfl) rfl rfl (by omega)) rfl ?_
  rintro _ _ ⟨bo, rfl, rfl⟩
  refine wl_heap ((bo, row 5 (B8 (rep 0))) :: (b, row 9 (secs bs ++ sp)) :: F) rfl ?_
  refine wl_pu (y_assign rfl) rfl ?_
  refine wl_nil ?_
  refine at_then ?_
  refine wc_seq ?_
  refine wc_seq ?_
  refine wc_region ?_
  refine wl_pu (y_move rfl) rfl ?_
  refine wl_pu (y_lenL Try.underlying36 rfl) rfl ?_
  refine wl_pu (y_move rfl) rfl ?_
  refine wl_nil ?_
  refine at_then ?_
  refine wc_block ?_
  -- at: loop
  refine wc_loop (σ := Nat) (fun i => i ≤ bs.length) (fun i => bs.length - i) (fun i => [(4, sl bo 0 64 64), (9, sl b 0 bs.length cap), (10, int (bs.length : Int)), (11, int (i : Int))]) (fun i => (bo, row 5 (B8 (rep (xall (bs.take i))))) :: (b, row 9 (secs bs ++ sp)) :: F) 0 (by omega) ⟨rfl, rfl, rfl, rfl, trivial⟩ rfl ?_
  intro i hi
  generalize hx : xall (bs.take i) = x
  show WC _ _ _ _ [(4, sl bo 0 64 64), (9, sl b 0 bs.length cap), (10, int (bs.length : Int)), (11, int (i : Int))] _
  refine wc_seq ?_
  refine wc_region ?_
  refine wl_pu (y_lss rfl rfl) rfl ?_
  refine wl_nil ?_
  refine at_then ?_
  refine wc_seq ?_
  -- at: cond
  refine wc_condD rfl (fun h => ?_) (fun h => ?_)
  · skip
    have hi' : i < bs.length := by omega
    have hst := xall_step hi'
    rw [hx] at hst
    generalize hy : bs[i] = y at hst
    refine wc_skip ?_
    refine at_then ?_
    refine wc_seq ?_
    refine wc_block ?_
    refine wc_seq ?_
    refine wc_region ?_
    first | refine wl_pu (y_ix1 Try.underlying36 (by kernel_rfl) rfl rfl (by omega)) rfl ?_ | refine wl_pu (y_ix 1 Try.underlying36 (by kernel_rfl) rfl rfl (by omega)) rfl ?_
    refine wl_rd (y_load 1 rfl rfl (v := S (rep y)) (by rw [Int.toNat_natCast, ← hy]; exact secs_at hi') (by kernel_rfl)) rfl ?_
    refine wl_pu (y_assign rfl) rfl ?_
    refine wl_nil ?_
    refine at_then ?_
    refine wc_seq ?_
    refine wc_seq ?_
    refine wc_region ?_
    refine wl_pu (y_move rfl) rfl ?_
    -- at: op (call {callee:(value (func 139)), args:[t15], argTypes:[9]})
    refine wl_do (d_call (by kernel_rfl) rfl (is_spec _ y)) rfl ?_
    rintro _ _ ⟨rfl, rfl⟩
    first | refine wl_pu (y_notT rfl) rfl ?_ | refine wl_pu (y_notF rfl) rfl ?_ | refine wl_pu (y_not rfl) rfl ?_ | refine wl_pu (y_notB rfl) rfl ?_
    refine wl_nil ?_
    refine at_then ?_
    -- at: cond
    refine wc_condF rfl ?_
    refine wc_skip ?_
    refine at_then ?_
    refine wc_seq ?_
    refine wc_region ?_
    refine wl_pu (y_move rfl) rfl ?_
    refine wl_pu (y_lenL Try.underlying24 rfl) rfl ?_
    refine wl_pu (y_move rfl) rfl ?_
    refine wl_nil ?_
    refine at_then ?_
    refine wc_block ?_
    -- at: loop
    refine wc_loop (σ := Nat) (fun j => j ≤ 64) (fun j => 64 - j) (fun j => [(4, sl bo 0 64 64), (6, S (rep y)), (9, sl b 0 bs.length cap), (10, int (bs.length : Int)), (11, int (i : Int)), (19, int 64), (20, int (j : Int))]) (fun j => (bo, row 5 (B8 (mix j x y))) :: (b, row 9 (secs bs ++ sp)) :: F) 0 (by omega) ⟨rfl, rfl, rfl, rfl, rfl, rfl, rfl, trivial⟩ (by show _ :: _ = _ :: _; rw [mix_zero]) ?_
    intro j hj
    show WC _ _ _ _ [(4, sl bo 0 64 64), (6, S (rep y)), (9, sl b 0 bs.length cap), (10, int (bs.length : Int)), (11, int (i : Int)), (19, int 64), (20, int (j : Int))] _
    refine wc_seq ?_
    refine wc_region ?_
    refine wl_pu (y_lss rfl rfl) rfl ?_
    refine wl_nil ?_
    refine at_then ?_
    refine wc_seq ?_
    -- at: cond
    refine wc_condD rfl (fun hj6 => ?_) (fun hj6 => ?_)
    · skip
      have hj' : j < 64 := by omega
      have hxb := UInt8.toNat_lt x
      have hyb := UInt8.toNat_lt y
      refine wc_skip ?_
      refine at_then ?_
      refine wc_seq ?_
      refine wc_block ?_
      refine wc_seq ?_
      refine wc_region ?_
      refine wl_pu (y_move rfl) rfl ?_
      refine wl_pu (y_assign rfl) rfl ?_
      refine wl_nil ?_
      refine at_then ?_
      -- at: draw
      apply wc_draw 9 (pl := [_, _, _, _, _, _, _, _, _]) (by kernel_rfl)
      rotate_left
      refine hw_pu (y_move rfl) ?_
      refine hw_pu (y_move rfl) ?_
      first | refine hw_pu (y_ix1 Try.underlying24 (by kernel_rfl) rfl rfl (by omega)) ?_ | refine hw_pu (y_ix 1 Try.underlying24 (by kernel_rfl) rfl rfl (by omega)) ?_
      refine hw_rd (y_load 0 rfl rfl (v := .int .u8 (x.toNat : Int)) (by rw [Int.toNat_natCast]; have := B8_nth (sp := []) (l := mix j x y) (q := j) (by rw [mix_len hj]; exact hj'); rw [mix_at hj', List.append_nil] at this; exact this) (by kernel_rfl)) ?_
      refine hw_pu (y_move rfl) ?_
      refine hw_pu (y_move rfl) ?_
      refine hw_pu (v := .int .u8 ((y.toNat : Nat) : Int)) (by rw [← at8_rep y j hj']; exact y_ixS Try.underlying9 rfl rfl (by rw [rep_len]; omega)) ?_
      refine hw_pu (y_xor x.toNat y.toNat rfl rfl hxb hyb) ?_
      first | refine hw_pu (y_ix1 Try.underlying24 (by kernel_rfl) rfl rfl (by omega)) ?_ | refine hw_pu (y_ix 1 Try.underlying24 (by kernel_rfl) rfl rfl (by omega)) ?_
      refine hw_end1 rfl ?_
      case hB => kernel_rfl
      refine wl_do0 (d_store 0 rfl rfl rfl (by rw [Int.toNat_natCast, B8_length, mix_len hj]; exact Nat.ble_eq_true_of_le hj') rfl (by kernel_rfl)) (fun _ _ hL => ?_)
      subst hL
      refine wl_heap ((bo, row 5 (B8 (mix (j + 1) x y))) :: (b, row 9 (secs bs ++ sp)) :: F) ?_ ?_
      · show (bo, row 5 _) :: _ = _
        rw [Int.toNat_natCast, ← mix_set hj', ← UInt8.toNat_xor]
        have := B8_set (sp := []) (l := mix j x y) (q := j) (by rw [mix_len hj]; exact hj') (x ^^^ y)
        rw [List.append_nil, List.append_nil] at this
        rw [this]
      refine wl_nil ?_
      refine at_nq ?_
      refine at_block_normal ?_
      refine at_then ?_
      refine wc_region ?_
      refine wl_pu (y_add rfl rfl (by omega)) rfl ?_
      refine wl_pu (y_move rfl) rfl ?_
      refine wl_nil ?_
      -- at: round
      exact at_again (j + 1) (by omega) (by omega) ⟨rfl, rfl, rfl, rfl, rfl, rfl, rfl, trivial⟩ rfl
    · skip
      have hj6' : j = 64 := by omega
      subst hj6'
      refine wc_exit ?_
      refine at_then_exit ?_
      refine at_then_exit ?_
      refine at_block_same ?_
      refine at_block_normal ?_
      refine at_then ?_
      refine wc_region ?_
      refine wl_pu (y_add rfl rfl (by omega)) rfl ?_
      refine wl_pu (y_move rfl) rfl ?_
      refine wl_nil ?_
      -- at: round
      refine at_again (i + 1) (by omega) (by omega) ⟨rfl, rfl, rfl, rfl, trivial⟩ ?_
      show _ :: _ = _ :: _
      rw [mix_all, hst]
  · skip
    have hil : i = bs.length := by omega
    refine wc_exit ?_
    refine at_then_exit ?_
    refine at_then_exit ?_
    refine at_block_same ?_
    refine at_then ?_
    refine wc_seq ?_
    refine wc_region ?_
    refine wl_pu (y_move rfl) rfl ?_
    refine wl_rd (y_toStr 0 (rep x) Try.underlying24 Try.underlying5 Try.underlying9 rfl rfl (by rw [List.drop_zero, List.take_of_length_le (by rw [B8_length, rep_len]; omega)]) (rep_len x)) rfl ?_
    refine wl_pu (y_assign rfl) rfl ?_
    refine wl_pu (y_assign rfl) rfl ?_
    refine wl_nil ?_
    refine at_then ?_
    refine wc_ret ?_
    -- at: ret
    refine at_drop ?_
    refine at_ret2 rfl rfl rfl ?_
    exact ⟨by rw [← hx, hil, List.take_length], rfl⟩

theorem xsum0_spec (F : Hp) : Ctr Try.prog 134 [.slice none 0 0] F (fun v L' => v = .tuple #[S (rep 0), int 0] ∧ L' = F) := by
  refine spec_body Try.func134 Try.ntmps134 rfl rfl ?_
  refine wc_seq ?_
  refine wc_region ?_
  refine wl_pu (y_assign rfl) rfl ?_
  refine wl_pu (y_assign rfl) rfl ?_
  refine wl_nil ?_
  refine at_then ?_
  refine wc_seq ?_
  refine wc_region ?_
  refine wl_do (d_make (z := .int .u8 0) (by_ := 1) Try.underlying24 (zeroB_of (by kernel_rfl)) (by kernel_rfl) rfl (by kernel_rfl) rfl rfl (by omega)) rfl ?_
  rintro _ _ ⟨bo, rfl, rfl⟩
  refine wl_heap ((bo, row 5 (B8 (rep 0))) :: F) rfl ?_
  refine wl_pu (y_assign rfl) rfl ?_
  refine wl_nil ?_
  refine at_then ?_
  refine wc_seq ?_
  refine wc_seq ?_
  refine wc_region ?_
  refine wl_pu (y_move rfl) rfl ?_
  refine wl_pu (y_lenL Try.underlying36 rfl) rfl ?_
  refine wl_pu (y_move rfl) rfl ?_
  refine wl_nil ?_
  refine at_then ?_
  refine wc_block ?_
  -- at: loop
  refine wc_loop (σ := Unit) (fun i => True) (fun i => 0) (fun i => [(4, sl bo 0 64 64), (10, int ((0 : Nat) : Int)), (11, int 0)]) (fun i => (bo, row 5 (B8 (rep 0))) :: F) () trivial ⟨rfl, rfl, rfl, trivial⟩ rfl ?_
  intro _ _
  show WC _ _ _ _ [(4, sl bo 0 64 64), (10, int ((0 : Nat) : Int)), (11, int 0)] _
  refine wc_seq ?_
  refine wc_region ?_
  refine wl_pu (y_lss rfl rfl) rfl ?_
  refine wl_nil ?_
  refine at_then ?_
  refine wc_seq ?_
  -- at: cond
  refine wc_condD rfl (fun hc => absurd hc ((by omega))) (fun _ => ?_)
  refine wc_exit ?_
  refine at_then_exit ?_
  refine at_then_exit ?_
  refine at_block_same ?_
  refine at_then ?_
  refine wc_seq ?_
  refine wc_region ?_
  refine wl_pu (y_move rfl) rfl ?_
  refine wl_rd (y_toStr 0 (rep 0) Try.underlying24 Try.underlying5 Try.underlying9 rfl rfl (by rw [List.drop_zero, List.take_of_length_le (by rw [B8_length, rep_len]; omega)]) (rep_len 0)) rfl ?_
  refine wl_pu (y_assign rfl) rfl ?_
  refine wl_pu (y_assign rfl) rfl ?_
  refine wl_nil ?_
  refine at_then ?_
  refine wc_ret ?_
  -- at: ret
  refine at_drop ?_
  refine at_ret2 rfl rfl rfl ?_
  exact ⟨rfl, rfl⟩

theorem xsum_spec (F : Hp) {v : Value} {bs : List UInt8} {fr : Hp} (hS : SlF 9 1 v bs.length (secs bs) fr) (hn : bs.length ≤ 1000000) :
    Ctr Try.prog 134 [v] (fr ++ F) (fun u L' => u = .tuple #[S (rep (xall bs)), int 0] ∧ L' = fr ++ F) := by
  generalize hk : bs.length = k at hS
  generalize hc : secs bs = cs at hS
  cases hS with
  | nil =>
    have hx : bs = [] := List.map_eq_nil_iff.1 hc
    subst hx
    exact xsum0_spec F
  | own b _ cap _ sp hx hcap hs =>
    subst hk
    subst hc
    exact xsumS_spec F b cap bs sp hn

theorem xright_spec (F : Hp) {v : Value} {bs : List UInt8} {fr : Hp} (hS : SlF 9 1 v bs.length (secs bs) fr) (hn : bs.length ≤ 1000000) (h0 : xall bs = 0) :
    Ctr Try.prog 97 [v] (fr ++ F) (fun u L' => u = .bool true ∧ L' = fr ++ F) := by
  refine spec_body Try.func97 Try.ntmps97 rfl rfl ?_
  refine wc_seq ?_
  refine wc_region ?_
  refine wl_pu (y_assign rfl) rfl ?_
  refine wl_nil ?_
  refine at_then ?_
  refine wc_seq ?_
  refine wc_region ?_
  refine wl_pu (y_move rfl) rfl ?_
  -- at: op (call {callee:(value (func 134)), args:[t6], argTypes:[36]})
  refine wl_do (d_call (by kernel_rfl) rfl (xsum_spec F hS hn)) rfl ?_
  rintro _ L9 ⟨rfl, hL9⟩
  rw [hL9]
  clear hL9
  rw [h0]
  refine wl_pu (y_move rfl) rfl ?_
  refine wl_pu (y_extract rfl rfl) rfl ?_
  refine wl_pu (y_extract rfl rfl) rfl ?_
  refine wl_pu (y_assign rfl) rfl ?_
  refine wl_pu (y_assign rfl) rfl ?_
  refine wl_nil ?_
  refine at_then ?_
  refine wc_seq ?_
  refine wc_region ?_
  refine wl_pu (y_move rfl) rfl ?_
  refine wl_pu (y_eql rfl rfl) rfl ?_
  refine wl_pu (y_move rfl) rfl ?_
  -- at: guard 2
  refine wl_gon rfl rfl ?_
  refine wl_pu (y_move rfl) rfl ?_
  refine wl_gon rfl rfl ?_
  -- at: op (call {callee:(value (func 148)), args:[], argTypes:[]})
  refine wl_do (d_call (by kernel_rfl) rfl (zero_spec (fr ++ F))) rfl ?_
  rintro _ L9 ⟨rfl, hL9⟩
  rw [hL9]
  clear hL9
  refine wl_gon rfl rfl ?_
  refine wl_pu (y_eqS rfl rfl) rfl ?_
  first | refine wl_pu (y_pickT rfl rfl) rfl ?_ | refine wl_pu (y_pickF rfl rfl) rfl ?_
  refine wl_pu (y_assign rfl) rfl ?_
  refine wl_nil ?_
  refine at_then ?_
  refine wc_ret ?_
  -- at: ret
  refine at_ret1 rfl rfl ?_
  exact ⟨by simp, rfl⟩
end Go.Proofs.Ytkpndnjhfocheaa
