/- The receive buffer (rbuf): what each call comes to. -/
import Derived.Test.YtkpndnjhfocheaaChecked
import Derived.Test.YtkpndnjhfocheaaPipedA
namespace Go.Proofs.Ytkpndnjhfocheaa
open Go.SL
variable {X : Inhabited SL.Outside}

def bs (l : List Bool) : List Value := l.map Value.bool
theorem bs_length (l : List Bool) : (bs l).length = l.length := by simp [bs]
theorem bs_set (l : List Bool) (k : Nat) (x : Bool) : (bs l).set k (.bool x) = bs (l.set k x) := by simp [bs, List.map_set]
theorem B8_set (l : List UInt8) (k : Nat) (c : UInt8) : (B8 l).set k (.int .u8 (c.toNat : Int)) = B8 (l.set k c) := by simp [B8, List.map_set]
theorem bs_nth (l : List Bool) (k : Nat) (h : k < l.length) : nth (bs l) k = some (.bool (l[k]?.getD false)) := by
  rw [nth_eq, bs, List.getElem?_map, List.getElem?_eq_getElem h]; rfl
theorem allOne_bs (l : List Bool) : allOne (bs l) = true := by simp [allOne, bs, Value.oneCell']
theorem blt_of {a b : Nat} (h : a < b) : Nat.blt a b = true := Nat.ble_eq_true_of_le h

/-- The buffer's own words. -/
abbrev rbo (room : Nat) (next : Int) (vr : Value) (bd bh : Nat) (held : Int) : Obj := row 141 [int room, .int .u32 next, vr, sl bd 0 room room, sl bh 0 room room, int held]

theorem rnone_spec (F : Hp) (b : Nat) (room : Nat) (next : Int) (vr : Value) (bd bh : Nat) (held : Int) (hr : 1 ≤ room) :
    Ctr Try.prog 64 [ptr b 0] ((b, rbo room next vr bd bh held) :: F) (fun v L' => v = .bool false ∧ L' = (b, rbo room next vr bd bh held) :: F) := by
  refine spec_body Try.func64 Try.ntmps64 rfl rfl ?_
  refine wc_seq ?_
  refine wc_region ?_
  refine wl_pu (y_assign rfl) rfl ?_
  refine wl_nil ?_
  refine at_then ?_
  refine wc_seq ?_
  refine wc_region ?_
  refine wl_pu (y_move rfl) rfl ?_
  refine wl_pu (y_eqlnil Try.underlying48 rfl rfl) rfl ?_
  refine wl_pu (y_move rfl) rfl ?_
  -- at: guard 2
  refine wl_gon rfl rfl ?_
  refine wl_pu (y_move rfl) rfl ?_
  refine wl_gon rfl rfl ?_
  refine wl_pu (y_nil rfl) rfl ?_
  refine wl_gon rfl rfl ?_
  first | refine wl_pu (y_fieldAddr0 0 Try.underlying141 rfl rfl (by kernel_rfl) rfl) rfl ?_ | refine wl_pu (y_fieldAddr 0 Try.underlying141 rfl rfl (by kernel_rfl) rfl) rfl ?_
  refine wl_gon rfl rfl ?_
  first | refine wl_rd (y_load 0 rfl rfl rfl (by kernel_rfl)) rfl ?_ | refine wl_rd (y_load 1 rfl rfl rfl (by kernel_rfl)) rfl ?_ | refine wl_rd (y_load 2 rfl rfl rfl (by kernel_rfl)) rfl ?_ | refine wl_rd (y_load 3 rfl rfl rfl (by kernel_rfl)) rfl ?_ | refine wl_rd (y_load 4 rfl rfl rfl (by kernel_rfl)) rfl ?_ | refine wl_rd (y_load 5 rfl rfl rfl (by kernel_rfl)) rfl ?_
  refine wl_gon rfl rfl ?_
  refine wl_pu (y_eql rfl rfl) rfl ?_
  first | refine wl_pu (y_pickT rfl rfl) rfl ?_ | refine wl_pu (y_pickF rfl rfl) rfl ?_
  refine wl_pu (y_assign rfl) rfl ?_
  refine wl_nil ?_
  refine at_then ?_
  refine wc_ret ?_
  -- at: ret
  refine at_ret1 rfl rfl ?_
  exact ⟨by simp; omega, rfl⟩

theorem rnext_spec (F : Hp) (b : Nat) (room : Nat) (next : Int) (vr : Value) (bd bh : Nat) (held : Int) (hr : 1 ≤ room) :
    Ctr Try.prog 26 [ptr b 0] ((b, rbo room next vr bd bh held) :: F) (fun v L' => v = .int .u32 next ∧ L' = (b, rbo room next vr bd bh held) :: F) := by
  refine spec_body Try.func26 Try.ntmps26 rfl rfl ?_
  refine wc_seq ?_
  refine wc_region ?_
  refine wl_pu (y_assign rfl) rfl ?_
  refine wl_nil ?_
  refine at_then ?_
  refine wc_seq ?_
  refine wc_seq ?_
  refine wc_region ?_
  refine wl_pu (y_move rfl) rfl ?_
  -- at: op (call {callee:(value (func 64)), args:[t3], argTypes:[48]})
  refine wl_do (d_call (by kernel_rfl) rfl (rnone_spec _ _ _ _ _ _ _ _ hr)) rfl ?_
  rintro _ _ ⟨rfl, rfl⟩
  refine wl_nil ?_
  refine at_then ?_
  -- at: cond
  refine wc_condF rfl ?_
  refine wc_skip ?_
  refine at_then ?_
  refine wc_seq ?_
  refine wc_region ?_
  refine wl_pu (y_move rfl) rfl ?_
  refine wl_pu (y_nil rfl) rfl ?_
  first | refine wl_pu (y_fieldAddr0 1 Try.underlying141 rfl rfl (by kernel_rfl) rfl) rfl ?_ | refine wl_pu (y_fieldAddr 1 Try.underlying141 rfl rfl (by kernel_rfl) rfl) rfl ?_
  first | refine wl_rd (y_load 0 rfl rfl rfl (by kernel_rfl)) rfl ?_ | refine wl_rd (y_load 1 rfl rfl rfl (by kernel_rfl)) rfl ?_ | refine wl_rd (y_load 2 rfl rfl rfl (by kernel_rfl)) rfl ?_ | refine wl_rd (y_load 3 rfl rfl rfl (by kernel_rfl)) rfl ?_ | refine wl_rd (y_load 4 rfl rfl rfl (by kernel_rfl)) rfl ?_ | refine wl_rd (y_load 5 rfl rfl rfl (by kernel_rfl)) rfl ?_
  refine wl_pu (y_assign rfl) rfl ?_
  refine wl_nil ?_
  refine at_then ?_
  refine wc_ret ?_
  -- at: ret
  refine at_ret1 rfl rfl ?_
  exact ⟨rfl, rfl⟩

theorem rwindow_spec (F : Hp) (b : Nat) (room : Nat) (next : Int) (p : Option Addr) (k cap : Nat) (bd bh : Nat) (held : Int) (hr : 1 ≤ room ∧ room ≤ 2048) (hk : k ≤ 2048) :
    Ctr Try.prog 65 [ptr b 0] ((b, rbo room next (.slice p k cap) bd bh held) :: F) (fun v L' => v = int ((room : Int) - k) ∧ L' = (b, rbo room next (.slice p k cap) bd bh held) :: F) := by
  refine spec_body Try.func65 Try.ntmps65 rfl rfl ?_
  refine wc_seq ?_
  refine wc_region ?_
  refine wl_pu (y_assign rfl) rfl ?_
  refine wl_nil ?_
  refine at_then ?_
  refine wc_seq ?_
  refine wc_seq ?_
  refine wc_region ?_
  refine wl_pu (y_move rfl) rfl ?_
  -- at: op (call {callee:(value (func 64)), args:[t3], argTypes:[48]})
  refine wl_do (d_call (by kernel_rfl) rfl (rnone_spec _ _ _ _ _ _ _ _ hr.1)) rfl ?_
  rintro _ _ ⟨rfl, rfl⟩
  refine wl_nil ?_
  refine at_then ?_
  -- at: cond
  refine wc_condF rfl ?_
  refine wc_skip ?_
  refine at_then ?_
  refine wc_seq ?_
  -- at: draw
  apply wc_draw 11 (pl := [_, _, _, _, _, _, _, _, _, _, _]) (by kernel_rfl)
  rotate_left
  refine hw_pu (y_move rfl) ?_
  refine hw_pu (y_nil rfl) ?_
  first | refine hw_pu (y_fieldAddr0 0 Try.underlying141 rfl rfl (by kernel_rfl) rfl) ?_ | refine hw_pu (y_fieldAddr 0 Try.underlying141 rfl rfl (by kernel_rfl) rfl) ?_
  first | refine hw_rd (y_load 0 rfl rfl rfl (by kernel_rfl)) ?_ | refine hw_rd (y_load 1 rfl rfl rfl (by kernel_rfl)) ?_ | refine hw_rd (y_load 2 rfl rfl rfl (by kernel_rfl)) ?_ | refine hw_rd (y_load 3 rfl rfl rfl (by kernel_rfl)) ?_ | refine hw_rd (y_load 4 rfl rfl rfl (by kernel_rfl)) ?_ | refine hw_rd (y_load 5 rfl rfl rfl (by kernel_rfl)) ?_
  refine hw_pu (y_move rfl) ?_
  refine hw_pu (y_nil rfl) ?_
  first | refine hw_pu (y_fieldAddr0 2 Try.underlying141 rfl rfl (by kernel_rfl) rfl) ?_ | refine hw_pu (y_fieldAddr 2 Try.underlying141 rfl rfl (by kernel_rfl) rfl) ?_
  first | refine hw_rd (y_load 0 rfl rfl rfl (by kernel_rfl)) ?_ | refine hw_rd (y_load 1 rfl rfl rfl (by kernel_rfl)) ?_ | refine hw_rd (y_load 2 rfl rfl rfl (by kernel_rfl)) ?_ | refine hw_rd (y_load 3 rfl rfl rfl (by kernel_rfl)) ?_ | refine hw_rd (y_load 4 rfl rfl rfl (by kernel_rfl)) ?_ | refine hw_rd (y_load 5 rfl rfl rfl (by kernel_rfl)) ?_
  refine hw_pu (y_lenL Try.underlying24 rfl) ?_
  refine hw_pu (y_sub rfl rfl (by omega)) ?_
  refine hw_pu (y_assign rfl) ?_
  refine hw_end [] rfl ?_
  case hB => kernel_rfl
  refine wl_nil ?_
  refine at_nq ?_
  refine at_then ?_
  refine wc_ret ?_
  -- at: ret
  refine at_ret1 rfl rfl ?_
  exact ⟨rfl, rfl⟩

/-- One byte of what came. -/
def putStep (next seq window : Int) (d : List UInt8) (st : List UInt8 × List Bool) (i : Nat) : List UInt8 × List Bool :=
  if (((seq + i) % 4294967296 - next) % 4294967296) < window ∧ st.2[(((seq + i) % 4294967296 - next) % 4294967296).toNat]?.getD false = false then
    (st.1.set (((seq + i) % 4294967296 - next) % 4294967296).toNat (d[i]?.getD 0), st.2.set (((seq + i) % 4294967296 - next) % 4294967296).toNat true)
  else st
def putTo (next seq window : Int) (d : List UInt8) (data : List UInt8) (has : List Bool) (i : Nat) : List UInt8 × List Bool := (List.range i).foldl (putStep next seq window d) (data, has)
theorem putTo_succ (next seq window : Int) (d data : List UInt8) (has : List Bool) (i : Nat) : putTo next seq window d data has (i + 1) = putStep next seq window d (putTo next seq window d data has i) i := by
  simp [putTo, List.range_succ]
theorem putTo_len (next seq window : Int) (d data : List UInt8) (has : List Bool) : ∀ i, (putTo next seq window d data has i).1.length = data.length ∧ (putTo next seq window d data has i).2.length = has.length
  | 0 => ⟨rfl, rfl⟩
  | i + 1 => by
    rw [putTo_succ, putStep]
    split <;> simp [putTo_len next seq window d data has i]

theorem slF_form {T : TypeId} {sz : Nat} {v : Value} {k : Nat} {xs : List Value} {fr : Hp} (h : SlF T sz v k xs fr) : ∃ p cap, v = .slice p k cap := by
  cases h with
  | nil => exact ⟨_, _, rfl⟩
  | own b _ cap _ _ _ _ _ => exact ⟨_, _, rfl⟩

theorem perm3 (x y z : Nat × Obj) (fr F : Hp) : (x :: y :: z :: (fr ++ F)).Perm (fr ++ (x :: y :: z :: F)) := by
  have h : ([x, y, z] ++ (fr ++ F)).Perm (fr ++ ([x, y, z] ++ F)) := by
    rw [← List.append_assoc, ← List.append_assoc]
    exact List.Perm.append_right F List.perm_append_comm
  exact h

/-- The row behind 'copy(a, a[n:])'. -/
def shiftL {α : Type} (l : List α) (n : Nat) : List α := l.drop n ++ l.drop (l.length - n)
theorem shift_copy (l : List Value) (room n : Nat) (hl : l.length = room) (hn : n ≤ room) :
    l.take 0 ++ (l.drop (if room = n then 0 else 0 + n * 1)).take (min (room - n) room) ++ l.drop (0 + min (room - n) room) = shiftL l n := by
  have hm : min (room - n) room = room - n := by omega
  rw [hm, shiftL, hl]
  by_cases e : room = n
  · subst e
    simp [List.drop_of_length_le (Nat.le_of_eq hl)]
  · rw [if_neg e]
    simp only [List.take_zero, List.nil_append, Nat.zero_add, Nat.mul_one]
    rw [List.take_of_length_le (by rw [List.length_drop]; omega)]
theorem shift_B8 (l : List UInt8) (n : Nat) : shiftL (B8 l) n = B8 (shiftL l n) := by simp [shiftL, B8]
theorem shift_bs (l : List Bool) (n : Nat) : shiftL (bs l) n = bs (shiftL l n) := by simp [shiftL, bs]
theorem shift_len {α : Type} (l : List α) (n : Nat) (h : n ≤ l.length) : (shiftL l n).length = l.length := by
  simp only [shiftL, List.length_append, List.length_drop]; omega
/-- The row of what has come, behind the move and the clearing. -/
def moved (l : List Bool) (n : Nat) : List Bool := l.drop n ++ List.replicate n false
theorem moved_eq (l : List Bool) (room n : Nat) (hl : l.length = room) (hn : n ≤ room) :
    (bs (shiftL l n)).take (if room = (↑room - ↑n : Int).toNat then 0 else 0 + (↑room - ↑n : Int).toNat * 1) ++ List.replicate (room - (↑room - ↑n : Int).toNat) (Value.bool false) ++ (bs (shiftL l n)).drop ((if room = (↑room - ↑n : Int).toNat then 0 else 0 + (↑room - ↑n : Int).toNat * 1) + (room - (↑room - ↑n : Int).toNat)) = bs (moved l n) := by
  have h1 : (↑room - ↑n : Int).toNat = room - n := by omega
  rw [h1]
  by_cases h0 : n = 0
  · subst h0
    simp [moved, shiftL]
  · rw [if_neg (by omega)]
    have h2 : room - (room - n) = n := by omega
    rw [h2, Nat.zero_add, Nat.mul_one]
    have hlen : (bs (shiftL l n)).length = room := by rw [bs_length, shift_len l n (by omega), hl]
    rw [List.drop_of_length_le (by omega), List.append_nil]
    have h3 : (bs (shiftL l n)).take (room - n) = bs (l.drop n) := by
      have : (shiftL l n).take (room - n) = l.drop n := by
        rw [shiftL, List.take_append_of_le_length (by rw [List.length_drop]; omega), List.take_of_length_le (by rw [List.length_drop]; omega)]
      rw [bs, ← List.map_take, this, bs]
    rw [h3]
    simp [moved, bs]
theorem moved_zero (l : List Bool) : moved l 0 = l := by simp [moved]
theorem shiftL_zero {α : Type} (l : List α) : shiftL l 0 = l := by simp [shiftL]

theorem shift_copy' (l : List Value) (room n : Nat) (hl : l.length = room) (hn : n ≤ room) :
    l.take 0 ++ (l.drop (if room = (n : Int).toNat then 0 else 0 + (n : Int).toNat * 1)).take (min (room - (n : Int).toNat) room) ++ l.drop (0 + min (room - (n : Int).toNat) room) = shiftL l n := by
  rw [Int.toNat_natCast]
  exact shift_copy l room n hl hn


theorem rput_spec (F fr : Hp) (b bd bh room k cap : Nat) (next seq held : Int) (p : Option Addr) (ready data : List UInt8) (has : List Bool) (d : List UInt8)
    (hr : 1 ≤ room ∧ room ≤ 2048) (hk : ready.length = k) (hkr : k ≤ room) (hd : data.length = room) (hh : has.length = room) (hS : SlF 5 1 (.slice p k cap) k (B8 ready) fr) (hdl : d.length ≤ 65536) :
    Ctr Try.prog 23 [ptr b 0, .int .u32 seq, S d] ((b, rbo room next (.slice p k cap) bd bh held) :: (bd, row 5 (B8 data)) :: (bh, row 4 (bs has)) :: (fr ++ F))
      (fun _ L' => ∃ (n : Nat) (vr' : Value) (fr' : Hp) (held' : Int), (n : Int) ≤ (room : Int) - k ∧
        (∀ j, j < n → (putTo next seq ((room : Int) - k) d data has d.length).2[j]?.getD false = true) ∧
        ((n : Int) = (room : Int) - k ∨ (putTo next seq ((room : Int) - k) d data has d.length).2[n]?.getD false = false) ∧
        SlF 5 1 vr' (k + n) (B8 (ready ++ (putTo next seq ((room : Int) - k) d data has d.length).1.take n)) fr' ∧
        L' = (b, rbo room ((next + n) % 4294967296) vr' bd bh held') :: (bd, row 5 (B8 (shiftL (putTo next seq ((room : Int) - k) d data has d.length).1 n))) :: (bh, row 4 (bs (moved (putTo next seq ((room : Int) - k) d data has d.length).2 n))) :: (fr' ++ F)) := by
  refine spec_body Try.func23 Try.ntmps23 rfl rfl ?_
  refine wc_seq ?_
  refine wc_region ?_
  refine wl_pu (y_assign rfl) rfl ?_
  refine wl_nil ?_
  refine at_then ?_
  refine wc_seq ?_
  refine wc_seq ?_
  refine wc_region ?_
  refine wl_pu (y_move rfl) rfl ?_
  -- at: op (call {callee:(value (func 64)), args:[t11], argTypes:[48]})
  refine wl_do (d_call (by kernel_rfl) rfl (rnone_spec _ _ _ _ _ _ _ _ hr.1)) rfl ?_
  rintro _ _ ⟨rfl, rfl⟩
  refine wl_nil ?_
  refine at_then ?_
  -- at: cond
  refine wc_condF rfl ?_
  refine wc_skip ?_
  refine at_then ?_
  refine wc_seq ?_
  refine wc_region ?_
  refine wl_pu (y_move rfl) rfl ?_
  -- at: op (call {callee:(value (func 65)), args:[t13], argTypes:[48]})
  refine wl_do (d_call (by kernel_rfl) rfl (rwindow_spec _ _ _ _ _ _ _ _ _ _ hr (by omega))) rfl ?_
  rintro _ _ ⟨rfl, rfl⟩
  refine wl_pu (y_assign rfl) rfl ?_
  refine wl_nil ?_
  refine at_then ?_
  refine wc_seq ?_
  refine wc_seq ?_
  refine wc_region ?_
  refine wl_pu (y_move rfl) rfl ?_
  refine wl_pu (y_lenS Try.underlying9 rfl) rfl ?_
  refine wl_pu (y_min rfl rfl) rfl ?_
  refine wl_pu (y_move rfl) rfl ?_
  refine wl_nil ?_
  refine at_then ?_
  refine wc_block ?_
  -- at: loop
  generalize hw : (room : Int) - k = win at *
  refine wc_loop (σ := Nat × Int) (fun s => (s.1 : Int) ≤ min (d.length : Int) 65536) (fun s => d.length - s.1)
    (fun s => [(0, ptr b 0), (1, .int .u32 seq), (2, S d), (7, int win), (17, int (min (d.length : Int) 65536)), (18, int (s.1 : Int))])
    (fun s => (b, rbo room next (.slice p k cap) bd bh s.2) :: (bd, row 5 (B8 (putTo next seq win d data has s.1).1)) :: (bh, row 4 (bs (putTo next seq win d data has s.1).2)) :: (fr ++ F)) (0, held) (by simp; omega) ⟨rfl, rfl, rfl, rfl, rfl, rfl, trivial⟩ rfl ?_
  rintro ⟨i, held1⟩ hI
  simp only [] at hI
  obtain ⟨hl1, hl2⟩ := putTo_len next seq win d data has i
  refine wc_seq ?_
  refine wc_region ?_
  refine wl_pu (y_lss rfl rfl) rfl ?_
  refine wl_nil ?_
  refine at_then ?_
  refine wc_seq ?_
  -- at: cond
  refine wc_condD rfl (fun h => ?_) (fun h => ?_)
  · skip
    refine wc_skip ?_
    refine at_then ?_
    refine wc_seq ?_
    refine wc_block ?_
    refine wc_seq ?_
    refine wc_region ?_
    refine wl_pu (y_move rfl) rfl ?_
    refine wl_pu (y_assign rfl) rfl ?_
    refine wl_nil ?_
    refine at_then ?_
    refine wc_seq ?_
    refine wc_region ?_
    refine wl_pu (y_move rfl) rfl ?_
    refine wl_pu (y_nil rfl) rfl ?_
    first | refine wl_pu (y_fieldAddr0 1 Try.underlying141 rfl rfl (by kernel_rfl) rfl) rfl ?_ | refine wl_pu (y_fieldAddr 1 Try.underlying141 rfl rfl (by kernel_rfl) rfl) rfl ?_
    first | refine wl_rd (y_load 0 rfl rfl rfl (by kernel_rfl)) rfl ?_ | refine wl_rd (y_load 1 rfl rfl rfl (by kernel_rfl)) rfl ?_ | refine wl_rd (y_load 2 rfl rfl rfl (by kernel_rfl)) rfl ?_ | refine wl_rd (y_load 3 rfl rfl rfl (by kernel_rfl)) rfl ?_ | refine wl_rd (y_load 4 rfl rfl rfl (by kernel_rfl)) rfl ?_ | refine wl_rd (y_load 5 rfl rfl rfl (by kernel_rfl)) rfl ?_
    refine wl_pu (y_move rfl) rfl ?_
    refine wl_pu (y_move rfl) rfl ?_
    first | refine wl_pu (y_conv Try.underlying3 Try.underlying23 rfl (IntWalk.u32_in _ (by omega))) rfl ?_ | refine wl_pu (y_conv Try.underlying3 Try.underlying23 rfl rfl) rfl ?_
    refine wl_pu (y_add32 rfl rfl) rfl ?_
    -- at: op (call {callee:(value (func 61)), args:[t24, t28], argTypes:[23, 23]})
    refine wl_do (d_call (by kernel_rfl) rfl (ahead_spec _ _ _)) rfl ?_
    rintro _ _ ⟨rfl, rfl⟩
    refine wl_pu (y_assign rfl) rfl ?_
    refine wl_nil ?_
    refine at_then ?_
    refine wc_seq ?_
    refine wc_region ?_
    refine wl_pu (y_move rfl) rfl ?_
    refine wl_pu (y_move rfl) rfl ?_
    refine wl_pu (y_lss rfl rfl) rfl ?_
    refine wl_pu (y_move rfl) rfl ?_
    -- at: guard 3
    generalize hkk : ((seq + (i : Int)) % 4294967296 - next) % 4294967296 = kk
    have hk0 : 0 ≤ kk := by omega
    refine wl_splitD 33 rfl (fun h2 => ?_) (fun h2 => ?_)
    · skip
      have hkl2 : kk.toNat < (putTo next seq win d data has i).2.length := by clear hkk; omega
      have hkl1 : kk.toNat < (putTo next seq win d data has i).1.length := by clear hkk; omega
      refine wl_gon rfl rfl ?_
      refine wl_pu (y_move rfl) rfl ?_
      refine wl_gon rfl rfl ?_
      refine wl_pu (y_nil rfl) rfl ?_
      refine wl_gon rfl rfl ?_
      first | refine wl_pu (y_fieldAddr0 4 Try.underlying141 rfl rfl (by kernel_rfl) rfl) rfl ?_ | refine wl_pu (y_fieldAddr 4 Try.underlying141 rfl rfl (by kernel_rfl) rfl) rfl ?_
      refine wl_gon rfl rfl ?_
      first | refine wl_rd (y_load 0 rfl rfl rfl (by kernel_rfl)) rfl ?_ | refine wl_rd (y_load 1 rfl rfl rfl (by kernel_rfl)) rfl ?_ | refine wl_rd (y_load 2 rfl rfl rfl (by kernel_rfl)) rfl ?_ | refine wl_rd (y_load 3 rfl rfl rfl (by kernel_rfl)) rfl ?_ | refine wl_rd (y_load 4 rfl rfl rfl (by kernel_rfl)) rfl ?_ | refine wl_rd (y_load 5 rfl rfl rfl (by kernel_rfl)) rfl ?_
      refine wl_gon rfl rfl ?_
      refine wl_pu (y_move rfl) rfl ?_
      refine wl_gon rfl rfl ?_
      first | refine wl_pu (y_ix1 Try.underlying139 (by kernel_rfl) rfl rfl (by omega)) rfl ?_ | refine wl_pu (y_ix 1 Try.underlying139 (by kernel_rfl) rfl rfl (by omega)) rfl ?_
      refine wl_gon rfl rfl ?_
      refine wl_rd (y_load 2 rfl rfl (bs_nth _ kk.toNat hkl2) (by kernel_rfl)) rfl ?_
      refine wl_gon rfl rfl ?_
      first | refine wl_pu (y_notT rfl) rfl ?_ | refine wl_pu (y_notF rfl) rfl ?_ | refine wl_pu (y_not rfl) rfl ?_ | refine wl_pu (y_notB rfl) rfl ?_
      first | refine wl_pu (y_pickT rfl rfl) rfl ?_ | refine wl_pu (y_pickF rfl rfl) rfl ?_
      refine wl_nil ?_
      refine at_then ?_
      -- at: cond
      refine wc_condB rfl (fun h3 => ?_) (fun h3 => ?_)
      · skip
        refine wc_seq ?_
        -- at: draw
        apply wc_draw 14 (pl := [_, _, _, _, _, _, _, _, _, _, _, _, _, _]) (by kernel_rfl)
        rotate_left
        refine hw_pu (y_move rfl) ?_
        refine hw_pu (y_nil rfl) ?_
        first | refine hw_pu (y_fieldAddr0 3 Try.underlying141 rfl rfl (by kernel_rfl) rfl) ?_ | refine hw_pu (y_fieldAddr 3 Try.underlying141 rfl rfl (by kernel_rfl) rfl) ?_
        first | refine hw_rd (y_load 0 rfl rfl rfl (by kernel_rfl)) ?_ | refine hw_rd (y_load 1 rfl rfl rfl (by kernel_rfl)) ?_ | refine hw_rd (y_load 2 rfl rfl rfl (by kernel_rfl)) ?_ | refine hw_rd (y_load 3 rfl rfl rfl (by kernel_rfl)) ?_ | refine hw_rd (y_load 4 rfl rfl rfl (by kernel_rfl)) ?_ | refine hw_rd (y_load 5 rfl rfl rfl (by kernel_rfl)) ?_
        refine hw_pu (y_move rfl) ?_
        refine hw_pu (y_move rfl) ?_
        refine hw_pu (y_nil rfl) ?_
        first | refine hw_pu (y_fieldAddr0 4 Try.underlying141 rfl rfl (by kernel_rfl) rfl) ?_ | refine hw_pu (y_fieldAddr 4 Try.underlying141 rfl rfl (by kernel_rfl) rfl) ?_
        first | refine hw_rd (y_load 0 rfl rfl rfl (by kernel_rfl)) ?_ | refine hw_rd (y_load 1 rfl rfl rfl (by kernel_rfl)) ?_ | refine hw_rd (y_load 2 rfl rfl rfl (by kernel_rfl)) ?_ | refine hw_rd (y_load 3 rfl rfl rfl (by kernel_rfl)) ?_ | refine hw_rd (y_load 4 rfl rfl rfl (by kernel_rfl)) ?_ | refine hw_rd (y_load 5 rfl rfl rfl (by kernel_rfl)) ?_
        refine hw_pu (y_move rfl) ?_
        refine hw_pu (y_move rfl) ?_
        refine hw_pu (y_move rfl) ?_
        refine hw_pu (y_ixS Try.underlying9 rfl rfl (by omega)) ?_
        first | refine hw_pu (y_ix1 Try.underlying24 (by kernel_rfl) rfl rfl (by omega)) ?_ | refine hw_pu (y_ix 1 Try.underlying24 (by kernel_rfl) rfl rfl (by omega)) ?_
        refine hw_end3 rfl ?_
        case hB => kernel_rfl
        refine wl_do0 (d_store 1 rfl rfl rfl (blt_of (by rw [B8_length]; exact hkl1)) rfl (by kernel_rfl)) (fun _ _ hL => ?_)
        subst hL
        first | refine wl_pu (y_ix1 Try.underlying139 (by kernel_rfl) rfl rfl (by omega)) rfl ?_ | refine wl_pu (y_ix 1 Try.underlying139 (by kernel_rfl) rfl rfl (by omega)) rfl ?_
        refine wl_do0 (d_store 2 rfl rfl rfl (blt_of (by rw [bs_length]; exact hkl2)) rfl (by kernel_rfl)) (fun _ _ hL => ?_)
        subst hL
        refine wl_nil ?_
        refine at_nq ?_
        refine at_then ?_
        refine wc_region ?_
        refine wl_pu (y_move rfl) rfl ?_
        refine wl_pu (y_nil rfl) rfl ?_
        first | refine wl_pu (y_fieldAddr0 5 Try.underlying141 rfl rfl (by kernel_rfl) rfl) rfl ?_ | refine wl_pu (y_fieldAddr 5 Try.underlying141 rfl rfl (by kernel_rfl) rfl) rfl ?_
        first | refine wl_rd (y_load 0 rfl rfl rfl (by kernel_rfl)) rfl ?_ | refine wl_rd (y_load 1 rfl rfl rfl (by kernel_rfl)) rfl ?_ | refine wl_rd (y_load 2 rfl rfl rfl (by kernel_rfl)) rfl ?_ | refine wl_rd (y_load 3 rfl rfl rfl (by kernel_rfl)) rfl ?_ | refine wl_rd (y_load 4 rfl rfl rfl (by kernel_rfl)) rfl ?_ | refine wl_rd (y_load 5 rfl rfl rfl (by kernel_rfl)) rfl ?_
        refine wl_pu (y_addW rfl rfl) rfl ?_
        refine wl_pu (y_nil rfl) rfl ?_
        first | refine wl_pu (y_fieldAddr0 5 Try.underlying141 rfl rfl (by kernel_rfl) rfl) rfl ?_ | refine wl_pu (y_fieldAddr 5 Try.underlying141 rfl rfl (by kernel_rfl) rfl) rfl ?_
        first | (refine wl_do0 (d_store 0 rfl rfl rfl rfl rfl (by kernel_rfl)) (fun _ _ hL => ?_); subst hL) | (refine wl_do0 (d_store 1 rfl rfl rfl rfl rfl (by kernel_rfl)) (fun _ _ hL => ?_); subst hL) | (refine wl_do0 (d_store 2 rfl rfl rfl rfl rfl (by kernel_rfl)) (fun _ _ hL => ?_); subst hL) | (refine wl_do0 (d_store 3 rfl rfl rfl rfl rfl (by kernel_rfl)) (fun _ _ hL => ?_); subst hL) | (refine wl_do0 (d_store 4 rfl rfl rfl rfl rfl (by kernel_rfl)) (fun _ _ hL => ?_); subst hL) | (refine wl_do0 (d_store 5 rfl rfl rfl rfl rfl (by kernel_rfl)) (fun _ _ hL => ?_); subst hL)
        refine wl_nil ?_
        refine at_block_normal ?_
        refine at_then ?_
        refine wc_region ?_
        refine wl_pu (y_add rfl rfl (by omega)) rfl ?_
        refine wl_pu (y_move rfl) rfl ?_
        refine wl_nil ?_
        -- at: round
        refine at_again (i + 1, IntKind.i64.wrap (held1 + 1)) (by simp only []; omega) (by simp only []; omega) ⟨rfl, rfl, rfl, rfl, rfl, rfl, trivial⟩ ?_
        have hstep : putTo next seq win d data has (i + 1) = ((putTo next seq win d data has i).1.set kk.toNat (d[i]?.getD 0), (putTo next seq win d data has i).2.set kk.toNat true) := by
          rw [putTo_succ, putStep, if_pos ⟨by rw [hkk]; exact h2, by rw [hkk]; simpa using h3⟩, hkk]
        simp only [hstep, ← B8_set, ← bs_set]
        rfl
      · skip
        refine wc_skip ?_
        refine at_block_normal ?_
        refine at_then ?_
        refine wc_region ?_
        refine wl_pu (y_add rfl rfl (by omega)) rfl ?_
        refine wl_pu (y_move rfl) rfl ?_
        refine wl_nil ?_
        -- at: round
        refine at_again (i + 1, held1) (by simp only []; omega) (by simp only []; omega) ⟨rfl, rfl, rfl, rfl, rfl, rfl, trivial⟩ ?_
        have hstep : putTo next seq win d data has (i + 1) = putTo next seq win d data has i := by
          rw [putTo_succ, putStep, if_neg (fun hc => by rw [hkk] at hc; simp at h3; rw [h3] at hc; exact absurd hc.2 (by simp))]
        simp only [hstep]
    · skip
      refine wl_goff rfl rfl rfl rfl ?_
      refine wl_goff rfl rfl rfl rfl ?_
      refine wl_goff rfl rfl rfl rfl ?_
      refine wl_goff rfl rfl rfl rfl ?_
      refine wl_goff rfl rfl rfl rfl ?_
      refine wl_goff rfl rfl rfl rfl ?_
      refine wl_goff rfl rfl rfl rfl ?_
      refine wl_goff rfl rfl rfl rfl ?_
      first | refine wl_pu (y_pickT rfl rfl) rfl ?_ | refine wl_pu (y_pickF rfl rfl) rfl ?_
      refine wl_nil ?_
      refine at_then ?_
      -- at: cond
      refine wc_condF rfl ?_
      refine wc_skip ?_
      refine at_block_normal ?_
      refine at_then ?_
      refine wc_region ?_
      refine wl_pu (y_add rfl rfl (by omega)) rfl ?_
      refine wl_pu (y_move rfl) rfl ?_
      refine wl_nil ?_
      -- at: round
      refine at_again (i + 1, held1) (by simp only []; omega) (by simp only []; omega) ⟨rfl, rfl, rfl, rfl, rfl, rfl, trivial⟩ ?_
      have hstep : putTo next seq win d data has (i + 1) = putTo next seq win d data has i := by
        rw [putTo_succ, putStep, if_neg (fun hc => by rw [hkk] at hc; exact h2 hc.1)]
      simp only [hstep]
  · skip
    refine wc_exit ?_
    refine at_then_exit ?_
    refine at_then_exit ?_
    refine at_block_same ?_
    refine at_then ?_
    refine wc_seq ?_
    refine wc_region ?_
    refine wl_pu (y_assign rfl) rfl ?_
    refine wl_nil ?_
    refine at_then ?_
    refine wc_seq ?_
    refine wc_block ?_
    -- at: loop
    have hi : i = d.length := by omega
    subst hi
    generalize hD : putTo next seq win d data has d.length = D at *
    obtain ⟨dat, ha⟩ := D
    simp only [] at hl1 hl2 ⊢
    refine wc_loop (σ := Nat) (fun n => (n : Int) ≤ win ∧ ∀ j, j < n → ha[j]?.getD false = true) (fun n => room - n)
      (fun n => [(0, ptr b 0), (7, int win), (10, int (n : Int))])
      (fun _ => (b, rbo room next (.slice p k cap) bd bh held1) :: (bd, row 5 (B8 dat)) :: (bh, row 4 (bs ha)) :: (fr ++ F)) 0 ⟨by simp only [Int.ofNat_zero]; omega, fun j hj => by omega⟩ ⟨rfl, rfl, rfl, trivial⟩ (by simp only) ?_
    rintro n ⟨hn, hall⟩
    refine wc_seq ?_
    refine wc_seq ?_
    refine wc_region ?_
    refine wl_pu (y_move rfl) rfl ?_
    refine wl_pu (y_move rfl) rfl ?_
    refine wl_pu (y_lss rfl rfl) rfl ?_
    refine wl_pu (y_move rfl) rfl ?_
    -- at: guard 3
    refine wl_splitD 69 rfl (fun h3 => ?_) (fun h3 => ?_)
    · skip
      have hnl : ((n : Int)).toNat < ha.length := by omega
      refine wl_gon rfl rfl ?_
      refine wl_pu (y_move rfl) rfl ?_
      refine wl_gon rfl rfl ?_
      refine wl_pu (y_nil rfl) rfl ?_
      refine wl_gon rfl rfl ?_
      first | refine wl_pu (y_fieldAddr0 4 Try.underlying141 rfl rfl (by kernel_rfl) rfl) rfl ?_ | refine wl_pu (y_fieldAddr 4 Try.underlying141 rfl rfl (by kernel_rfl) rfl) rfl ?_
      refine wl_gon rfl rfl ?_
      first | refine wl_rd (y_load 0 rfl rfl rfl (by kernel_rfl)) rfl ?_ | refine wl_rd (y_load 1 rfl rfl rfl (by kernel_rfl)) rfl ?_ | refine wl_rd (y_load 2 rfl rfl rfl (by kernel_rfl)) rfl ?_ | refine wl_rd (y_load 3 rfl rfl rfl (by kernel_rfl)) rfl ?_ | refine wl_rd (y_load 4 rfl rfl rfl (by kernel_rfl)) rfl ?_ | refine wl_rd (y_load 5 rfl rfl rfl (by kernel_rfl)) rfl ?_
      refine wl_gon rfl rfl ?_
      refine wl_pu (y_move rfl) rfl ?_
      refine wl_gon rfl rfl ?_
      first | refine wl_pu (y_ix1 Try.underlying139 (by kernel_rfl) rfl rfl (by omega)) rfl ?_ | refine wl_pu (y_ix 1 Try.underlying139 (by kernel_rfl) rfl rfl (by omega)) rfl ?_
      refine wl_gon rfl rfl ?_
      refine wl_rd (y_load 2 rfl rfl (bs_nth _ ((n : Int)).toNat hnl) (by kernel_rfl)) rfl ?_
      first | refine wl_pu (y_pickT rfl rfl) rfl ?_ | refine wl_pu (y_pickF rfl rfl) rfl ?_
      refine wl_nil ?_
      refine at_then ?_
      -- at: cond
      refine wc_condB rfl (fun h4 => ?_) (fun h4 => ?_)
      · skip
        refine wc_skip ?_
        refine at_then ?_
        refine wc_block ?_
        refine wc_region ?_
        refine wl_pu (y_move rfl) rfl ?_
        refine wl_pu (y_add rfl rfl (by omega)) rfl ?_
        refine wl_pu (y_assign rfl) rfl ?_
        refine wl_nil ?_
        refine at_block_normal ?_
        -- at: round
        refine at_again (n + 1) ⟨by omega, fun j hj => ?_⟩ (by omega) ⟨rfl, rfl, rfl, trivial⟩ rfl
        by_cases e : j = n
        · subst e; simpa using h4
        · exact hall j (by omega)
      · skip
        refine wc_exit ?_
        refine at_then_exit ?_
        refine at_then_exit ?_
        refine at_block_same ?_
        refine at_then ?_
        refine wc_seq ?_
        -- at: draw
        have hend : (n : Int) = win ∨ ha[n]?.getD false = false := .inr (by simpa using h4)
        have hnr : n ≤ room := by omega
        apply wc_draw 11 (pl := [_, _, _, _, _, _, _, _, _, _, _]) (by kernel_rfl)
        rotate_left
        refine hw_pu (y_move rfl) ?_
        refine hw_pu (y_move rfl) ?_
        refine hw_pu (y_nil rfl) ?_
        first | refine hw_pu (y_fieldAddr0 2 Try.underlying141 rfl rfl (by kernel_rfl) rfl) ?_ | refine hw_pu (y_fieldAddr 2 Try.underlying141 rfl rfl (by kernel_rfl) rfl) ?_
        first | refine hw_rd (y_load 0 rfl rfl rfl (by kernel_rfl)) ?_ | refine hw_rd (y_load 1 rfl rfl rfl (by kernel_rfl)) ?_ | refine hw_rd (y_load 2 rfl rfl rfl (by kernel_rfl)) ?_ | refine hw_rd (y_load 3 rfl rfl rfl (by kernel_rfl)) ?_ | refine hw_rd (y_load 4 rfl rfl rfl (by kernel_rfl)) ?_ | refine hw_rd (y_load 5 rfl rfl rfl (by kernel_rfl)) ?_
        refine hw_pu (y_move rfl) ?_
        refine hw_pu (y_nil rfl) ?_
        first | refine hw_pu (y_fieldAddr0 3 Try.underlying141 rfl rfl (by kernel_rfl) rfl) ?_ | refine hw_pu (y_fieldAddr 3 Try.underlying141 rfl rfl (by kernel_rfl) rfl) ?_
        first | refine hw_rd (y_load 0 rfl rfl rfl (by kernel_rfl)) ?_ | refine hw_rd (y_load 1 rfl rfl rfl (by kernel_rfl)) ?_ | refine hw_rd (y_load 2 rfl rfl rfl (by kernel_rfl)) ?_ | refine hw_rd (y_load 3 rfl rfl rfl (by kernel_rfl)) ?_ | refine hw_rd (y_load 4 rfl rfl rfl (by kernel_rfl)) ?_ | refine hw_rd (y_load 5 rfl rfl rfl (by kernel_rfl)) ?_
        refine hw_pu (y_move rfl) ?_
        refine hw_pu (y_toL 1 Try.underlying24 (by kernel_rfl) rfl rfl (by omega)) ?_
        refine hw_end4 rfl ?_
        case hB => kernel_rfl
        refine wl_perm (perm3 _ _ _ _ _) ?_
        refine wl_do (d_append (sz := 1) (bytes := 1) 1 (.int .u8 0) Try.underlying24 (by kernel_rfl) rfl rfl rfl hS rfl rfl (news := B8 (dat.take n)) (by rw [Int.toNat_natCast, Nat.mul_one, List.drop_zero, B8_take]) (by rw [B8_length, List.length_take, Int.toNat_natCast, Nat.mul_one]; omega) (allOne_B8 _) (by omega) (by omega)) rfl ?_
        rintro v1 _ ⟨fr1, hS1, rfl⟩
        refine wl_perm (perm3 _ _ _ _ _).symm ?_
        obtain ⟨p1, cap1, rfl⟩ := slF_form hS1
        refine wl_pu (y_nil rfl) rfl ?_
        first | refine wl_pu (y_fieldAddr0 2 Try.underlying141 rfl rfl (by kernel_rfl) rfl) rfl ?_ | refine wl_pu (y_fieldAddr 2 Try.underlying141 rfl rfl (by kernel_rfl) rfl) rfl ?_
        first | (refine wl_do0 (d_store 0 rfl rfl rfl rfl rfl (by kernel_rfl)) (fun _ _ hL => ?_); subst hL) | (refine wl_do0 (d_store 1 rfl rfl rfl rfl rfl (by kernel_rfl)) (fun _ _ hL => ?_); subst hL) | (refine wl_do0 (d_store 2 rfl rfl rfl rfl rfl (by kernel_rfl)) (fun _ _ hL => ?_); subst hL) | (refine wl_do0 (d_store 3 rfl rfl rfl rfl rfl (by kernel_rfl)) (fun _ _ hL => ?_); subst hL) | (refine wl_do0 (d_store 4 rfl rfl rfl rfl rfl (by kernel_rfl)) (fun _ _ hL => ?_); subst hL) | (refine wl_do0 (d_store 5 rfl rfl rfl rfl rfl (by kernel_rfl)) (fun _ _ hL => ?_); subst hL)
        refine wl_nil ?_
        refine at_nq ?_
        refine at_then ?_
        refine wc_seq ?_
        -- at: draw
        apply wc_draw 10 (pl := [_, _, _, _, _, _, _, _, _, _]) (by kernel_rfl)
        rotate_left
        refine hw_pu (y_move rfl) ?_
        refine hw_pu (y_nil rfl) ?_
        first | refine hw_pu (y_fieldAddr0 3 Try.underlying141 rfl rfl (by kernel_rfl) rfl) ?_ | refine hw_pu (y_fieldAddr 3 Try.underlying141 rfl rfl (by kernel_rfl) rfl) ?_
        first | refine hw_rd (y_load 0 rfl rfl rfl (by kernel_rfl)) ?_ | refine hw_rd (y_load 1 rfl rfl rfl (by kernel_rfl)) ?_ | refine hw_rd (y_load 2 rfl rfl rfl (by kernel_rfl)) ?_ | refine hw_rd (y_load 3 rfl rfl rfl (by kernel_rfl)) ?_ | refine hw_rd (y_load 4 rfl rfl rfl (by kernel_rfl)) ?_ | refine hw_rd (y_load 5 rfl rfl rfl (by kernel_rfl)) ?_
        refine hw_pu (y_move rfl) ?_
        refine hw_pu (y_nil rfl) ?_
        first | refine hw_pu (y_fieldAddr0 3 Try.underlying141 rfl rfl (by kernel_rfl) rfl) ?_ | refine hw_pu (y_fieldAddr 3 Try.underlying141 rfl rfl (by kernel_rfl) rfl) ?_
        first | refine hw_rd (y_load 0 rfl rfl rfl (by kernel_rfl)) ?_ | refine hw_rd (y_load 1 rfl rfl rfl (by kernel_rfl)) ?_ | refine hw_rd (y_load 2 rfl rfl rfl (by kernel_rfl)) ?_ | refine hw_rd (y_load 3 rfl rfl rfl (by kernel_rfl)) ?_ | refine hw_rd (y_load 4 rfl rfl rfl (by kernel_rfl)) ?_ | refine hw_rd (y_load 5 rfl rfl rfl (by kernel_rfl)) ?_
        refine hw_pu (y_move rfl) ?_
        refine hw_pu (y_fromL 1 Try.underlying24 (by kernel_rfl) rfl rfl (by omega)) ?_
        refine hw_end1 rfl ?_
        case hB => kernel_rfl
        refine wl_do (d_copy 1 1 Try.underlying24 (by kernel_rfl) rfl rfl rfl rfl (by rw [B8_length]; split <;> omega) (by rw [B8_length]; omega) (allOne_B8 _)) rfl ?_
        rintro _ _ ⟨rfl, rfl⟩
        refine wl_heap _ (congrArg (fun X => (b, rbo room next (.slice p1 (k + (n : Int).toNat) cap1) bd bh held1) :: (bd, row 5 X) :: (bh, row 4 (bs ha)) :: (fr1 ++ F)) ((shift_copy' (B8 dat) room n (by rw [B8_length]; omega) hnr).trans (shift_B8 dat n))) ?_
        refine wl_nil ?_
        refine at_nq ?_
        refine at_then ?_
        refine wc_seq ?_
        -- at: draw
        apply wc_draw 10 (pl := [_, _, _, _, _, _, _, _, _, _]) (by kernel_rfl)
        rotate_left
        refine hw_pu (y_move rfl) ?_
        refine hw_pu (y_nil rfl) ?_
        first | refine hw_pu (y_fieldAddr0 4 Try.underlying141 rfl rfl (by kernel_rfl) rfl) ?_ | refine hw_pu (y_fieldAddr 4 Try.underlying141 rfl rfl (by kernel_rfl) rfl) ?_
        first | refine hw_rd (y_load 0 rfl rfl rfl (by kernel_rfl)) ?_ | refine hw_rd (y_load 1 rfl rfl rfl (by kernel_rfl)) ?_ | refine hw_rd (y_load 2 rfl rfl rfl (by kernel_rfl)) ?_ | refine hw_rd (y_load 3 rfl rfl rfl (by kernel_rfl)) ?_ | refine hw_rd (y_load 4 rfl rfl rfl (by kernel_rfl)) ?_ | refine hw_rd (y_load 5 rfl rfl rfl (by kernel_rfl)) ?_
        refine hw_pu (y_move rfl) ?_
        refine hw_pu (y_nil rfl) ?_
        first | refine hw_pu (y_fieldAddr0 4 Try.underlying141 rfl rfl (by kernel_rfl) rfl) ?_ | refine hw_pu (y_fieldAddr 4 Try.underlying141 rfl rfl (by kernel_rfl) rfl) ?_
        first | refine hw_rd (y_load 0 rfl rfl rfl (by kernel_rfl)) ?_ | refine hw_rd (y_load 1 rfl rfl rfl (by kernel_rfl)) ?_ | refine hw_rd (y_load 2 rfl rfl rfl (by kernel_rfl)) ?_ | refine hw_rd (y_load 3 rfl rfl rfl (by kernel_rfl)) ?_ | refine hw_rd (y_load 4 rfl rfl rfl (by kernel_rfl)) ?_ | refine hw_rd (y_load 5 rfl rfl rfl (by kernel_rfl)) ?_
        refine hw_pu (y_move rfl) ?_
        refine hw_pu (y_fromL 1 Try.underlying139 (by kernel_rfl) rfl rfl (by omega)) ?_
        refine hw_end1 rfl ?_
        case hB => kernel_rfl
        refine wl_do (d_copy 2 2 Try.underlying139 (by kernel_rfl) rfl rfl rfl rfl (by rw [bs_length]; split <;> omega) (by rw [bs_length]; omega) (allOne_bs _)) rfl ?_
        rintro _ _ ⟨rfl, rfl⟩
        refine wl_heap _ (congrArg (fun X => (b, rbo room next (.slice p1 (k + (n : Int).toNat) cap1) bd bh held1) :: (bd, row 5 (B8 (shiftL dat n))) :: (bh, row 4 X) :: (fr1 ++ F)) ((shift_copy' (bs ha) room n (by rw [bs_length]; omega) hnr).trans (shift_bs ha n))) ?_
        refine wl_nil ?_
        refine at_nq ?_
        refine at_then ?_
        refine wc_seq ?_
        -- at: draw
        apply wc_draw 11 (pl := [_, _, _, _, _, _, _, _, _, _, _]) (by kernel_rfl)
        rotate_left
        refine hw_pu (y_move rfl) ?_
        refine hw_pu (y_nil rfl) ?_
        first | refine hw_pu (y_fieldAddr0 4 Try.underlying141 rfl rfl (by kernel_rfl) rfl) ?_ | refine hw_pu (y_fieldAddr 4 Try.underlying141 rfl rfl (by kernel_rfl) rfl) ?_
        first | refine hw_rd (y_load 0 rfl rfl rfl (by kernel_rfl)) ?_ | refine hw_rd (y_load 1 rfl rfl rfl (by kernel_rfl)) ?_ | refine hw_rd (y_load 2 rfl rfl rfl (by kernel_rfl)) ?_ | refine hw_rd (y_load 3 rfl rfl rfl (by kernel_rfl)) ?_ | refine hw_rd (y_load 4 rfl rfl rfl (by kernel_rfl)) ?_ | refine hw_rd (y_load 5 rfl rfl rfl (by kernel_rfl)) ?_
        refine hw_pu (y_move rfl) ?_
        refine hw_pu (y_nil rfl) ?_
        first | refine hw_pu (y_fieldAddr0 0 Try.underlying141 rfl rfl (by kernel_rfl) rfl) ?_ | refine hw_pu (y_fieldAddr 0 Try.underlying141 rfl rfl (by kernel_rfl) rfl) ?_
        first | refine hw_rd (y_load 0 rfl rfl rfl (by kernel_rfl)) ?_ | refine hw_rd (y_load 1 rfl rfl rfl (by kernel_rfl)) ?_ | refine hw_rd (y_load 2 rfl rfl rfl (by kernel_rfl)) ?_ | refine hw_rd (y_load 3 rfl rfl rfl (by kernel_rfl)) ?_ | refine hw_rd (y_load 4 rfl rfl rfl (by kernel_rfl)) ?_ | refine hw_rd (y_load 5 rfl rfl rfl (by kernel_rfl)) ?_
        refine hw_pu (y_move rfl) ?_
        refine hw_pu (y_sub rfl rfl (by omega)) ?_
        refine hw_pu (y_fromL 1 Try.underlying139 (by kernel_rfl) rfl rfl (by omega)) ?_
        refine hw_end1 rfl ?_
        case hB => kernel_rfl
        refine wl_do0 (d_clear 2 (z := .bool false) Try.underlying139 (zeroB_of (by kernel_rfl)) rfl rfl rfl (by rw [bs_length, shift_len ha n (by omega)]; split <;> omega)) (fun _ _ hL => ?_)
        subst hL
        refine wl_heap _ (congrArg (fun X => (b, rbo room next (.slice p1 (k + (n : Int).toNat) cap1) bd bh held1) :: (bd, row 5 (B8 (shiftL dat n))) :: (bh, row 4 X) :: (fr1 ++ F)) (moved_eq ha room n (by omega) hnr)) ?_
        refine wl_nil ?_
        refine at_nq ?_
        refine at_then ?_
        refine wc_seq ?_
        refine wc_region ?_
        refine wl_pu (y_move rfl) rfl ?_
        refine wl_pu (y_nil rfl) rfl ?_
        first | refine wl_pu (y_fieldAddr0 5 Try.underlying141 rfl rfl (by kernel_rfl) rfl) rfl ?_ | refine wl_pu (y_fieldAddr 5 Try.underlying141 rfl rfl (by kernel_rfl) rfl) rfl ?_
        first | refine wl_rd (y_load 0 rfl rfl rfl (by kernel_rfl)) rfl ?_ | refine wl_rd (y_load 1 rfl rfl rfl (by kernel_rfl)) rfl ?_ | refine wl_rd (y_load 2 rfl rfl rfl (by kernel_rfl)) rfl ?_ | refine wl_rd (y_load 3 rfl rfl rfl (by kernel_rfl)) rfl ?_ | refine wl_rd (y_load 4 rfl rfl rfl (by kernel_rfl)) rfl ?_ | refine wl_rd (y_load 5 rfl rfl rfl (by kernel_rfl)) rfl ?_
        refine wl_pu (y_move rfl) rfl ?_
        refine wl_pu (y_subW rfl rfl) rfl ?_
        refine wl_pu (y_nil rfl) rfl ?_
        first | refine wl_pu (y_fieldAddr0 5 Try.underlying141 rfl rfl (by kernel_rfl) rfl) rfl ?_ | refine wl_pu (y_fieldAddr 5 Try.underlying141 rfl rfl (by kernel_rfl) rfl) rfl ?_
        first | (refine wl_do0 (d_store 0 rfl rfl rfl rfl rfl (by kernel_rfl)) (fun _ _ hL => ?_); subst hL) | (refine wl_do0 (d_store 1 rfl rfl rfl rfl rfl (by kernel_rfl)) (fun _ _ hL => ?_); subst hL) | (refine wl_do0 (d_store 2 rfl rfl rfl rfl rfl (by kernel_rfl)) (fun _ _ hL => ?_); subst hL) | (refine wl_do0 (d_store 3 rfl rfl rfl rfl rfl (by kernel_rfl)) (fun _ _ hL => ?_); subst hL) | (refine wl_do0 (d_store 4 rfl rfl rfl rfl rfl (by kernel_rfl)) (fun _ _ hL => ?_); subst hL) | (refine wl_do0 (d_store 5 rfl rfl rfl rfl rfl (by kernel_rfl)) (fun _ _ hL => ?_); subst hL)
        refine wl_nil ?_
        refine at_then ?_
        refine wc_seq ?_
        refine wc_region ?_
        refine wl_pu (y_move rfl) rfl ?_
        refine wl_pu (y_nil rfl) rfl ?_
        first | refine wl_pu (y_fieldAddr0 1 Try.underlying141 rfl rfl (by kernel_rfl) rfl) rfl ?_ | refine wl_pu (y_fieldAddr 1 Try.underlying141 rfl rfl (by kernel_rfl) rfl) rfl ?_
        first | refine wl_rd (y_load 0 rfl rfl rfl (by kernel_rfl)) rfl ?_ | refine wl_rd (y_load 1 rfl rfl rfl (by kernel_rfl)) rfl ?_ | refine wl_rd (y_load 2 rfl rfl rfl (by kernel_rfl)) rfl ?_ | refine wl_rd (y_load 3 rfl rfl rfl (by kernel_rfl)) rfl ?_ | refine wl_rd (y_load 4 rfl rfl rfl (by kernel_rfl)) rfl ?_ | refine wl_rd (y_load 5 rfl rfl rfl (by kernel_rfl)) rfl ?_
        refine wl_pu (y_move rfl) rfl ?_
        first | refine wl_pu (y_conv Try.underlying3 Try.underlying23 rfl (IntWalk.u32_in _ (by omega))) rfl ?_ | refine wl_pu (y_conv Try.underlying3 Try.underlying23 rfl rfl) rfl ?_
        refine wl_pu (y_add32 rfl rfl) rfl ?_
        refine wl_pu (y_nil rfl) rfl ?_
        first | refine wl_pu (y_fieldAddr0 1 Try.underlying141 rfl rfl (by kernel_rfl) rfl) rfl ?_ | refine wl_pu (y_fieldAddr 1 Try.underlying141 rfl rfl (by kernel_rfl) rfl) rfl ?_
        first | (refine wl_do0 (d_store 0 rfl rfl rfl rfl rfl (by kernel_rfl)) (fun _ _ hL => ?_); subst hL) | (refine wl_do0 (d_store 1 rfl rfl rfl rfl rfl (by kernel_rfl)) (fun _ _ hL => ?_); subst hL) | (refine wl_do0 (d_store 2 rfl rfl rfl rfl rfl (by kernel_rfl)) (fun _ _ hL => ?_); subst hL) | (refine wl_do0 (d_store 3 rfl rfl rfl rfl rfl (by kernel_rfl)) (fun _ _ hL => ?_); subst hL) | (refine wl_do0 (d_store 4 rfl rfl rfl rfl rfl (by kernel_rfl)) (fun _ _ hL => ?_); subst hL) | (refine wl_do0 (d_store 5 rfl rfl rfl rfl rfl (by kernel_rfl)) (fun _ _ hL => ?_); subst hL)
        refine wl_nil ?_
        refine at_then ?_
        refine wc_seq ?_
        refine wc_region ?_
        refine wl_pu (y_move rfl) rfl ?_
        refine wl_pu (y_assign rfl) rfl ?_
        refine wl_nil ?_
        refine at_then ?_
        refine wc_ret ?_
        -- at: ret
        refine at_ret1 rfl rfl ?_
        rw [Int.toNat_natCast, ← B8_append] at hS1
        rw [Int.toNat_natCast]
        exact ⟨n, _, fr1, _, hn, hall, hend, hS1, rfl⟩
    · skip
      refine wl_goff rfl rfl rfl rfl ?_
      refine wl_goff rfl rfl rfl rfl ?_
      refine wl_goff rfl rfl rfl rfl ?_
      refine wl_goff rfl rfl rfl rfl ?_
      refine wl_goff rfl rfl rfl rfl ?_
      refine wl_goff rfl rfl rfl rfl ?_
      refine wl_goff rfl rfl rfl rfl ?_
      first | refine wl_pu (y_pickT rfl rfl) rfl ?_ | refine wl_pu (y_pickF rfl rfl) rfl ?_
      refine wl_nil ?_
      refine at_then ?_
      -- at: cond
      refine wc_condF rfl ?_
      refine wc_exit ?_
      refine at_then_exit ?_
      refine at_then_exit ?_
      refine at_block_same ?_
      refine at_then ?_
      refine wc_seq ?_
      -- at: draw
      have hend : (n : Int) = win ∨ ha[n]?.getD false = false := .inl (by omega)
      have hnr : n ≤ room := by omega
      apply wc_draw 11 (pl := [_, _, _, _, _, _, _, _, _, _, _]) (by kernel_rfl)
      rotate_left
      refine hw_pu (y_move rfl) ?_
      refine hw_pu (y_move rfl) ?_
      refine hw_pu (y_nil rfl) ?_
      first | refine hw_pu (y_fieldAddr0 2 Try.underlying141 rfl rfl (by kernel_rfl) rfl) ?_ | refine hw_pu (y_fieldAddr 2 Try.underlying141 rfl rfl (by kernel_rfl) rfl) ?_
      first | refine hw_rd (y_load 0 rfl rfl rfl (by kernel_rfl)) ?_ | refine hw_rd (y_load 1 rfl rfl rfl (by kernel_rfl)) ?_ | refine hw_rd (y_load 2 rfl rfl rfl (by kernel_rfl)) ?_ | refine hw_rd (y_load 3 rfl rfl rfl (by kernel_rfl)) ?_ | refine hw_rd (y_load 4 rfl rfl rfl (by kernel_rfl)) ?_ | refine hw_rd (y_load 5 rfl rfl rfl (by kernel_rfl)) ?_
      refine hw_pu (y_move rfl) ?_
      refine hw_pu (y_nil rfl) ?_
      first | refine hw_pu (y_fieldAddr0 3 Try.underlying141 rfl rfl (by kernel_rfl) rfl) ?_ | refine hw_pu (y_fieldAddr 3 Try.underlying141 rfl rfl (by kernel_rfl) rfl) ?_
      first | refine hw_rd (y_load 0 rfl rfl rfl (by kernel_rfl)) ?_ | refine hw_rd (y_load 1 rfl rfl rfl (by kernel_rfl)) ?_ | refine hw_rd (y_load 2 rfl rfl rfl (by kernel_rfl)) ?_ | refine hw_rd (y_load 3 rfl rfl rfl (by kernel_rfl)) ?_ | refine hw_rd (y_load 4 rfl rfl rfl (by kernel_rfl)) ?_ | refine hw_rd (y_load 5 rfl rfl rfl (by kernel_rfl)) ?_
      refine hw_pu (y_move rfl) ?_
      refine hw_pu (y_toL 1 Try.underlying24 (by kernel_rfl) rfl rfl (by omega)) ?_
      refine hw_end4 rfl ?_
      case hB => kernel_rfl
      refine wl_perm (perm3 _ _ _ _ _) ?_
      refine wl_do (d_append (sz := 1) (bytes := 1) 1 (.int .u8 0) Try.underlying24 (by kernel_rfl) rfl rfl rfl hS rfl rfl (news := B8 (dat.take n)) (by rw [Int.toNat_natCast, Nat.mul_one, List.drop_zero, B8_take]) (by rw [B8_length, List.length_take, Int.toNat_natCast, Nat.mul_one]; omega) (allOne_B8 _) (by omega) (by omega)) rfl ?_
      rintro v1 _ ⟨fr1, hS1, rfl⟩
      refine wl_perm (perm3 _ _ _ _ _).symm ?_
      obtain ⟨p1, cap1, rfl⟩ := slF_form hS1
      refine wl_pu (y_nil rfl) rfl ?_
      first | refine wl_pu (y_fieldAddr0 2 Try.underlying141 rfl rfl (by kernel_rfl) rfl) rfl ?_ | refine wl_pu (y_fieldAddr 2 Try.underlying141 rfl rfl (by kernel_rfl) rfl) rfl ?_
      first | (refine wl_do0 (d_store 0 rfl rfl rfl rfl rfl (by kernel_rfl)) (fun _ _ hL => ?_); subst hL) | (refine wl_do0 (d_store 1 rfl rfl rfl rfl rfl (by kernel_rfl)) (fun _ _ hL => ?_); subst hL) | (refine wl_do0 (d_store 2 rfl rfl rfl rfl rfl (by kernel_rfl)) (fun _ _ hL => ?_); subst hL) | (refine wl_do0 (d_store 3 rfl rfl rfl rfl rfl (by kernel_rfl)) (fun _ _ hL => ?_); subst hL) | (refine wl_do0 (d_store 4 rfl rfl rfl rfl rfl (by kernel_rfl)) (fun _ _ hL => ?_); subst hL) | (refine wl_do0 (d_store 5 rfl rfl rfl rfl rfl (by kernel_rfl)) (fun _ _ hL => ?_); subst hL)
      refine wl_nil ?_
      refine at_nq ?_
      refine at_then ?_
      refine wc_seq ?_
      -- at: draw
      apply wc_draw 10 (pl := [_, _, _, _, _, _, _, _, _, _]) (by kernel_rfl)
      rotate_left
      refine hw_pu (y_move rfl) ?_
      refine hw_pu (y_nil rfl) ?_
      first | refine hw_pu (y_fieldAddr0 3 Try.underlying141 rfl rfl (by kernel_rfl) rfl) ?_ | refine hw_pu (y_fieldAddr 3 Try.underlying141 rfl rfl (by kernel_rfl) rfl) ?_
      first | refine hw_rd (y_load 0 rfl rfl rfl (by kernel_rfl)) ?_ | refine hw_rd (y_load 1 rfl rfl rfl (by kernel_rfl)) ?_ | refine hw_rd (y_load 2 rfl rfl rfl (by kernel_rfl)) ?_ | refine hw_rd (y_load 3 rfl rfl rfl (by kernel_rfl)) ?_ | refine hw_rd (y_load 4 rfl rfl rfl (by kernel_rfl)) ?_ | refine hw_rd (y_load 5 rfl rfl rfl (by kernel_rfl)) ?_
      refine hw_pu (y_move rfl) ?_
      refine hw_pu (y_nil rfl) ?_
      first | refine hw_pu (y_fieldAddr0 3 Try.underlying141 rfl rfl (by kernel_rfl) rfl) ?_ | refine hw_pu (y_fieldAddr 3 Try.underlying141 rfl rfl (by kernel_rfl) rfl) ?_
      first | refine hw_rd (y_load 0 rfl rfl rfl (by kernel_rfl)) ?_ | refine hw_rd (y_load 1 rfl rfl rfl (by kernel_rfl)) ?_ | refine hw_rd (y_load 2 rfl rfl rfl (by kernel_rfl)) ?_ | refine hw_rd (y_load 3 rfl rfl rfl (by kernel_rfl)) ?_ | refine hw_rd (y_load 4 rfl rfl rfl (by kernel_rfl)) ?_ | refine hw_rd (y_load 5 rfl rfl rfl (by kernel_rfl)) ?_
      refine hw_pu (y_move rfl) ?_
      refine hw_pu (y_fromL 1 Try.underlying24 (by kernel_rfl) rfl rfl (by omega)) ?_
      refine hw_end1 rfl ?_
      case hB => kernel_rfl
      refine wl_do (d_copy 1 1 Try.underlying24 (by kernel_rfl) rfl rfl rfl rfl (by rw [B8_length]; split <;> omega) (by rw [B8_length]; omega) (allOne_B8 _)) rfl ?_
      rintro _ _ ⟨rfl, rfl⟩
      refine wl_heap _ (congrArg (fun X => (b, rbo room next (.slice p1 (k + (n : Int).toNat) cap1) bd bh held1) :: (bd, row 5 X) :: (bh, row 4 (bs ha)) :: (fr1 ++ F)) ((shift_copy' (B8 dat) room n (by rw [B8_length]; omega) hnr).trans (shift_B8 dat n))) ?_
      refine wl_nil ?_
      refine at_nq ?_
      refine at_then ?_
      refine wc_seq ?_
      -- at: draw
      apply wc_draw 10 (pl := [_, _, _, _, _, _, _, _, _, _]) (by kernel_rfl)
      rotate_left
      refine hw_pu (y_move rfl) ?_
      refine hw_pu (y_nil rfl) ?_
      first | refine hw_pu (y_fieldAddr0 4 Try.underlying141 rfl rfl (by kernel_rfl) rfl) ?_ | refine hw_pu (y_fieldAddr 4 Try.underlying141 rfl rfl (by kernel_rfl) rfl) ?_
      first | refine hw_rd (y_load 0 rfl rfl rfl (by kernel_rfl)) ?_ | refine hw_rd (y_load 1 rfl rfl rfl (by kernel_rfl)) ?_ | refine hw_rd (y_load 2 rfl rfl rfl (by kernel_rfl)) ?_ | refine hw_rd (y_load 3 rfl rfl rfl (by kernel_rfl)) ?_ | refine hw_rd (y_load 4 rfl rfl rfl (by kernel_rfl)) ?_ | refine hw_rd (y_load 5 rfl rfl rfl (by kernel_rfl)) ?_
      refine hw_pu (y_move rfl) ?_
      refine hw_pu (y_nil rfl) ?_
      first | refine hw_pu (y_fieldAddr0 4 Try.underlying141 rfl rfl (by kernel_rfl) rfl) ?_ | refine hw_pu (y_fieldAddr 4 Try.underlying141 rfl rfl (by kernel_rfl) rfl) ?_
      first | refine hw_rd (y_load 0 rfl rfl rfl (by kernel_rfl)) ?_ | refine hw_rd (y_load 1 rfl rfl rfl (by kernel_rfl)) ?_ | refine hw_rd (y_load 2 rfl rfl rfl (by kernel_rfl)) ?_ | refine hw_rd (y_load 3 rfl rfl rfl (by kernel_rfl)) ?_ | refine hw_rd (y_load 4 rfl rfl rfl (by kernel_rfl)) ?_ | refine hw_rd (y_load 5 rfl rfl rfl (by kernel_rfl)) ?_
      refine hw_pu (y_move rfl) ?_
      refine hw_pu (y_fromL 1 Try.underlying139 (by kernel_rfl) rfl rfl (by omega)) ?_
      refine hw_end1 rfl ?_
      case hB => kernel_rfl
      refine wl_do (d_copy 2 2 Try.underlying139 (by kernel_rfl) rfl rfl rfl rfl (by rw [bs_length]; split <;> omega) (by rw [bs_length]; omega) (allOne_bs _)) rfl ?_
      rintro _ _ ⟨rfl, rfl⟩
      refine wl_heap _ (congrArg (fun X => (b, rbo room next (.slice p1 (k + (n : Int).toNat) cap1) bd bh held1) :: (bd, row 5 (B8 (shiftL dat n))) :: (bh, row 4 X) :: (fr1 ++ F)) ((shift_copy' (bs ha) room n (by rw [bs_length]; omega) hnr).trans (shift_bs ha n))) ?_
      refine wl_nil ?_
      refine at_nq ?_
      refine at_then ?_
      refine wc_seq ?_
      -- at: draw
      apply wc_draw 11 (pl := [_, _, _, _, _, _, _, _, _, _, _]) (by kernel_rfl)
      rotate_left
      refine hw_pu (y_move rfl) ?_
      refine hw_pu (y_nil rfl) ?_
      first | refine hw_pu (y_fieldAddr0 4 Try.underlying141 rfl rfl (by kernel_rfl) rfl) ?_ | refine hw_pu (y_fieldAddr 4 Try.underlying141 rfl rfl (by kernel_rfl) rfl) ?_
      first | refine hw_rd (y_load 0 rfl rfl rfl (by kernel_rfl)) ?_ | refine hw_rd (y_load 1 rfl rfl rfl (by kernel_rfl)) ?_ | refine hw_rd (y_load 2 rfl rfl rfl (by kernel_rfl)) ?_ | refine hw_rd (y_load 3 rfl rfl rfl (by kernel_rfl)) ?_ | refine hw_rd (y_load 4 rfl rfl rfl (by kernel_rfl)) ?_ | refine hw_rd (y_load 5 rfl rfl rfl (by kernel_rfl)) ?_
      refine hw_pu (y_move rfl) ?_
      refine hw_pu (y_nil rfl) ?_
      first | refine hw_pu (y_fieldAddr0 0 Try.underlying141 rfl rfl (by kernel_rfl) rfl) ?_ | refine hw_pu (y_fieldAddr 0 Try.underlying141 rfl rfl (by kernel_rfl) rfl) ?_
      first | refine hw_rd (y_load 0 rfl rfl rfl (by kernel_rfl)) ?_ | refine hw_rd (y_load 1 rfl rfl rfl (by kernel_rfl)) ?_ | refine hw_rd (y_load 2 rfl rfl rfl (by kernel_rfl)) ?_ | refine hw_rd (y_load 3 rfl rfl rfl (by kernel_rfl)) ?_ | refine hw_rd (y_load 4 rfl rfl rfl (by kernel_rfl)) ?_ | refine hw_rd (y_load 5 rfl rfl rfl (by kernel_rfl)) ?_
      refine hw_pu (y_move rfl) ?_
      refine hw_pu (y_sub rfl rfl (by omega)) ?_
      refine hw_pu (y_fromL 1 Try.underlying139 (by kernel_rfl) rfl rfl (by omega)) ?_
      refine hw_end1 rfl ?_
      case hB => kernel_rfl
      refine wl_do0 (d_clear 2 (z := .bool false) Try.underlying139 (zeroB_of (by kernel_rfl)) rfl rfl rfl (by rw [bs_length, shift_len ha n (by omega)]; split <;> omega)) (fun _ _ hL => ?_)
      subst hL
      refine wl_heap _ (congrArg (fun X => (b, rbo room next (.slice p1 (k + (n : Int).toNat) cap1) bd bh held1) :: (bd, row 5 (B8 (shiftL dat n))) :: (bh, row 4 X) :: (fr1 ++ F)) (moved_eq ha room n (by omega) hnr)) ?_
      refine wl_nil ?_
      refine at_nq ?_
      refine at_then ?_
      refine wc_seq ?_
      refine wc_region ?_
      refine wl_pu (y_move rfl) rfl ?_
      refine wl_pu (y_nil rfl) rfl ?_
      first | refine wl_pu (y_fieldAddr0 5 Try.underlying141 rfl rfl (by kernel_rfl) rfl) rfl ?_ | refine wl_pu (y_fieldAddr 5 Try.underlying141 rfl rfl (by kernel_rfl) rfl) rfl ?_
      first | refine wl_rd (y_load 0 rfl rfl rfl (by kernel_rfl)) rfl ?_ | refine wl_rd (y_load 1 rfl rfl rfl (by kernel_rfl)) rfl ?_ | refine wl_rd (y_load 2 rfl rfl rfl (by kernel_rfl)) rfl ?_ | refine wl_rd (y_load 3 rfl rfl rfl (by kernel_rfl)) rfl ?_ | refine wl_rd (y_load 4 rfl rfl rfl (by kernel_rfl)) rfl ?_ | refine wl_rd (y_load 5 rfl rfl rfl (by kernel_rfl)) rfl ?_
      refine wl_pu (y_move rfl) rfl ?_
      refine wl_pu (y_subW rfl rfl) rfl ?_
      refine wl_pu (y_nil rfl) rfl ?_
      first | refine wl_pu (y_fieldAddr0 5 Try.underlying141 rfl rfl (by kernel_rfl) rfl) rfl ?_ | refine wl_pu (y_fieldAddr 5 Try.underlying141 rfl rfl (by kernel_rfl) rfl) rfl ?_
      first | (refine wl_do0 (d_store 0 rfl rfl rfl rfl rfl (by kernel_rfl)) (fun _ _ hL => ?_); subst hL) | (refine wl_do0 (d_store 1 rfl rfl rfl rfl rfl (by kernel_rfl)) (fun _ _ hL => ?_); subst hL) | (refine wl_do0 (d_store 2 rfl rfl rfl rfl rfl (by kernel_rfl)) (fun _ _ hL => ?_); subst hL) | (refine wl_do0 (d_store 3 rfl rfl rfl rfl rfl (by kernel_rfl)) (fun _ _ hL => ?_); subst hL) | (refine wl_do0 (d_store 4 rfl rfl rfl rfl rfl (by kernel_rfl)) (fun _ _ hL => ?_); subst hL) | (refine wl_do0 (d_store 5 rfl rfl rfl rfl rfl (by kernel_rfl)) (fun _ _ hL => ?_); subst hL)
      refine wl_nil ?_
      refine at_then ?_
      refine wc_seq ?_
      refine wc_region ?_
      refine wl_pu (y_move rfl) rfl ?_
      refine wl_pu (y_nil rfl) rfl ?_
      first | refine wl_pu (y_fieldAddr0 1 Try.underlying141 rfl rfl (by kernel_rfl) rfl) rfl ?_ | refine wl_pu (y_fieldAddr 1 Try.underlying141 rfl rfl (by kernel_rfl) rfl) rfl ?_
      first | refine wl_rd (y_load 0 rfl rfl rfl (by kernel_rfl)) rfl ?_ | refine wl_rd (y_load 1 rfl rfl rfl (by kernel_rfl)) rfl ?_ | refine wl_rd (y_load 2 rfl rfl rfl (by kernel_rfl)) rfl ?_ | refine wl_rd (y_load 3 rfl rfl rfl (by kernel_rfl)) rfl ?_ | refine wl_rd (y_load 4 rfl rfl rfl (by kernel_rfl)) rfl ?_ | refine wl_rd (y_load 5 rfl rfl rfl (by kernel_rfl)) rfl ?_
      refine wl_pu (y_move rfl) rfl ?_
      first | refine wl_pu (y_conv Try.underlying3 Try.underlying23 rfl (IntWalk.u32_in _ (by omega))) rfl ?_ | refine wl_pu (y_conv Try.underlying3 Try.underlying23 rfl rfl) rfl ?_
      refine wl_pu (y_add32 rfl rfl) rfl ?_
      refine wl_pu (y_nil rfl) rfl ?_
      first | refine wl_pu (y_fieldAddr0 1 Try.underlying141 rfl rfl (by kernel_rfl) rfl) rfl ?_ | refine wl_pu (y_fieldAddr 1 Try.underlying141 rfl rfl (by kernel_rfl) rfl) rfl ?_
      first | (refine wl_do0 (d_store 0 rfl rfl rfl rfl rfl (by kernel_rfl)) (fun _ _ hL => ?_); subst hL) | (refine wl_do0 (d_store 1 rfl rfl rfl rfl rfl (by kernel_rfl)) (fun _ _ hL => ?_); subst hL) | (refine wl_do0 (d_store 2 rfl rfl rfl rfl rfl (by kernel_rfl)) (fun _ _ hL => ?_); subst hL) | (refine wl_do0 (d_store 3 rfl rfl rfl rfl rfl (by kernel_rfl)) (fun _ _ hL => ?_); subst hL) | (refine wl_do0 (d_store 4 rfl rfl rfl rfl rfl (by kernel_rfl)) (fun _ _ hL => ?_); subst hL) | (refine wl_do0 (d_store 5 rfl rfl rfl rfl rfl (by kernel_rfl)) (fun _ _ hL => ?_); subst hL)
      refine wl_nil ?_
      refine at_then ?_
      refine wc_seq ?_
      refine wc_region ?_
      refine wl_pu (y_move rfl) rfl ?_
      refine wl_pu (y_assign rfl) rfl ?_
      refine wl_nil ?_
      refine at_then ?_
      refine wc_ret ?_
      -- at: ret
      refine at_ret1 rfl rfl ?_
      rw [Int.toNat_natCast, ← B8_append] at hS1
      rw [Int.toNat_natCast]
      exact ⟨n, _, fr1, _, hn, hall, hend, hS1, rfl⟩

theorem appendNil_SlF : SlF 5 1 (.slice none 0 0) 0 (B8 []) [] := .nil

theorem rread_spec (F fr : Hp) (b bd bh room k cap : Nat) (next held m : Int) (p : Option Addr) (ready data : List UInt8) (has : List Bool)
    (hr : 1 ≤ room ∧ room ≤ 2048) (hk : ready.length = k) (hkr : k ≤ room) (hS : SlF 5 1 (.slice p k cap) k (B8 ready) fr) (hm : 1 ≤ m) :
    Ctr Try.prog 24 [ptr b 0, int m] ((b, rbo room next (.slice p k cap) bd bh held) :: (bd, row 5 (B8 data)) :: (bh, row 4 (bs has)) :: (fr ++ F))
      (fun v L' => ∃ (vr' : Value) (fr' : Hp), v = S (ready.take m.toNat) ∧ SlF 5 1 vr' (ready.drop m.toNat).length (B8 (ready.drop m.toNat)) fr' ∧
        L' = (b, rbo room next vr' bd bh held) :: (bd, row 5 (B8 data)) :: (bh, row 4 (bs has)) :: (fr' ++ F)) := by
  refine spec_body Try.func24 Try.ntmps24 rfl rfl ?_
  refine wc_seq ?_
  refine wc_region ?_
  refine wl_pu (y_assign rfl) rfl ?_
  refine wl_nil ?_
  refine at_then ?_
  refine wc_seq ?_
  refine wc_seq ?_
  refine wc_region ?_
  refine wl_pu (y_move rfl) rfl ?_
  -- at: op (call {callee:(value (func 64)), args:[t6], argTypes:[48]})
  refine wl_do (d_call (by kernel_rfl) rfl (rnone_spec _ _ _ _ _ _ _ _ hr.1)) rfl ?_
  rintro _ _ ⟨rfl, rfl⟩
  refine wl_nil ?_
  refine at_then ?_
  -- at: cond
  refine wc_condF rfl ?_
  refine wc_skip ?_
  refine at_then ?_
  refine wc_seq ?_
  refine wc_region ?_
  refine wl_pu (y_move rfl) rfl ?_
  refine wl_pu (y_max rfl rfl) rfl ?_
  refine wl_pu (y_move rfl) rfl ?_
  refine wl_pu (y_nil rfl) rfl ?_
  first | refine wl_pu (y_fieldAddr0 2 Try.underlying141 rfl rfl (by kernel_rfl) rfl) rfl ?_ | refine wl_pu (y_fieldAddr 2 Try.underlying141 rfl rfl (by kernel_rfl) rfl) rfl ?_
  first | refine wl_rd (y_load 0 rfl rfl rfl (by kernel_rfl)) rfl ?_ | refine wl_rd (y_load 1 rfl rfl rfl (by kernel_rfl)) rfl ?_ | refine wl_rd (y_load 2 rfl rfl rfl (by kernel_rfl)) rfl ?_ | refine wl_rd (y_load 3 rfl rfl rfl (by kernel_rfl)) rfl ?_ | refine wl_rd (y_load 4 rfl rfl rfl (by kernel_rfl)) rfl ?_ | refine wl_rd (y_load 5 rfl rfl rfl (by kernel_rfl)) rfl ?_
  refine wl_pu (y_lenL Try.underlying24 rfl) rfl ?_
  refine wl_pu (y_min rfl rfl) rfl ?_
  generalize hq : min (max m 0) (k : Int) = q
  have hq0 : 0 ≤ q ∧ q ≤ k := by omega
  have hqn : q.toNat = min m.toNat k := by omega
  generalize hB : B8 ready = rb at hS
  cases hS with
  | nil =>
    have hq1 : q = 0 := by omega
    have hrn : ready = [] := List.eq_nil_of_length_eq_zero hk
    subst hrn
    refine wl_pu (y_assign rfl) rfl ?_
    refine wl_nil ?_
    refine at_then ?_
    refine wc_seq ?_
    refine wc_region ?_
    refine wl_pu (y_move rfl) rfl ?_
    refine wl_pu (y_nil rfl) rfl ?_
    first | refine wl_pu (y_fieldAddr0 2 Try.underlying141 rfl rfl (by kernel_rfl) rfl) rfl ?_ | refine wl_pu (y_fieldAddr 2 Try.underlying141 rfl rfl (by kernel_rfl) rfl) rfl ?_
    first | refine wl_rd (y_load 0 rfl rfl rfl (by kernel_rfl)) rfl ?_ | refine wl_rd (y_load 1 rfl rfl rfl (by kernel_rfl)) rfl ?_ | refine wl_rd (y_load 2 rfl rfl rfl (by kernel_rfl)) rfl ?_ | refine wl_rd (y_load 3 rfl rfl rfl (by kernel_rfl)) rfl ?_ | refine wl_rd (y_load 4 rfl rfl rfl (by kernel_rfl)) rfl ?_ | refine wl_rd (y_load 5 rfl rfl rfl (by kernel_rfl)) rfl ?_
    refine wl_pu (y_move rfl) rfl ?_
    refine wl_pu (y_toLnil 1 Try.underlying24 (by kernel_rfl) rfl rfl hq1) rfl ?_
    refine wl_pu (y_toStrNil Try.underlying24 Try.underlying5 Try.underlying9 rfl) rfl ?_
    refine wl_pu (y_assign rfl) rfl ?_
    refine wl_nil ?_
    refine at_then ?_
    refine wc_seq ?_
    refine wc_region ?_
    refine wl_pu (y_move rfl) rfl ?_
    refine wl_pu (y_move rfl) rfl ?_
    refine wl_pu (y_nil rfl) rfl ?_
    first | refine wl_pu (y_fieldAddr0 2 Try.underlying141 rfl rfl (by kernel_rfl) rfl) rfl ?_ | refine wl_pu (y_fieldAddr 2 Try.underlying141 rfl rfl (by kernel_rfl) rfl) rfl ?_
    first | refine wl_rd (y_load 0 rfl rfl rfl (by kernel_rfl)) rfl ?_ | refine wl_rd (y_load 1 rfl rfl rfl (by kernel_rfl)) rfl ?_ | refine wl_rd (y_load 2 rfl rfl rfl (by kernel_rfl)) rfl ?_ | refine wl_rd (y_load 3 rfl rfl rfl (by kernel_rfl)) rfl ?_ | refine wl_rd (y_load 4 rfl rfl rfl (by kernel_rfl)) rfl ?_ | refine wl_rd (y_load 5 rfl rfl rfl (by kernel_rfl)) rfl ?_
    refine wl_pu (y_move rfl) rfl ?_
    refine wl_pu (y_fromLnil 1 Try.underlying24 (by kernel_rfl) rfl rfl hq1) rfl ?_
    refine wl_pu (y_appNil 1 Try.underlying24 (by kernel_rfl) rfl rfl) rfl ?_
    refine wl_pu (y_nil rfl) rfl ?_
    first | refine wl_pu (y_fieldAddr0 2 Try.underlying141 rfl rfl (by kernel_rfl) rfl) rfl ?_ | refine wl_pu (y_fieldAddr 2 Try.underlying141 rfl rfl (by kernel_rfl) rfl) rfl ?_
    first | (refine wl_do0 (d_store 0 rfl rfl rfl rfl rfl (by kernel_rfl)) (fun _ _ hL => ?_); subst hL) | (refine wl_do0 (d_store 1 rfl rfl rfl rfl rfl (by kernel_rfl)) (fun _ _ hL => ?_); subst hL) | (refine wl_do0 (d_store 2 rfl rfl rfl rfl rfl (by kernel_rfl)) (fun _ _ hL => ?_); subst hL) | (refine wl_do0 (d_store 3 rfl rfl rfl rfl rfl (by kernel_rfl)) (fun _ _ hL => ?_); subst hL) | (refine wl_do0 (d_store 4 rfl rfl rfl rfl rfl (by kernel_rfl)) (fun _ _ hL => ?_); subst hL) | (refine wl_do0 (d_store 5 rfl rfl rfl rfl rfl (by kernel_rfl)) (fun _ _ hL => ?_); subst hL)
    refine wl_nil ?_
    refine at_then ?_
    refine wc_seq ?_
    refine wc_region ?_
    refine wl_pu (y_move rfl) rfl ?_
    refine wl_pu (y_assign rfl) rfl ?_
    refine wl_nil ?_
    refine at_then ?_
    refine wc_ret ?_
    -- at: ret
    refine at_ret1 rfl rfl ?_
    exact ⟨_, [], by simp, by simpa using appendNil_SlF, rfl⟩
  | own b1 _ _ _ sp hx hc hs =>
    subst hB
    have hrl : (B8 ready).length = k := by rw [B8_length, hk]
    refine wl_pu (y_assign rfl) rfl ?_
    refine wl_nil ?_
    refine at_then ?_
    refine wc_seq ?_
    refine wc_region ?_
    refine wl_pu (y_move rfl) rfl ?_
    refine wl_pu (y_nil rfl) rfl ?_
    first | refine wl_pu (y_fieldAddr0 2 Try.underlying141 rfl rfl (by kernel_rfl) rfl) rfl ?_ | refine wl_pu (y_fieldAddr 2 Try.underlying141 rfl rfl (by kernel_rfl) rfl) rfl ?_
    first | refine wl_rd (y_load 0 rfl rfl rfl (by kernel_rfl)) rfl ?_ | refine wl_rd (y_load 1 rfl rfl rfl (by kernel_rfl)) rfl ?_ | refine wl_rd (y_load 2 rfl rfl rfl (by kernel_rfl)) rfl ?_ | refine wl_rd (y_load 3 rfl rfl rfl (by kernel_rfl)) rfl ?_ | refine wl_rd (y_load 4 rfl rfl rfl (by kernel_rfl)) rfl ?_ | refine wl_rd (y_load 5 rfl rfl rfl (by kernel_rfl)) rfl ?_
    refine wl_pu (y_move rfl) rfl ?_
    refine wl_pu (y_toL 1 Try.underlying24 (by kernel_rfl) rfl rfl (by omega)) rfl ?_
    refine wl_rd (y_toStr 3 (ready.take q.toNat) Try.underlying24 Try.underlying5 Try.underlying9 rfl rfl (by rw [List.drop_zero, List.take_append_of_le_length (by omega), B8_take]) (by rw [List.length_take]; omega)) rfl ?_
    refine wl_pu (y_assign rfl) rfl ?_
    refine wl_nil ?_
    refine at_then ?_
    refine wc_seq ?_
    refine wc_region ?_
    refine wl_pu (y_move rfl) rfl ?_
    refine wl_pu (y_move rfl) rfl ?_
    refine wl_pu (y_nil rfl) rfl ?_
    first | refine wl_pu (y_fieldAddr0 2 Try.underlying141 rfl rfl (by kernel_rfl) rfl) rfl ?_ | refine wl_pu (y_fieldAddr 2 Try.underlying141 rfl rfl (by kernel_rfl) rfl) rfl ?_
    first | refine wl_rd (y_load 0 rfl rfl rfl (by kernel_rfl)) rfl ?_ | refine wl_rd (y_load 1 rfl rfl rfl (by kernel_rfl)) rfl ?_ | refine wl_rd (y_load 2 rfl rfl rfl (by kernel_rfl)) rfl ?_ | refine wl_rd (y_load 3 rfl rfl rfl (by kernel_rfl)) rfl ?_ | refine wl_rd (y_load 4 rfl rfl rfl (by kernel_rfl)) rfl ?_ | refine wl_rd (y_load 5 rfl rfl rfl (by kernel_rfl)) rfl ?_
    refine wl_pu (y_move rfl) rfl ?_
    refine wl_pu (y_fromL 1 Try.underlying24 (by kernel_rfl) rfl rfl (by omega)) rfl ?_
    have hnews : (((B8 ready ++ sp).drop (if cap = q.toNat then 0 else 0 + q.toNat * 1)).take ((k - q.toNat) * 1)) = B8 (ready.drop q.toNat) := by
      rw [Nat.mul_one]
      by_cases e : cap = q.toNat
      · rw [if_pos e, show k - q.toNat = 0 by omega, List.take_zero, List.drop_of_length_le (by omega)]; rfl
      · rw [if_neg e, Nat.zero_add, Nat.mul_one, List.drop_append_of_le_length (by omega), List.take_append_of_le_length (by rw [List.length_drop]; omega), List.take_of_length_le (by rw [List.length_drop]; omega), B8_drop]
    refine wl_do (d_append (sz := 1) (bytes := 1) (fr := []) 3 (.int .u8 0) Try.underlying24 (by kernel_rfl) rfl rfl rfl appendNil_SlF rfl rfl hnews (by rw [B8_length, List.length_drop]; omega) (allOne_B8 _) (by omega) (by omega)) rfl ?_
    rintro v1 _ ⟨fr1, hS1, rfl⟩
    obtain ⟨p1, cap1, rfl⟩ := slF_form hS1
    refine wl_perm (show (fr1 ++ ((b, rbo room next (sl b1 0 k cap) bd bh held) :: (bd, row 5 (B8 data)) :: (bh, row 4 (bs has)) :: ((b1, row 5 (B8 ready ++ sp)) :: F))).Perm ((b, rbo room next (sl b1 0 k cap) bd bh held) :: (bd, row 5 (B8 data)) :: (bh, row 4 (bs has)) :: (fr1 ++ ((b1, row 5 (B8 ready ++ sp)) :: F))) from (perm3 _ _ _ _ _).symm) ?_
    refine wl_pu (y_nil rfl) rfl ?_
    first | refine wl_pu (y_fieldAddr0 2 Try.underlying141 rfl rfl (by kernel_rfl) rfl) rfl ?_ | refine wl_pu (y_fieldAddr 2 Try.underlying141 rfl rfl (by kernel_rfl) rfl) rfl ?_
    first | (refine wl_do0 (d_store 0 rfl rfl rfl rfl rfl (by kernel_rfl)) (fun _ _ hL => ?_); subst hL) | (refine wl_do0 (d_store 1 rfl rfl rfl rfl rfl (by kernel_rfl)) (fun _ _ hL => ?_); subst hL) | (refine wl_do0 (d_store 2 rfl rfl rfl rfl rfl (by kernel_rfl)) (fun _ _ hL => ?_); subst hL) | (refine wl_do0 (d_store 3 rfl rfl rfl rfl rfl (by kernel_rfl)) (fun _ _ hL => ?_); subst hL) | (refine wl_do0 (d_store 4 rfl rfl rfl rfl rfl (by kernel_rfl)) (fun _ _ hL => ?_); subst hL) | (refine wl_do0 (d_store 5 rfl rfl rfl rfl rfl (by kernel_rfl)) (fun _ _ hL => ?_); subst hL)
    refine wl_nil ?_
    refine at_then ?_
    refine wc_seq ?_
    refine wc_region ?_
    refine wl_pu (y_move rfl) rfl ?_
    refine wl_pu (y_assign rfl) rfl ?_
    refine wl_nil ?_
    refine at_then ?_
    refine wc_ret ?_
    -- at: ret
    refine at_perm (show ((b, rbo room next (.slice p1 (0 + (k - q.toNat)) cap1) bd bh held) :: (bd, row 5 (B8 data)) :: (bh, row 4 (bs has)) :: (fr1 ++ ((b1, row 5 (B8 ready ++ sp)) :: F))).Perm ((b1, row 5 (B8 ready ++ sp)) :: (b, rbo room next (.slice p1 (0 + (k - q.toNat)) cap1) bd bh held) :: (bd, row 5 (B8 data)) :: (bh, row 4 (bs has)) :: (fr1 ++ F)) from List.perm_middle (l₁ := _ :: _ :: _ :: fr1)) ?_
    refine at_drop ?_
    refine at_ret1 rfl rfl ?_
    have hS2 : SlF 5 1 (.slice p1 (0 + (k - q.toNat)) cap1) (ready.drop m.toNat).length (B8 (ready.drop m.toNat)) fr1 := by
      have e1 : ready.drop q.toNat = ready.drop m.toNat := by
        rw [hqn]
        by_cases h : m.toNat ≤ k
        · rw [Nat.min_eq_left h]
        · rw [Nat.min_eq_right (by omega), List.drop_of_length_le (by omega), List.drop_of_length_le (by omega)]
      have e2 : (ready.drop m.toNat).length = 0 + (k - q.toNat) := by rw [← e1, List.length_drop]; omega
      rw [e2, ← e1]
      exact hS1
    refine ⟨_, fr1, ?_, hS2, ?_⟩
    · rw [hqn]; congr 1
      by_cases h : m.toNat ≤ k
      · rw [Nat.min_eq_left h]
      · rw [Nat.min_eq_right (by omega), List.take_of_length_le (by omega), List.take_of_length_le (by omega)]
    · rfl
end Go.Proofs.Ytkpndnjhfocheaa
