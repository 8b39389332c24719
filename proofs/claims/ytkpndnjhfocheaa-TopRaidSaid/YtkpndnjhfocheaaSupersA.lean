/- super.sum: what it comes to. -/
import Derived.Test.YtkpndnjhfocheaaChecked
import Derived.Test.YtkpndnjhfocheaaSLi
namespace Go.Proofs.Ytkpndnjhfocheaa
open Go.SL
variable {X : Inhabited SL.Outside}

def crcBit (n : Nat) : Nat := if n &&& 1 = 1 then (n >>> 1) ^^^ 3988292384 else n >>> 1
def crcBits : Nat → Nat → Nat
  | 0, n => n
  | k + 1, n => crcBit (crcBits k n)
def crcByte (n : Nat) (c : UInt8) : Nat := crcBits 8 (n ^^^ c.toNat)
def crcAll (l : List UInt8) : Nat := l.foldl crcByte 4294967295
def crc (l : List UInt8) : Nat := 4294967295 ^^^ crcAll l
theorem shr1_lt {n : Nat} (h : n < 4294967296) : n >>> 1 < 4294967296 := by
  rw [Nat.shiftRight_eq_div_pow]; omega
theorem crcBit_lt {n : Nat} (h : n < 4294967296) : crcBit n < 4294967296 := by
  unfold crcBit
  split
  · exact Nat.xor_lt_two_pow (n := 32) (shr1_lt h) (by decide)
  · exact shr1_lt h
theorem crcBits_lt (k : Nat) {n : Nat} (h : n < 4294967296) : crcBits k n < 4294967296 := by
  induction k with
  | zero => exact h
  | succ k ih => exact crcBit_lt ih
theorem crcByte_lt {n : Nat} (c : UInt8) (h : n < 4294967296) : crcByte n c < 4294967296 := by
  refine crcBits_lt 8 (Nat.xor_lt_two_pow (n := 32) h ?_)
  have := UInt8.toNat_lt c
  omega
theorem crcFold_lt (l : List UInt8) : ∀ {n : Nat}, n < 4294967296 → l.foldl crcByte n < 4294967296 := by
  induction l with
  | nil => intro n h; exact h
  | cons c r ih => intro n h; exact ih (crcByte_lt c h)
theorem at8_byte (l : List UInt8) (i : Nat) (h : i < l.length) : at8 l (i : Int) = ((l[i].toNat : Nat) : Int) := by
  simp [at8, h]
theorem crc_step (l : List UInt8) (i : Nat) (h : i < l.length) : (l.take (i + 1)).foldl crcByte 4294967295 = crcByte ((l.take i).foldl crcByte 4294967295) l[i] := by
  rw [List.take_succ_eq_append_getElem h, List.foldl_append]; rfl

theorem sum_spec (L : Hp) (l : List UInt8) (hl : l.length ≤ 100000) : Ctr Try.prog 83 [S l] L (fun v L' => v = .int .u32 ((crc l : Nat) : Int) ∧ L' = L) := by
  refine spec_body Try.func83 Try.ntmps83 rfl rfl ?_
  refine wc_seq ?_
  refine wc_region ?_
  refine wl_pu (y_assign rfl) rfl ?_
  refine wl_nil ?_
  refine at_then ?_
  refine wc_seq ?_
  refine wc_region ?_
  refine wl_pu (y_assign rfl) rfl ?_
  refine wl_nil ?_
  refine at_then ?_
  refine wc_seq ?_
  refine wc_seq ?_
  refine wc_region ?_
  refine wl_pu (y_move rfl) rfl ?_
  refine wl_pu (y_lenS Try.underlying9 rfl) rfl ?_
  refine wl_pu (y_move rfl) rfl ?_
  refine wl_nil ?_
  refine at_then ?_
  refine wc_block ?_
  -- at: loop
  refine wc_loop (σ := Nat) (fun i => i ≤ l.length) (fun i => l.length - i) (fun i => [(0, S l), (7, int (l.length : Int)), (8, int (i : Int)), (3, .int .u32 (((l.take i).foldl crcByte 4294967295 : Nat) : Int))]) (fun _ => L) 0 (by omega) ⟨rfl, rfl, rfl, rfl, trivial⟩ rfl ?_
  intro i hi
  have hlt : (l.take i).foldl crcByte 4294967295 < 4294967296 := crcFold_lt _ (by decide)
  generalize hn : (l.take i).foldl crcByte 4294967295 = n at *
  refine wc_seq ?_
  refine wc_region ?_
  refine wl_pu (y_lss rfl rfl) rfl ?_
  refine wl_nil ?_
  refine at_then ?_
  refine wc_seq ?_
  -- at: cond
  refine wc_condD rfl (fun h => ?_) (fun h => ?_)
  · skip
    have hi' : i < l.length := by omega
    have hstep := crc_step l i hi'
    rw [hn] at hstep
    have hb := UInt8.toNat_lt l[i]
    refine wc_skip ?_
    refine at_then ?_
    refine wc_seq ?_
    refine wc_block ?_
    refine wc_seq ?_
    refine wc_region ?_
    refine wl_pu (y_move rfl) rfl ?_
    refine wl_pu (y_assign rfl) rfl ?_
    refine wl_nil ?_
    refine at_then ?_
    refine wc_seq ?_
    refine wc_region ?_
    refine wl_pu (y_move rfl) rfl ?_
    refine wl_pu (y_move rfl) rfl ?_
    refine wl_pu (y_move rfl) rfl ?_
    refine wl_pu (v := .int .u8 ((l[i].toNat : Nat) : Int)) (by rw [← at8_byte l i hi']; exact y_ixS Try.underlying9 rfl rfl (by omega)) rfl ?_
    refine wl_pu (y_conv Try.underlying5 Try.underlying23 rfl (IntWalk.u32_in _ (by omega))) rfl ?_
    refine wl_pu (y_xor n l[i].toNat rfl rfl (lt32 hlt) (lt32 (by omega))) rfl ?_
    refine wl_pu (y_assign rfl) rfl ?_
    refine wl_nil ?_
    refine at_then ?_
    refine wc_seq ?_
    refine wc_region ?_
    refine wl_pu (y_move rfl) rfl ?_
    refine wl_nil ?_
    refine at_then ?_
    refine wc_block ?_
    -- at: loop
    have hx0 : n ^^^ l[i].toNat < 4294967296 := Nat.xor_lt_two_pow (n := 32) hlt (by omega)
    refine wc_loop (σ := Nat) (fun k => k ≤ 8) (fun k => 8 - k) (fun k => [(0, S l), (7, int (l.length : Int)), (8, int (i : Int)), (17, int (k : Int)), (3, .int .u32 ((crcBits k (n ^^^ l[i].toNat) : Nat) : Int))]) (fun _ => L) 0 (by omega) ⟨rfl, rfl, rfl, rfl, rfl, trivial⟩ rfl ?_
    intro k hk
    have hc := crcBits_lt k hx0
    have hs : crcBits (k + 1) (n ^^^ l[i].toNat) = crcBit (crcBits k (n ^^^ l[i].toNat)) := rfl
    generalize hm : crcBits k (n ^^^ l[i].toNat) = m at *
    have hm1 := shr1_lt hc
    refine wc_seq ?_
    refine wc_region ?_
    refine wl_pu (y_lss rfl rfl) rfl ?_
    refine wl_nil ?_
    refine at_then ?_
    refine wc_seq ?_
    -- at: cond
    refine wc_condD rfl (fun hk8 => ?_) (fun hk8 => ?_)
    · skip
      refine wc_skip ?_
      refine at_then ?_
      refine wc_seq ?_
      refine wc_block ?_
      refine wc_seq ?_
      refine wc_region ?_
      refine wl_pu (y_move rfl) rfl ?_
      refine wl_pu (y_and m 1 rfl rfl (lt32 hc) (lt32 (by decide))) rfl ?_
      refine wl_pu (y_assign rfl) rfl ?_
      refine wl_nil ?_
      refine at_then ?_
      refine wc_seq ?_
      refine wc_region ?_
      refine wl_pu (y_move rfl) rfl ?_
      refine wl_pu (y_shr m 1 rfl rfl hc) rfl ?_
      refine wl_pu (y_assign rfl) rfl ?_
      refine wl_nil ?_
      refine at_then ?_
      refine wc_seq ?_
      refine wc_region ?_
      refine wl_pu (y_move rfl) rfl ?_
      refine wl_pu (y_eql rfl rfl) rfl ?_
      refine wl_nil ?_
      refine at_then ?_
      -- at: cond
      refine wc_condD rfl (fun hbit => ?_) (fun hbit => ?_)
      · skip
        refine wc_region ?_
        refine wl_pu (y_move rfl) rfl ?_
        refine wl_pu (y_xor (m >>> 1) 3988292384 rfl rfl (lt32 hm1) (lt32 (by decide))) rfl ?_
        refine wl_pu (y_assign rfl) rfl ?_
        refine wl_nil ?_
        refine at_block_normal ?_
        refine at_then ?_
        refine wc_region ?_
        refine wl_pu (y_add rfl rfl (by omega)) rfl ?_
        refine wl_pu (y_move rfl) rfl ?_
        refine wl_nil ?_
        -- at: round
        refine at_again (k + 1) (by omega) (by omega) ⟨rfl, rfl, rfl, rfl, ?_, trivial⟩ rfl
        have hb1 : m &&& 1 = 1 := by omega
        rw [hs, crcBit, if_pos hb1]; rfl
      · skip
        refine wc_skip ?_
        refine at_block_normal ?_
        refine at_then ?_
        refine wc_region ?_
        refine wl_pu (y_add rfl rfl (by omega)) rfl ?_
        refine wl_pu (y_move rfl) rfl ?_
        refine wl_nil ?_
        -- at: round
        refine at_again (k + 1) (by omega) (by omega) ⟨rfl, rfl, rfl, rfl, ?_, trivial⟩ rfl
        have hb1 : ¬ m &&& 1 = 1 := by omega
        rw [hs, crcBit, if_neg hb1]; rfl
    · skip
      refine wc_exit ?_
      refine at_then_exit ?_
      refine at_then_exit ?_
      refine at_block_same ?_
      refine at_block_normal ?_
      refine at_then ?_
      refine wc_region ?_
      refine wl_pu (y_add rfl rfl (by omega)) rfl ?_
      refine wl_pu (y_move rfl) rfl ?_
      refine wl_nil ?_
      -- at: round
      have hk8' : k = 8 := by omega
      subst hk8'
      refine at_again (i + 1) (by omega) (by omega) ⟨rfl, rfl, rfl, ?_, trivial⟩ rfl
      rw [hstep, crcByte, hm]; rfl
  · skip
    refine wc_exit ?_
    refine at_then_exit ?_
    refine at_then_exit ?_
    refine at_block_same ?_
    refine at_then ?_
    refine wc_seq ?_
    refine wc_region ?_
    refine wl_pu (y_move rfl) rfl ?_
    refine wl_pu (y_cpl32 n rfl hlt) rfl ?_
    refine wl_pu (y_assign rfl) rfl ?_
    refine wl_nil ?_
    refine at_then ?_
    refine wc_ret ?_
    -- at: ret
    refine at_ret1 rfl rfl ?_
    have hil : i = l.length := by omega
    refine ⟨?_, rfl⟩
    rw [crc, crcAll, ← hn, hil, List.take_length]
end Go.Proofs.Ytkpndnjhfocheaa
