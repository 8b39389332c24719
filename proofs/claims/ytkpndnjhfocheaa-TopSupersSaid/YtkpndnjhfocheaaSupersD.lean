/- A superblock's bytes. -/
import Derived.Test.YtkpndnjhfocheaaSupersC
namespace Go.Proofs.Ytkpndnjhfocheaa
open Go.SL
variable {X : Inhabited SL.Outside}

def flds (ar me lv mb rw ev ep : Int) (f : Nat → Int) : List Int := [ar, me, lv, mb, rw, ev, ep, 0, f 0, f 1, f 2, f 3]
def magic : List UInt8 := [66, 89, 83, 1]
def bodyTo (fs : List Int) (i : Nat) : List UInt8 := magic ++ (fs.take i).flatMap fun x => le4 x.toNat
def summed (fs : List Int) : List UInt8 := bodyTo fs 12 ++ List.replicate 8 0
def text (fs : List Int) : List UInt8 := summed fs ++ le4 (crc (summed fs))
theorem crc_lt (l : List UInt8) : crc l < 4294967296 := Nat.xor_lt_two_pow (n := 32) (by decide) (crcFold_lt l (by decide))

theorem fld_at (b : Nat) (sp : List Value) {ar me lv mb rw ev ep : Int} {f : Nat → Int} (h : SpOk ar me lv mb rw ev ep f) (i : Nat) (hi : i < 12) :
    ∃ o x, nth (fptrs b ++ sp) i = some (ptr b o) ∧ nth (spc ar me lv mb rw ev ep f 0) o = some (int x) ∧ (0 ≤ x ∧ x < 4294967296) ∧ bodyTo (flds ar me lv mb rw ev ep f) (i + 1) = bodyTo (flds ar me lv mb rw ev ep f) i ++ le4 x.toNat := by
  obtain ⟨h1, ⟨hs, g0, g1, g2⟩, h3, h4, h5, ⟨s1, s2, _⟩⟩ := h
  have hst : ∀ i : Nat, i < 4 → 0 ≤ f i ∧ f i ≤ 2 := fun i hi => by
    rcases Int.lt_or_le (i : Int) mb with k | k
    · have := s2 i hi k; omega
    · have := s1 i hi k; omega
  have f0 := hst 0 (by omega)
  have f1 := hst 1 (by omega)
  have f2 := hst 2 (by omega)
  have f3 := hst 3 (by omega)
  rcases i with _|_|_|_|_|_|_|_|_|_|_|_|i <;> first
    | omega
    | exact ⟨_, _, rfl, rfl, by omega, by simp [bodyTo, flds]⟩

theorem bytes_spec (F : Hp) (ar me lv mb rw ev ep : Int) (f : Nat → Int) (h : SpOk ar me lv mb rw ev ep f) :
    Ctr Try.prog 35 [.agg ⟨spc ar me lv mb rw ev ep f 0⟩] F (fun v L' => v = .tuple #[S (text (flds ar me lv mb rw ev ep f)), int 0] ∧ L' = F) := by
  refine spec_body Try.func35 Try.ntmps35 rfl rfl ?_
  refine wc_seq ?_
  refine wc_region ?_
  refine wl_do (d_box rfl) rfl ?_
  rintro _ _ ⟨bNEW, rfl, rfl⟩
  refine wl_pu (y_assign rfl) rfl ?_
  refine wl_pu (y_assign rfl) rfl ?_
  refine wl_nil ?_
  refine at_then ?_
  refine wc_seq ?_
  refine wc_seq ?_
  refine wc_region ?_
  refine wl_heap ((bNEW, row 80 (spc ar me lv mb rw ev ep f 0)) :: F) rfl ?_
  refine wl_rd (y_loadAgg (k := 12) (vs := spc ar me lv mb rw ev ep f 0) 0 rfl rfl rfl rfl (by kernel_rfl) (by kernel_rfl)) rfl ?_
  -- at: op (call {callee:(value (func 80)), args:[t7], argTypes:[80]})
  refine wl_do (d_call (by kernel_rfl) rfl (right_spec _ _ _ _ _ _ _ _ _ h)) rfl ?_
  rintro _ _ ⟨rfl, rfl⟩
  first | refine wl_pu (y_notT rfl) rfl ?_ | refine wl_pu (y_notF rfl) rfl ?_ | refine wl_pu (y_not rfl) rfl ?_ | refine wl_pu (y_notB rfl) rfl ?_
  refine wl_nil ?_
  refine at_then ?_
  -- at: cond
  refine wc_condF rfl ?_
  refine wc_skip ?_
  refine at_then ?_
  refine wc_seq ?_
  refine wc_region ?_
  -- at: op (buildSlice 24 4 [(0, c:(int u8 66)), (1, c:(int u8 89)), (2, c:(int u8 83)), (3, c:(int u8 1))])
  refine wl_do (d_buildSlice (B8 magic) Try.underlying24 rfl (by kernel_rfl)) rfl ?_
  rintro _ _ ⟨b8, rfl, rfl⟩
  refine wl_do (d_mark 0 Try.underlying24 Try.underlying5 rfl rfl) rfl ?_
  rintro _ _ ⟨rfl, rfl⟩
  refine wl_pu (y_assign rfl) rfl ?_
  refine wl_nil ?_
  refine at_then ?_
  refine wc_seq ?_
  refine wc_seq ?_
  refine wc_region ?_
  -- at: op (call {callee:(value (func 81)), args:[t1], argTypes:[80]})
  refine wl_do (d_call (by kernel_rfl) rfl (fields_spec _ bNEW)) rfl ?_
  rintro _ _ ⟨frp, hP, rfl⟩
  cases hP with
  | own bp _ cp _ spp hxp hcp hsp =>
  generalize hfs : flds ar me lv mb rw ev ep f = fs
  have hfld := fld_at bNEW spp h
  rw [hfs] at hfld
  refine wl_pu (y_lenL Try.underlying170 rfl) rfl ?_
  refine wl_pu (y_move rfl) rfl ?_
  refine wl_nil ?_
  refine at_then ?_
  refine wc_block ?_
  -- at: loop
  refine wc_perm (List.Perm.cons _ p1) ?_
  refine wc_loop (σ := Nat × Value × Hp) (fun s => s.1 ≤ 12 ∧ Sl2 5 1 s.2.1 (4 + 4 * s.1) (B8 (bodyTo fs s.1)) s.2.2 ∧ (1 ≤ s.1 → SlF 5 1 s.2.1 (4 + 4 * s.1) (B8 (bodyTo fs s.1)) s.2.2)) (fun s => 12 - s.1) (fun s => [(4, s.2.1), (12, sl bp 0 12 cp), (13, int 12), (14, int (s.1 : Int))])
    (fun s => (bp, row 172 (fptrs bNEW ++ spp)) :: (bNEW, row 80 (spc ar me lv mb rw ev ep f 0)) :: (s.2.2 ++ F)) (0, sl b8 0 4 4, [(b8, .cells ⟨B8 magic⟩ 5 (4, 5))]) ⟨by simp, .inr ⟨b8, (4, 5), rfl, rfl, by simp [bodyTo]⟩, fun k => by simp at k⟩ ⟨rfl, rfl, rfl, rfl, trivial⟩ rfl ?_
  rintro ⟨i, v, fr⟩ ⟨hi, hS, hS'⟩
  dsimp only at hi hS hS'
  show WC _ _ _ _ [(4, v), (12, sl bp 0 12 cp), (13, int 12), (14, int (i : Int))] ((bp, row 172 (fptrs bNEW ++ spp)) :: (bNEW, row 80 (spc ar me lv mb rw ev ep f 0)) :: (fr ++ F))
  refine wc_seq ?_
  refine wc_region ?_
  refine wl_pu (y_lss rfl rfl) rfl ?_
  refine wl_nil ?_
  refine at_then ?_
  refine wc_seq ?_
  -- at: cond
  refine wc_condD rfl (fun hi12 => ?_) (fun hi12 => ?_)
  · skip
    obtain ⟨o, x, e1, e2, e3, e4⟩ := hfld i (by omega)
    refine wc_skip ?_
    refine at_then ?_
    refine wc_seq ?_
    refine wc_block ?_
    refine wc_seq ?_
    refine wc_region ?_
    refine wl_pu (y_ix1 Try.underlying170 (by kernel_rfl) rfl rfl (by omega)) rfl ?_
    refine wl_rd (y_load 0 rfl rfl (v := ptr bNEW o) (by rw [Int.toNat_natCast]; exact e1) (by kernel_rfl)) rfl ?_
    refine wl_pu (y_assign rfl) rfl ?_
    refine wl_nil ?_
    refine at_then ?_
    refine wc_region ?_
    refine wl_pu (y_move rfl) rfl ?_
    refine wl_pu (y_move rfl) rfl ?_
    refine wl_pu (y_nil rfl) rfl ?_
    refine wl_rd (y_load 1 rfl rfl e2 (by kernel_rfl)) rfl ?_
    refine wl_pu (y_conv (r := ((x.toNat : Nat) : Int)) Try.underlying3 Try.underlying23 rfl (by rw [m_u32]; omega)) rfl ?_
    refine wl_perm (List.perm_append_comm_assoc [_, _] fr F) ?_
    refine wl_do (d_call (by kernel_rfl) rfl (put_spec (_ :: _ :: F) fr _ _ _ _ hS (by omega) (by omega))) rfl ?_
    rintro v1 _ ⟨fr1, hS1, rfl⟩
    refine wl_perm (List.perm_append_comm_assoc fr1 [_, _] F) ?_
    rw [← B8_append, ← e4] at hS1
    have hS2 : SlF 5 1 v1 (4 + 4 * (i + 1)) (B8 (bodyTo fs (i + 1))) fr1 := by
      rw [show 4 + 4 * (i + 1) = 4 + 4 * i + 4 by omega]; exact hS1
    refine wl_pu (y_assign rfl) rfl ?_
    refine wl_nil ?_
    refine at_block_normal ?_
    refine at_then ?_
    refine wc_region ?_
    refine wl_pu (y_add rfl rfl (by omega)) rfl ?_
    refine wl_pu (y_move rfl) rfl ?_
    refine wl_nil ?_
    -- at: round
    exact at_again (i + 1, v1, fr1) ⟨by dsimp only; omega, .inl hS2, fun _ => hS2⟩ (by dsimp only; omega) ⟨rfl, rfl, rfl, rfl, trivial⟩ rfl
  · skip
    have hi12' : i = 12 := by omega
    subst hi12'
    have hS3 := hS' (by omega)
    generalize hbd : B8 (bodyTo fs 12) = bd at hS3
    cases hS3 with
    | own bq _ cq _ spq hxq hcq hsq =>
    refine wc_exit ?_
    refine at_then_exit ?_
    refine at_then_exit ?_
    refine at_block_same ?_
    refine at_then ?_
    refine wc_seq ?_
    refine wc_region ?_
    refine wl_pu (y_move rfl) rfl ?_
    refine wl_pu (y_move rfl) rfl ?_
    refine wl_pu (y_lenL Try.underlying24 rfl) rfl ?_
    refine wl_pu (y_sub rfl rfl (by omega)) rfl ?_
    -- at: op (call {callee:(builtin append), args:[t25, t28], argTypes:[24, 3]})
    refine wl_perm p2 ?_
    refine wl_do (d_appendZ (m := 8) (bytes := 1) (z := .int .u8 0) Try.underlying24 Try.underlying3 (by kernel_rfl) rfl rfl rfl (by omega) (by omega) rfl (by omega) (by omega) (by omega)) rfl ?_
    rintro v1 _ ⟨fr1, hS1, rfl⟩
    have hz : bd ++ List.replicate 8 (Value.int .u8 0) = B8 (summed fs) := by rw [← hbd, summed, B8_append]; rfl
    rw [hz] at hS1
    refine wl_pu (y_assign rfl) rfl ?_
    refine wl_nil ?_
    refine at_then ?_
    refine wc_seq ?_
    refine wc_region ?_
    refine wl_pu (y_move rfl) rfl ?_
    refine wl_pu (y_move rfl) rfl ?_
    refine wl_rd (y_toStrF (l := summed fs) Try.underlying24 Try.underlying5 Try.underlying9 hS1 rfl rfl) rfl ?_
    have hsl : (summed fs).length ≤ 100000 := by
      have := slF_len hS1
      rw [B8_length] at this
      omega
    refine wl_do (d_call (by kernel_rfl) rfl (sum_spec _ _ hsl)) rfl ?_
    rintro _ _ ⟨rfl, rfl⟩
    refine wl_do (d_call (by kernel_rfl) rfl (put_spec _ fr1 _ _ _ _ (.inl hS1) (crc_lt _) (by omega))) rfl ?_
    rintro v2 _ ⟨fr2, hS2, rfl⟩
    rw [← B8_append] at hS2
    refine wl_rd (y_toStrF (l := text fs) Try.underlying24 Try.underlying5 Try.underlying9 hS2 rfl rfl) rfl ?_
    refine wl_pu (y_assign rfl) rfl ?_
    refine wl_pu (y_assign rfl) rfl ?_
    refine wl_nil ?_
    refine at_then ?_
    refine wc_ret ?_
    -- at: ret
    refine at_dropL (at_drop (at_drop ?_))
    refine at_ret2 rfl rfl rfl ?_
    exact ⟨rfl, rfl⟩
end Go.Proofs.Ytkpndnjhfocheaa
