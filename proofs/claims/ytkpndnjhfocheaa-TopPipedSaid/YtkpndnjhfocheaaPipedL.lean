/- TopPiped's walk. -/
import Derived.Test.YtkpndnjhfocheaaPipedM
namespace Go.Proofs.Ytkpndnjhfocheaa
open Go.SL
variable {X : Inhabited SL.Outside}

abbrev evT (v1 vf va : Value) (B : Bl) (D : List UInt8) (st : Int) (t : T) : Env :=
  [(24, int (t.now : Int)), (17, S (D.take t.m.o)), (16, S (D.drop t.m.w)), (20, int t.timer), (0, v1), (2, vf), (3, va), (9, ptr B.s 0), (11, ptr B.r 0), (13, ptr B.c 0), (15, ptr B.w 0),
   (18, S ((D.take t.e).drop t.q)), (19, .int .u32 (pos st t.q)), (21, int (t.sent : Int)), (22, int (t.told : Int)), (23, int (t.since : Int))]

theorem mem_heap {B : Bl} {D : List UInt8} {st : Int} {F : Hp} {s : M} : ∀ x ∈ F, x ∈ heap B D st F s := fun x hx => by
  simp only [List.mem_cons, List.mem_append]
  exact .inr (.inr (.inr (.inr (.inr (.inr (.inr (.inr hx)))))))

theorem c17 {D : List UInt8} {x y : Nat} (e : x = y) : some (S (D.take x)) = some (S (D.take y)) := by rw [e]
theorem c16 {D : List UInt8} {x y : Nat} (e : x = y) : some (S (D.drop x)) = some (S (D.drop y)) := by rw [e]
theorem take_read (D : List UInt8) (n o k : Nat) (h : o ≤ n) : D.take o ++ ((D.take n).drop o).take k = D.take (min n (o + k)) := by
  rw [List.drop_take, List.take_take, ← List.take_add]
  congr 1; omega
theorem TMok.keep {t : T} {m : M} (h : TMok t) (W : Wh t.m m) : TMok { t with m := m } := by
  unfold TMok at *
  dsimp only at *
  rw [W.wk, W.wp, W.wm, W.wc, W.frw]
  exact h

set_option maxHeartbeats 4000000 in
theorem piped_spec (F : Hp) (v0 : Value) (l : List UInt8) (st : Int) (hst : 0 ≤ st ∧ st < 4294967296) (pf pa : Option Addr) (lf cf la ca : Nat) (hB : Byt F v0 l) (hll : (l.length : Int) ≤ 9223372036854775807) (hf : U16s F pf lf) (ha : U16s F pa la) :
    Ctr Try.prog 4 [v0, .int .u32 st, .slice pf lf cf, .slice pa la ca] F (fun v L' => v = .bool true ∧ L' = F) := by
  obtain ⟨p0, c0, hv0⟩ := hB.form
  refine spec_body Try.func4 Try.ntmps4 rfl rfl ?_
  subst hv0
  refine wc_seq ?_
  refine wc_region ?_
  refine wl_pu (y_assign rfl) rfl ?_
  refine wl_nil ?_
  refine at_then ?_
  refine wc_seq ?_
  refine wc_region ?_
  refine wl_pu (y_move rfl) rfl ?_
  refine wl_pu (y_move rfl) rfl ?_
  refine wl_pu (y_lenL Try.underlying24 rfl) rfl ?_
  refine wl_pu (y_min rfl rfl) rfl ?_
  refine wl_some (y_clip Try.underlying24 (by kernel_rfl) hB rfl rfl) rfl ?_
  rintro v1 hB1
  generalize hD : l.take 400 = D at *
  have hD4 : D.length ≤ 400 := by rw [← hD, List.length_take]; omega
  obtain ⟨p1', c1, rfl⟩ := hB1.form
  refine wl_pu (y_assign rfl) rfl ?_
  refine wl_nil ?_
  refine at_then ?_
  refine wc_seq ?_
  refine wc_region ?_
  refine wl_pu (y_move rfl) rfl ?_
  -- at: op (call {callee:(value (func 13)), args:[t38, c:(int i64 64)], argTypes:[23, 3]})
  refine wl_do (d_call (by kernel_rfl) rfl (snew_spec _ _ _ (by omega))) rfl ?_
  rintro _ _ ⟨b1, rfl, rfl⟩
  refine wl_pu (y_move rfl) rfl ?_
  refine wl_pu (y_extract rfl rfl) rfl ?_
  refine wl_pu (y_extract rfl rfl) rfl ?_
  refine wl_pu (y_assign rfl) rfl ?_
  refine wl_pu (y_assign rfl) rfl ?_
  refine wl_nil ?_
  refine at_then ?_
  refine wc_seq ?_
  refine wc_region ?_
  refine wl_pu (y_move rfl) rfl ?_
  -- at: op (call {callee:(value (func 14)), args:[t43, c:(int i64 32)], argTypes:[23, 3]})
  refine wl_do (d_call (by kernel_rfl) rfl (rnew_spec _ _)) rfl ?_
  rintro _ _ ⟨b2, b3, b4, rfl, rfl⟩
  refine wl_pu (y_move rfl) rfl ?_
  refine wl_pu (y_extract rfl rfl) rfl ?_
  refine wl_pu (y_extract rfl rfl) rfl ?_
  refine wl_pu (y_assign rfl) rfl ?_
  refine wl_pu (y_assign rfl) rfl ?_
  refine wl_nil ?_
  refine at_then ?_
  refine wc_seq ?_
  refine wc_region ?_
  -- at: op (call {callee:(value (func 15)), args:[c:(int i64 4), c:(int i64 2), c:(int i64 64)], argTypes:[3, 3
  refine wl_do (d_call (by kernel_rfl) rfl (cnew_spec _)) rfl ?_
  rintro _ _ ⟨b5, rfl, rfl⟩
  refine wl_pu (y_move rfl) rfl ?_
  refine wl_pu (y_extract rfl rfl) rfl ?_
  refine wl_pu (y_extract rfl rfl) rfl ?_
  refine wl_pu (y_assign rfl) rfl ?_
  refine wl_pu (y_assign rfl) rfl ?_
  refine wl_nil ?_
  refine at_then ?_
  refine wc_seq ?_
  refine wc_region ?_
  -- at: op (call {callee:(value (func 16)), args:[], argTypes:[]})
  refine wl_do (d_call (by kernel_rfl) rfl (wnew_spec _)) rfl ?_
  rintro _ _ ⟨b6, rfl, rfl⟩
  refine wl_pu (y_assign rfl) rfl ?_
  refine wl_nil ?_
  refine at_then ?_
  refine wc_seq ?_
  refine wc_seq ?_
  refine wc_region ?_
  refine wl_pu (y_move rfl) rfl ?_
  refine wl_pu (y_neq rfl rfl) rfl ?_
  refine wl_pu (y_move rfl) rfl ?_
  -- at: guard 2
  refine wl_splitD 54 rfl (fun hc => absurd hc ((by omega))) (fun _ => ?_)
  refine wl_gon rfl rfl ?_
  refine wl_pu (y_move rfl) rfl ?_
  refine wl_gon rfl rfl ?_
  refine wl_pu (y_neq rfl rfl) rfl ?_
  first | refine wl_pu (y_pickT rfl rfl) rfl ?_ | refine wl_pu (y_pickF rfl rfl) rfl ?_
  refine wl_pu (y_move rfl) rfl ?_
  -- at: guard 6
  refine wl_splitD 58 rfl (fun hc => absurd hc ((by omega))) (fun _ => ?_)
  refine wl_gon rfl rfl ?_
  refine wl_pu (y_move rfl) rfl ?_
  refine wl_gon rfl rfl ?_
  refine wl_pu (y_neq rfl rfl) rfl ?_
  first | refine wl_pu (y_pickT rfl rfl) rfl ?_ | refine wl_pu (y_pickF rfl rfl) rfl ?_
  refine wl_pu (y_move rfl) rfl ?_
  -- at: guard 10
  refine wl_splitD 62 rfl (fun hc => absurd hc ((by omega))) (fun _ => ?_)
  refine wl_gon rfl rfl ?_
  refine wl_pu (y_move rfl) rfl ?_
  refine wl_gon rfl rfl ?_
  refine wl_pu (y_eqlnil Try.underlying54 rfl rfl) rfl ?_
  first | refine wl_pu (y_pickT rfl rfl) rfl ?_ | refine wl_pu (y_pickF rfl rfl) rfl ?_
  refine wl_nil ?_
  refine at_then ?_
  -- at: cond
  refine wc_condF rfl ?_
  refine wc_skip ?_
  refine at_then ?_
  refine wc_seq ?_
  refine wc_region ?_
  refine wl_pu (y_move rfl) rfl ?_
  refine wl_rd (y_toStrB Try.underlying24 Try.underlying5 Try.underlying9 (hB1.mono (fun x hx => by simp only [List.mem_cons]; simp [hx])) rfl) rfl ?_
  refine wl_pu (y_assign rfl) rfl ?_
  refine wl_pu (y_assign rfl) rfl ?_
  refine wl_pu (y_assign rfl) rfl ?_
  refine wl_nil ?_
  refine at_then ?_
  refine wc_seq ?_
  refine wc_region ?_
  refine wl_pu (y_move rfl) rfl ?_
  refine wl_pu (y_assign rfl) rfl ?_
  refine wl_nil ?_
  refine at_then ?_
  refine wc_seq ?_
  refine wc_region ?_
  refine wl_pu (y_assign rfl) rfl ?_
  refine wl_pu (y_assign rfl) rfl ?_
  refine wl_pu (y_assign rfl) rfl ?_
  refine wl_pu (y_assign rfl) rfl ?_
  refine wl_nil ?_
  refine at_then ?_
  refine wc_seq ?_
  refine wc_seq ?_
  refine wc_region ?_
  refine wl_pu (y_assign rfl) rfl ?_
  refine wl_nil ?_
  refine at_then ?_
  refine wc_block ?_
  -- at: loop
  have hst0 : st = pos st 0 := by simp only [pos]; omega
  refine wc_perm (p5.trans (List.Perm.cons _ (p1.trans (List.perm_append_comm_assoc [_, _] [_, _, _] F)))) ?_
  refine wc_heap (heap ⟨b1, b2, b3, b4, b5, b6⟩ D st F ⟨0, 0, 0, 0, none, 0, List.replicate 32 0, List.replicate 32 false, 0, [], 0, 0, false, 4, 0, none, 0, 0, 0, 0, []⟩) ?_ ?_
  · show _ = (b1, sbo 64 (pos st 0) []) :: (b2, rbo 32 (pos st 0) (.slice none 0 0) b3 b4 0) :: _
    rw [← hst0]; rfl
  generalize hBl : (⟨b1, b2, b3, b4, b5, b6⟩ : Bl) = B
  refine wc_loop (σ := T) (HI D) (fun t => 10000 - t.now) (evT (.slice p1' D.length c1) (.slice pf lf cf) (.slice pa la ca) B D st) (fun t => heap B D st F t.m)
    ⟨⟨0, 0, 0, 0, none, 0, List.replicate 32 0, List.replicate 32 false, 0, [], 0, 0, false, 4, 0, none, 0, 0, 0, 0, []⟩, 0, 0, 0, 0, 0, 1, 0, 0⟩ ?_ ?_ rfl ?_
  · refine ⟨⟨?_, ?_, ?_, hD4, ?_, ?_, ?_, rfl, rfl, .nil, ?_, ⟨?_, ?_, ?_, ?_, ?_, ?_⟩⟩, ?_, ?_, .inl ⟨rfl, rfl, rfl, rfl, rfl, rfl⟩, ?_, ?_, ?_, ?_, rfl, ?_, ?_, ?_, .inl ?_⟩
    all_goals first | (dsimp only; omega) | skip
    intro j hj
    dsimp only at hj
    rw [List.getElem?_replicate] at hj
    split at hj <;> cases hj
  · subst hBl
    exact ⟨rfl, rfl, rfl, rfl, rfl, rfl, rfl, rfl, rfl, rfl, rfl, rfl, congrArg (fun z => some (Value.int .u32 z)) hst0, rfl, rfl, rfl, trivial⟩
  clear hB
  intro t hI
  refine wc_seq ?_
  refine wc_seq ?_
  refine wc_region ?_
  refine wl_pu (y_move rfl) rfl ?_
  refine wl_pu (y_lss rfl rfl) rfl ?_
  refine wl_pu (y_move rfl) rfl ?_
  -- at: guard 2
  refine wl_splitD 71 rfl (fun hnow => ?_) (fun hnow => ?_)
  · skip
    refine wl_gon rfl rfl ?_
    refine wl_pu (y_move rfl) rfl ?_
    refine wl_gon rfl rfl ?_
    refine wl_pu (y_lenS Try.underlying9 rfl) rfl ?_
    refine wl_gon rfl rfl ?_
    refine wl_pu (y_move rfl) rfl ?_
    refine wl_gon rfl rfl ?_
    refine wl_pu (y_lenL Try.underlying24 rfl) rfl ?_
    refine wl_gon rfl rfl ?_
    refine wl_pu (y_lss rfl rfl) rfl ?_
    first | refine wl_pu (y_pickT rfl rfl) rfl ?_ | refine wl_pu (y_pickF rfl rfl) rfl ?_
    refine wl_nil ?_
    refine at_then ?_
    -- at: cond
    refine wc_condD rfl (fun hout => ?_) (fun hout => ?_)
    · skip
      have hlt : t.m.o < D.length := by rw [List.length_take] at hout; omega
      have hok := hI.ok
      have hw0 := hok.nw
      have hw1 := hok.wD
      have ha0 := hok.an
      have hl0 := hI.l0
      have hl1 := hI.l1
      have hs1 := hI.s1
      have hn1 := hI.n1
      have hsn := hI.sn
      have hdl : (D.drop t.m.w).length = D.length - t.m.w := List.length_drop
      refine wc_skip ?_
      refine at_then ?_
      refine wc_seq ?_
      refine wc_block ?_
      refine wc_seq ?_
      refine wc_region ?_
      refine wl_pu (y_move rfl) rfl ?_
      refine wl_pu (y_move rfl) rfl ?_
      -- at: op (call {callee:(value (func 17)), args:[t80, t81], argTypes:[45, 9]})
      refine wl_do (d_call (by kernel_rfl) rfl (n_write hok)) rfl ?_
      rintro _ _ ⟨rfl, m1, rfl, hok1, W1, ea, en, eo, ew⟩
      generalize hw' : min D.length (t.m.a + 64) = w' at *
      have hww : t.m.w ≤ w' ∧ w' ≤ D.length ∧ t.m.n ≤ w' := by have := hok.wa; omega
      refine wl_pu (y_assign rfl) rfl ?_
      refine wl_nil ?_
      refine at_then ?_
      refine wc_seq ?_
      refine wc_seq ?_
      refine wc_region ?_
      refine wl_pu (y_move rfl) rfl ?_
      refine wl_pu (y_lss rfl rfl) rfl ?_
      refine wl_pu (y_move rfl) rfl ?_
      -- at: guard 2
      refine wl_splitD 85 rfl (fun hc => absurd hc ((by omega))) (fun _ => ?_)
      refine wl_gon rfl rfl ?_
      refine wl_pu (y_move rfl) rfl ?_
      refine wl_gon rfl rfl ?_
      refine wl_pu (y_move rfl) rfl ?_
      refine wl_gon rfl rfl ?_
      refine wl_pu (y_lenS Try.underlying9 rfl) rfl ?_
      refine wl_gon rfl rfl ?_
      refine wl_pu (y_gtr rfl rfl) rfl ?_
      first | refine wl_pu (y_pickT rfl rfl) rfl ?_ | refine wl_pu (y_pickF rfl rfl) rfl ?_
      refine wl_nil ?_
      refine at_then ?_
      -- at: cond
      refine wc_condD rfl (fun hc => absurd hc ((by omega))) (fun _ => ?_)
      refine wc_skip ?_
      refine at_then ?_
      refine wc_seq ?_
      refine wc_region ?_
      refine wl_pu (y_move rfl) rfl ?_
      refine wl_pu (y_move rfl) rfl ?_
      refine wl_pu (y_fromSE (r := D.drop w') Try.underlying9 rfl rfl (by omega) (by rw [List.drop_drop]; congr 1; omega)) rfl ?_
      refine wl_pu (y_assign rfl) rfl ?_
      refine wl_nil ?_
      refine at_then ?_
      refine wc_join (fun t' => TI D t' ∧ t'.now = t.now ∧ t'.told = t.told ∧ Sent D t t') (evT (.slice p1' D.length c1) (.slice pf lf cf) (.slice pa la ca) B D st) (fun t' => heap B D st F t'.m) ?_ ?_
      · skip
        refine wc_seq ?_
        refine wc_region ?_
        refine wl_pu (y_move rfl) rfl ?_
        refine wl_pu (y_eql rfl rfl) rfl ?_
        refine wl_pu (y_move rfl) rfl ?_
        -- at: guard 2
        refine wl_splitD 96 rfl (fun htm => ?_) (fun htm => ?_)
        · skip
          have hz : t.m.wk = 0 ∧ t.m.wp = none ∧ t.m.wm = 0 ∧ t.m.wc = 0 ∧ t.m.frw = [] := by
            rcases hI.tm with h | h
            · exact h.2
            · omega
          obtain ⟨z1, z2, z3, z4, z5⟩ := hz
          refine wl_gon rfl rfl ?_
          refine wl_pu (y_move rfl) rfl ?_
          refine wl_gon rfl rfl ?_
          -- at: op (call {callee:(value (func 18)), args:[t97], argTypes:[45]})
          refine wl_do (d_call (by kernel_rfl) rfl (m_len hok1)) rfl ?_
          rintro _ _ ⟨rfl, rfl⟩
          refine wl_gon rfl rfl ?_
          refine wl_pu (y_gtr rfl rfl) rfl ?_
          first | refine wl_pu (y_pickT rfl rfl) rfl ?_ | refine wl_pu (y_pickF rfl rfl) rfl ?_
          refine wl_nil ?_
          refine at_then ?_
          -- at: cond
          refine wc_condD rfl (fun hlen => ?_) (fun hlen => ?_)
          · skip
            have hlt1 : m1.a < m1.w := by omega
            refine wc_seq ?_
            refine wc_region ?_
            refine wl_pu (y_move rfl) rfl ?_
            -- at: op (call {callee:(value (func 19)), args:[t101], argTypes:[45]})
            refine wl_do (d_call (by kernel_rfl) rfl (m_una)) rfl ?_
            rintro _ _ ⟨rfl, rfl⟩
            refine wl_pu (y_move rfl) rfl ?_
            refine wl_pu (y_move rfl) rfl ?_
            -- at: op (call {callee:(value (func 19)), args:[t104], argTypes:[45]})
            refine wl_do (d_call (by kernel_rfl) rfl (m_una)) rfl ?_
            rintro _ _ ⟨rfl, rfl⟩
            refine wl_do (d_call (by kernel_rfl) rfl (m_get hok1 hlt1)) rfl ?_
            rintro _ _ ⟨rfl, rfl⟩
            generalize hE : min m1.w (m1.a + 16) = e1 at *
            refine wl_pu (y_assign rfl) rfl ?_
            refine wl_pu (y_assign rfl) rfl ?_
            refine wl_nil ?_
            refine at_then ?_
            refine wc_seq ?_
            refine wc_region ?_
            refine wl_pu (y_move rfl) rfl ?_
            refine wl_pu (y_move rfl) rfl ?_
            refine wl_pu (y_move rfl) rfl ?_
            -- at: op (call {callee:(value (func 22)), args:[t110], argTypes:[51]})
            refine wl_do (d_call (by kernel_rfl) rfl (m_wait)) rfl ?_
            rintro _ _ ⟨rfl, rfl⟩
            have hck0 := hok1.ck.w0
            have hck1 := hok1.ck.w1
            refine wl_pu (y_add rfl rfl (by omega)) rfl ?_
            refine wl_pu (y_move rfl) rfl ?_
            -- at: op (call {callee:(value (func 21)), args:[t108, t112, t113], argTypes:[54, 3, 23]})
            refine wl_do (d_call (by kernel_rfl) rfl (n_set hok1 (W1.wk.trans z1) (W1.wp.trans z2) (W1.wm.trans z3) (W1.wc.trans z4) (W1.frw.trans z5) (by rw [W1.last]; omega) (by omega))) rfl ?_
            rintro _ _ ⟨rfl, m2, rfl, hok2, N2, u1, u2, u3, u4, hS2⟩
            refine wl_pu (y_move rfl) rfl ?_
            refine wl_pu (y_extract rfl rfl) rfl ?_
            refine wl_pu (y_extract rfl rfl) rfl ?_
            refine wl_pu (y_assign rfl) rfl ?_
            refine wl_pu (y_assign rfl) rfl ?_
            refine wl_nil ?_
            refine at_then ?_
            refine wc_seq ?_
            refine wc_seq ?_
            refine wc_region ?_
            refine wl_pu (y_move rfl) rfl ?_
            refine wl_pu (y_neq rfl rfl) rfl ?_
            refine wl_pu (y_move rfl) rfl ?_
            -- at: guard 2
            refine wl_splitD 119 rfl (fun hc => absurd hc ((by omega))) (fun _ => ?_)
            refine wl_gon rfl rfl ?_
            refine wl_pu (y_move rfl) rfl ?_
            refine wl_gon rfl rfl ?_
            refine wl_pu (y_eqS rfl rfl) rfl ?_
            first | refine wl_pu (y_pickT rfl rfl) rfl ?_ | refine wl_pu (y_pickF rfl rfl) rfl ?_
            refine wl_pu (y_move rfl) rfl ?_
            -- at: guard 6
            have hck2 := hok2.ck.w0
            have hck3 := hok2.ck.w1
            have htext : ¬ ((D.take e1).drop m1.a = []) := fun hc => by
              have h1 := congrArg List.length hc
              rw [List.length_drop, List.length_take] at h1
              simp only [List.length_nil] at h1
              have := hok1.wD
              omega
            refine wl_splitD 123 rfl (fun hc => absurd hc (htext)) (fun _ => ?_)
            refine wl_gon rfl rfl ?_
            refine wl_pu (y_move rfl) rfl ?_
            refine wl_gon rfl rfl ?_
            -- at: op (call {callee:(value (func 22)), args:[t124], argTypes:[51]})
            refine wl_do (d_call (by kernel_rfl) rfl (m_wait)) rfl ?_
            rintro _ _ ⟨rfl, rfl⟩
            refine wl_gon rfl rfl ?_
            refine wl_pu (y_lss rfl rfl) rfl ?_
            first | refine wl_pu (y_pickT rfl rfl) rfl ?_ | refine wl_pu (y_pickF rfl rfl) rfl ?_
            refine wl_pu (y_move rfl) rfl ?_
            -- at: guard 11
            refine wl_splitD 128 rfl (fun hc => absurd hc ((by omega))) (fun _ => ?_)
            refine wl_gon rfl rfl ?_
            refine wl_pu (y_move rfl) rfl ?_
            refine wl_gon rfl rfl ?_
            -- at: op (call {callee:(value (func 22)), args:[t129], argTypes:[51]})
            refine wl_do (d_call (by kernel_rfl) rfl (m_wait)) rfl ?_
            rintro _ _ ⟨rfl, rfl⟩
            refine wl_gon rfl rfl ?_
            refine wl_pu (y_gtr rfl rfl) rfl ?_
            first | refine wl_pu (y_pickT rfl rfl) rfl ?_ | refine wl_pu (y_pickF rfl rfl) rfl ?_
            refine wl_nil ?_
            refine at_then ?_
            -- at: cond
            refine wc_condD rfl (fun hc => absurd hc ((by omega))) (fun _ => ?_)
            have hwD1 := hok1.wD
            have hJ1 : ∀ (m4 : M) (q e : Nat), OK D m4 → Wh m2 m4 → m4.a = m2.a → m4.w = m2.w → m4.o = m2.o → m2.n ≤ m4.n → q ≤ e → e ≤ m4.w → (60 ≤ t.sent → t.m.a = t.m.n → t.m.n < t.m.o + 32 → t.m.n < m4.n) →
                TI D ⟨m4, m1.last + 1, t.now + m1.wait, t.sent + 1, t.told, t.now, t.now, q, e⟩ ∧ t.now = t.now ∧ t.told = t.told ∧ Sent D t ⟨m4, m1.last + 1, t.now + m1.wait, t.sent + 1, t.told, t.now, t.now, q, e⟩ := by
              intro m4 q e k1 k2 k3 k4 k5 k6 k7 k8 k9
              have hl1' := W1.last
              have hl2' := k2.last
              have hn' := k2.wnow
              have hwn := hI.wn
              have hwn1 := W1.wnow
              have g1 := N2.a
              have g2 := N2.w
              have g3 := N2.n
              have g4 := N2.o
              refine ⟨⟨k1, k7, k8, .inr ⟨by dsimp only; omega, by dsimp only; rw [k2.wm]; exact u1, by dsimp only; rw [k2.wk]; exact u2, ⟨pos st m1.a, by dsimp only; rw [k2.wp, k2.wc, k2.frw]; exact hS2⟩, by dsimp only; omega, by dsimp only; omega⟩, Nat.le_refl _, by dsimp only; omega, by dsimp only; omega, by dsimp only; omega, by dsimp only; omega, hn1, by dsimp only; omega⟩, rfl, rfl, ?_⟩
              exact ⟨by dsimp only; omega, by dsimp only; omega, by dsimp only; omega, by dsimp only; omega, .inr (.inr ⟨htm, by dsimp only; omega, rfl, by dsimp only; omega, by dsimp only; omega, k9⟩)⟩
            have q17 : t.m.o = m2.o := by have := N2.o; omega
            have q16 : w' = m2.w := by have := N2.w; omega
            refine wc_skip ?_
            refine at_then ?_
            refine wc_seq ?_
            refine wc_region ?_
            refine wl_pu (y_move rfl) rfl ?_
            refine wl_pu (y_move rfl) rfl ?_
            refine wl_pu (y_assign rfl) rfl ?_
            refine wl_pu (y_assign rfl) rfl ?_
            refine wl_nil ?_
            refine at_then ?_
            refine wc_seq ?_
            refine wc_region ?_
            refine wl_pu (y_assign rfl) rfl ?_
            refine wl_nil ?_
            refine at_then ?_
            refine wc_join (fun r : Int => 0 ≤ r ∧ r < 4 ∧ (60 ≤ t.sent → r = 0)) (fun r => (30, int r) :: (26, .int .u32 (pos st m1.a)) :: (27, S ((D.take e1).drop m1.a)) :: evT (.slice p1' D.length c1) (.slice pf lf cf) (.slice pa la ca) B D st ⟨m2, m1.last + 1, t.now + m1.wait, t.sent + 1, t.told, t.now, t.now, t.q, t.e⟩) (fun _ => heap B D st F m2) ?_ ?_
            · skip
              refine wc_seq ?_
              refine wc_region ?_
              refine wl_pu (y_move rfl) rfl ?_
              refine wl_pu (y_add rfl rfl (by omega)) rfl ?_
              refine wl_pu (y_assign rfl) rfl ?_
              refine wl_nil ?_
              refine at_then ?_
              refine wc_seq ?_
              refine wc_region ?_
              refine wl_pu (y_move rfl) rfl ?_
              refine wl_pu (y_leq rfl rfl) rfl ?_
              refine wl_nil ?_
              refine at_then ?_
              -- at: cond
              refine wc_condD rfl (fun h60 => ?_) (fun h60 => ?_)
              · skip
                refine wc_region ?_
                refine wl_pu (y_move rfl) rfl ?_
                refine wl_pu (y_move rfl) rfl ?_
                refine wl_pu (y_sub rfl rfl (by omega)) rfl ?_
                -- at: op (call {callee:(value (func 10)), args:[t139, t141, c:(int i64 4)], argTypes:[27, 3, 3]})
                refine wl_do (d_call (by kernel_rfl) rfl (share_spec _ _ _ _ _ _ (hf.mono mem_heap) (by omega) (by omega))) rfl ?_
                rintro _ _ ⟨⟨r, rfl, hr0, hr1⟩, rfl⟩
                refine wl_pu (y_assign rfl) rfl ?_
                refine wl_nil ?_
                -- at: join
                exact at_join r ⟨hr0, hr1, by omega⟩ ⟨rfl, rfl, rfl, rfl, c17 q17, c16 q16, rfl, rfl, rfl, rfl, rfl, rfl, rfl, rfl, rfl, rfl, rfl, rfl, rfl, trivial⟩ rfl
              · skip
                refine wc_skip ?_
                -- at: join
                exact at_join 0 ⟨by omega, by omega, by omega⟩ ⟨rfl, rfl, rfl, rfl, c17 q17, c16 q16, rfl, rfl, rfl, rfl, rfl, rfl, rfl, rfl, rfl, rfl, rfl, rfl, rfl, trivial⟩ rfl
            · skip
              intro r hr
              have g1 := N2.a
              have g2 := N2.w
              have g3 := N2.n
              have g4 := N2.o
              have hew := hI.ew
              refine wc_seq ?_
              refine wc_region ?_
              refine wl_pu (y_move rfl) rfl ?_
              refine wl_nil ?_
              refine at_then ?_
              refine wc_block ?_
              refine wc_seq ?_
              refine wc_region ?_
              refine wl_pu (y_eql rfl rfl) rfl ?_
              refine wl_pu (y_assign rfl) rfl ?_
              refine wl_nil ?_
              refine at_then ?_
              -- at: cond
              refine wc_condD rfl (fun hr2 => ?_) (fun hr2 => ?_)
              · skip
                refine wc_seq ?_
                refine wc_region ?_
                refine wl_pu (y_move rfl) rfl ?_
                refine wl_pu (y_move rfl) rfl ?_
                refine wl_pu (y_move rfl) rfl ?_
                -- at: op (call {callee:(value (func 23)), args:[t146, t147, t148], argTypes:[48, 23, 9]})
                refine wl_do (d_call (by kernel_rfl) rfl (n_put hok2 (q := m1.a) (e := e1) (by omega) (by omega))) rfl ?_
                rintro _ _ ⟨m3, rfl, hok3, W3, a3, w3, o3, n3, p3⟩
                refine wl_nil ?_
                refine at_then ?_
                refine wc_region ?_
                refine wl_pu (y_move rfl) rfl ?_
                refine wl_pu (y_move rfl) rfl ?_
                refine wl_pu (y_move rfl) rfl ?_
                -- at: op (call {callee:(value (func 23)), args:[t150, t151, t152], argTypes:[48, 23, 9]})
                refine wl_do (d_call (by kernel_rfl) rfl (n_put hok3 (q := m1.a) (e := e1) (by omega) (by omega))) rfl ?_
                rintro _ _ ⟨m4, rfl, hok4, W4, a4, w4, o4, n4, p4⟩
                refine wl_nil ?_
                refine at_block_normal ?_
                -- at: join
                exact at_join ⟨m4, m1.last + 1, t.now + m1.wait, t.sent + 1, t.told, t.now, t.now, t.q, t.e⟩ (hJ1 m4 t.q t.e hok4 (W3.trans W4) (by omega) (by omega) (by omega) (by omega) hI.qe (by omega) (by omega)) ⟨rfl, c17 (by dsimp only; omega), c16 (by dsimp only; omega), rfl, rfl, rfl, rfl, rfl, rfl, rfl, rfl, rfl, rfl, rfl, rfl, rfl, trivial⟩ rfl
              · skip
                refine wc_seq ?_
                refine wc_region ?_
                refine wl_pu (y_eql rfl rfl) rfl ?_
                refine wl_pu (y_assign rfl) rfl ?_
                refine wl_nil ?_
                refine at_then ?_
                -- at: cond
                refine wc_condD rfl (fun hr3 => ?_) (fun hr3 => ?_)
                · skip
                  refine wc_region ?_
                  refine wl_pu (y_move rfl) rfl ?_
                  refine wl_pu (y_move rfl) rfl ?_
                  refine wl_pu (y_assign rfl) rfl ?_
                  refine wl_pu (y_assign rfl) rfl ?_
                  refine wl_nil ?_
                  refine at_block_normal ?_
                  -- at: join
                  exact at_join ⟨m2, m1.last + 1, t.now + m1.wait, t.sent + 1, t.told, t.now, t.now, m1.a, e1⟩ (hJ1 m2 m1.a e1 hok2 (.refl _) rfl rfl rfl (Nat.le_refl _) (by omega) (by omega) (by omega)) ⟨rfl, rfl, rfl, rfl, rfl, rfl, rfl, rfl, rfl, rfl, rfl, rfl, rfl, rfl, rfl, rfl, trivial⟩ rfl
                · skip
                  refine wc_seq ?_
                  refine wc_region ?_
                  refine wl_pu (y_eql rfl rfl) rfl ?_
                  refine wl_pu (y_assign rfl) rfl ?_
                  refine wl_nil ?_
                  refine at_then ?_
                  -- at: cond
                  refine wc_condD rfl (fun hr0 => ?_) (fun hr0 => ?_)
                  · skip
                    refine wc_seq ?_
                    refine wc_region ?_
                    refine wl_pu (y_move rfl) rfl ?_
                    refine wl_pu (y_move rfl) rfl ?_
                    refine wl_pu (y_move rfl) rfl ?_
                    -- at: op (call {callee:(value (func 23)), args:[t160, t161, t162], argTypes:[48, 23, 9]})
                    refine wl_do (d_call (by kernel_rfl) rfl (n_put hok2 (q := m1.a) (e := e1) (by omega) (by omega))) rfl ?_
                    rintro _ _ ⟨m3, rfl, hok3, W3, a3, w3, o3, n3, p3⟩
                    refine wl_nil ?_
                    refine at_then ?_
                    refine wc_region ?_
                    refine wl_pu (y_move rfl) rfl ?_
                    refine wl_pu (y_move rfl) rfl ?_
                    refine wl_pu (y_move rfl) rfl ?_
                    -- at: op (call {callee:(value (func 23)), args:[t164, t165, t166], argTypes:[48, 23, 9]})
                    refine wl_do (d_call (by kernel_rfl) rfl (n_put hok3 (q := t.q) (e := t.e) hI.qe (by omega))) rfl ?_
                    rintro _ _ ⟨m4, rfl, hok4, W4, a4, w4, o4, n4, p4⟩
                    refine wl_nil ?_
                    refine at_block_normal ?_
                    -- at: join
                    exact at_join ⟨m4, m1.last + 1, t.now + m1.wait, t.sent + 1, t.told, t.now, t.now, t.q, t.e⟩ (hJ1 m4 t.q t.e hok4 (W3.trans W4) (by omega) (by omega) (by omega) (by omega) hI.qe (by omega) (fun _ k1 k2 => by have := p3 (by omega) (by omega) (by omega); omega)) ⟨rfl, c17 (by dsimp only; omega), c16 (by dsimp only; omega), rfl, rfl, rfl, rfl, rfl, rfl, rfl, rfl, rfl, rfl, rfl, rfl, rfl, trivial⟩ rfl
                  · skip
                    refine wc_skip ?_
                    refine at_block_normal ?_
                    -- at: join
                    exact at_join ⟨m2, m1.last + 1, t.now + m1.wait, t.sent + 1, t.told, t.now, t.now, t.q, t.e⟩ (hJ1 m2 t.q t.e hok2 (.refl _) rfl rfl rfl (Nat.le_refl _) hI.qe (by omega) (by omega)) ⟨rfl, rfl, rfl, rfl, rfl, rfl, rfl, rfl, rfl, rfl, rfl, rfl, rfl, rfl, rfl, rfl, trivial⟩ rfl
          · skip
            refine wc_skip ?_
            -- at: join
            exact at_join { t with m := m1 } ⟨⟨hok1, hI.qe, by dsimp only; have := hI.ew; omega, hI.tm.keep W1, hI.sn, by dsimp only; rw [W1.last]; exact hl0, by dsimp only; rw [W1.last]; exact hl1, by dsimp only; omega, by dsimp only; rw [W1.wnow]; exact hI.wn, hn1, by dsimp only; omega⟩, rfl, rfl, ea, eo, by dsimp only; omega, by dsimp only; omega, .inr (.inl ⟨htm, htm, rfl, en, by dsimp only; omega⟩)⟩
              ⟨rfl, c17 eo.symm, c16 ew.symm, rfl, rfl, rfl, rfl, rfl, rfl, rfl, rfl, rfl, rfl, rfl, rfl, rfl, trivial⟩ rfl
        · skip
          refine wl_goff rfl rfl rfl rfl ?_
          refine wl_goff rfl rfl rfl rfl ?_
          refine wl_goff rfl rfl rfl rfl ?_
          first | refine wl_pu (y_pickT rfl rfl) rfl ?_ | refine wl_pu (y_pickF rfl rfl) rfl ?_
          refine wl_nil ?_
          refine at_then ?_
          -- at: cond
          refine wc_condF rfl ?_
          refine wc_skip ?_
          -- at: join
          exact at_join { t with m := m1 } ⟨⟨hok1, hI.qe, by dsimp only; have := hI.ew; omega, hI.tm.keep W1, hI.sn, by dsimp only; rw [W1.last]; exact hl0, by dsimp only; rw [W1.last]; exact hl1, by dsimp only; omega, by dsimp only; rw [W1.wnow]; exact hI.wn, hn1, by dsimp only; omega⟩, rfl, rfl, ea, eo, by dsimp only; omega, by dsimp only; omega, .inl ⟨htm, rfl, rfl, rfl, en⟩⟩
              ⟨rfl, c17 eo.symm, c16 ew.symm, rfl, rfl, rfl, rfl, rfl, rfl, rfl, rfl, rfl, rfl, rfl, rfl, rfl, trivial⟩ rfl
      · skip
        rintro t' ⟨hT, hnow', htold', sa, so, sw, sn, scase⟩
        have hok' := hT.ok
        have j1 := hok'.an
        have j2 := hok'.nw
        have j3 := hok'.wD
        have j4 := hok'.on
        have j5 := hT.n2
        have j6 := hI.tl
        have j7 := hT.sn
        have rl1 : (D.take t'.m.o).length ≤ 400 := by rw [List.length_take]; omega
        have rl2 : (((D.take t'.m.n).drop t'.m.o).take (1 + t'.now % 5)).length ≤ 400 := by rw [List.length_take, List.length_drop, List.length_take]; omega
        refine wc_seq ?_
        refine wc_region ?_
        refine wl_pu (y_move rfl) rfl ?_
        refine wl_pu (y_move rfl) rfl ?_
        refine wl_pu (y_move rfl) rfl ?_
        refine wl_pu (y_rem rfl rfl (by omega)) rfl ?_
        refine wl_pu (y_add rfl rfl (by omega)) rfl ?_
        -- at: op (call {callee:(value (func 24)), args:[t169, t172], argTypes:[48, 3]})
        refine wl_do (d_call (by kernel_rfl) rfl (n_read hok' (k := 1 + t'.now % 5) (by omega))) rfl ?_
        rintro _ _ ⟨rfl, m2, rfl, hok2, W2, ra, rw', rn, ro⟩
        refine wl_pu (y_catE (z := D.take m2.o) rfl rfl (by omega) (by rw [ro]; exact take_read _ _ _ _ j4)) rfl ?_
        refine wl_pu (y_assign rfl) rfl ?_
        refine wl_nil ?_
        refine at_then ?_
        refine wc_seq ?_
        refine wc_region ?_
        refine wl_pu (y_assign rfl) rfl ?_
        refine wl_nil ?_
        refine at_then ?_
        refine wc_join (fun b : Bool => b = true → t'.now ≤ 60) (fun b => (31, .bool b) :: evT (.slice p1' D.length c1) (.slice pf lf cf) (.slice pa la ca) B D st ⟨m2, t'.timer, t'.due, t'.sent, t'.told + 1, t'.since, t'.now, t'.q, t'.e⟩) (fun _ => heap B D st F m2) ?_ ?_
        · skip
          refine wc_seq ?_
          refine wc_region ?_
          refine wl_pu (y_move rfl) rfl ?_
          refine wl_pu (y_add rfl rfl (by omega)) rfl ?_
          refine wl_pu (y_assign rfl) rfl ?_
          refine wl_nil ?_
          refine at_then ?_
          refine wc_seq ?_
          refine wc_region ?_
          refine wl_pu (y_move rfl) rfl ?_
          refine wl_pu (y_leq rfl rfl) rfl ?_
          refine wl_nil ?_
          refine at_then ?_
          -- at: cond
          refine wc_condD rfl (fun h60 => ?_) (fun h60 => ?_)
          · skip
            refine wc_region ?_
            refine wl_pu (y_move rfl) rfl ?_
            refine wl_pu (y_move rfl) rfl ?_
            refine wl_pu (y_sub rfl rfl (by omega)) rfl ?_
            -- at: op (call {callee:(value (func 10)), args:[t179, t181, c:(int i64 2)], argTypes:[27, 3, 3]})
            refine wl_do (d_call (by kernel_rfl) rfl (share_spec _ _ _ _ _ _ (ha.mono mem_heap) (by omega) (by omega))) rfl ?_
            rintro _ _ ⟨⟨r, rfl, hr0, hr1⟩, rfl⟩
            refine wl_pu (y_eql rfl rfl) rfl ?_
            refine wl_pu (y_assign rfl) rfl ?_
            refine wl_nil ?_
            -- at: join
            exact at_join (decide (r = 1)) (fun _ => by omega) ⟨rfl, rfl, rfl, c16 rw'.symm, rfl, rfl, rfl, rfl, rfl, rfl, rfl, rfl, rfl, rfl, rfl, rfl, rfl, trivial⟩ rfl
          · skip
            refine wc_skip ?_
            -- at: join
            exact at_join false (fun h => by cases h) ⟨rfl, rfl, rfl, c16 rw'.symm, rfl, rfl, rfl, rfl, rfl, rfl, rfl, rfl, rfl, rfl, rfl, rfl, rfl, trivial⟩ rfl
        · skip
          intro b hb
          refine wc_join (fun s : M × Int => OK D s.1 ∧ s.1.w = m2.w ∧ s.1.n = m2.n ∧ s.1.o = m2.o ∧ s.1.last = m2.last ∧ s.1.wnow = m2.wnow ∧ ((b = false ∧ m2.a < m2.n ∧ s.1.a = m2.n ∧ s.2 = 0 ∧ s.1.wm = 0 ∧ s.1.frw = []) ∨ ((b = true ∨ m2.n ≤ m2.a) ∧ s.1.a = m2.a ∧ s.2 = t'.timer ∧ Wh m2 s.1))) (fun s => evT (.slice p1' D.length c1) (.slice pf lf cf) (.slice pa la ca) B D st ⟨s.1, s.2, t'.due, t'.sent, t'.told + 1, t'.since, t'.now, t'.q, t'.e⟩) (fun s => heap B D st F s.1) ?_ ?_
          · cases b
            · skip
              refine wc_seq ?_
              refine wc_region ?_
              refine wl_pu (y_move rfl) rfl ?_
              first | refine wl_pu (y_notT rfl) rfl ?_ | refine wl_pu (y_notF rfl) rfl ?_ | refine wl_pu (y_not rfl) rfl ?_ | refine wl_pu (y_notB rfl) rfl ?_
              refine wl_pu (y_move rfl) rfl ?_
              -- at: guard 2
              refine wl_gon rfl rfl ?_
              refine wl_pu (y_move rfl) rfl ?_
              refine wl_gon rfl rfl ?_
              refine wl_pu (y_move rfl) rfl ?_
              refine wl_gon rfl rfl ?_
              -- at: op (call {callee:(value (func 26)), args:[t188], argTypes:[48]})
              refine wl_do (d_call (by kernel_rfl) rfl (m_next)) rfl ?_
              rintro _ _ ⟨rfl, rfl⟩
              refine wl_gon rfl rfl ?_
              -- at: op (call {callee:(value (func 25)), args:[t187, t189], argTypes:[45, 23]})
              refine wl_do (d_call (by kernel_rfl) rfl (n_ack hok2)) rfl ?_
              rintro _ _ ⟨rfl, m3, rfl, hok3, W3, a3, w3, n3, o3⟩
              have hok3a := hok3.an
              have hok2a := hok2.an
              refine wl_gon rfl rfl ?_
              refine wl_pu (y_gtr rfl rfl) rfl ?_
              first | refine wl_pu (y_pickT rfl rfl) rfl ?_ | refine wl_pu (y_pickF rfl rfl) rfl ?_
              refine wl_nil ?_
              refine at_then ?_
              -- at: cond
              refine wc_condD rfl (fun hack => ?_) (fun hack => ?_)
              · skip
                refine wc_seq ?_
                refine wc_seq ?_
                refine wc_region ?_
                refine wl_pu (y_move rfl) rfl ?_
                refine wl_pu (y_move rfl) rfl ?_
                -- at: op (call {callee:(value (func 27)), args:[t193, t194], argTypes:[54, 3]})
                rcases hT.tm with ⟨z0, z1, z2, z3, z4, z5⟩ | ⟨z0, z1, z2, ⟨x, hS⟩, z4, z5⟩
                · skip
                  refine wl_do (d_call (by kernel_rfl) rfl (m_miss (by rw [W3.wm, W2.wm]; exact z3) _)) rfl ?_
                  rintro _ _ ⟨rfl, rfl⟩
                  refine wl_nil ?_
                  refine at_then ?_
                  -- at: cond
                  refine wc_condF rfl ?_
                  refine wc_skip ?_
                  refine at_then ?_
                  refine wc_region ?_
                  refine wl_pu (y_assign rfl) rfl ?_
                  refine wl_nil ?_
                  -- at: join
                  exact at_join (m3, 0) ⟨hok3, w3, n3, o3, W3.last, W3.wnow, .inl ⟨rfl, by omega, a3, rfl, by dsimp only; rw [W3.wm, W2.wm]; exact z3, by dsimp only; rw [W3.frw, W2.frw]; exact z5⟩⟩ ⟨rfl, c17 o3.symm, c16 w3.symm, rfl, rfl, rfl, rfl, rfl, rfl, rfl, rfl, rfl, rfl, rfl, rfl, rfl, trivial⟩ rfl
                · skip
                  refine wl_do (d_call (by kernel_rfl) rfl (n_cancel hok3 (by rw [W3.wm, W2.wm]; exact z1) (by rw [W3.wk, W2.wk]; exact z2) (id := t'.timer) (due := t'.due) (x := x) (by rw [W3.wp, W2.wp, W3.wc, W2.wc, W3.frw, W2.frw]; exact hS))) rfl ?_
                  rintro _ _ ⟨rfl, m4, rfl, hok4, N4, v1, v2, v3, v4⟩
                  refine wl_nil ?_
                  refine at_then ?_
                  -- at: cond
                  refine wc_condT rfl ?_
                  refine wc_region ?_
                  refine wl_pu (y_move rfl) rfl ?_
                  refine wl_pu (y_move rfl) rfl ?_
                  refine wl_pu (y_move rfl) rfl ?_
                  refine wl_pu (y_sub (i := (t'.now : Int)) (j := (t'.since : Int)) rfl rfl (by omega)) rfl ?_
                  refine wl_do (d_call (by kernel_rfl) rfl (n_measure hok4 _)) rfl ?_
                  rintro _ _ ⟨m5, rfl, hok5, W5, N5⟩
                  refine wl_nil ?_
                  refine at_then ?_
                  refine wc_region ?_
                  refine wl_pu (y_assign rfl) rfl ?_
                  refine wl_nil ?_
                  -- at: join
                  exact at_join (m5, 0) ⟨hok5, by dsimp only; rw [N5.w, N4.w, w3], by dsimp only; rw [N5.n, N4.n, n3], by dsimp only; rw [N5.o, N4.o, o3], by dsimp only; rw [W5.last, v3, W3.last], by dsimp only; rw [W5.wnow, v4, W3.wnow], .inl ⟨rfl, by omega, by dsimp only; rw [N5.a, N4.a, a3], rfl, by dsimp only; rw [W5.wm, v1], by dsimp only; rw [W5.frw, v2]⟩⟩
                    ⟨rfl, c17 (by dsimp only; rw [N5.o, N4.o, o3]), c16 (by dsimp only; rw [N5.w, N4.w, w3]), rfl, rfl, rfl, rfl, rfl, rfl, rfl, rfl, rfl, rfl, rfl, rfl, rfl, trivial⟩ rfl
              · skip
                refine wc_skip ?_
                -- at: join
                exact at_join (m3, t'.timer) ⟨hok3, w3, n3, o3, W3.last, W3.wnow, .inr ⟨.inr (by omega), by dsimp only; omega, rfl, W3⟩⟩ ⟨rfl, c17 o3.symm, c16 w3.symm, rfl, rfl, rfl, rfl, rfl, rfl, rfl, rfl, rfl, rfl, rfl, rfl, rfl, trivial⟩ rfl
            · skip
              refine wc_seq ?_
              refine wc_region ?_
              refine wl_pu (y_move rfl) rfl ?_
              first | refine wl_pu (y_notT rfl) rfl ?_ | refine wl_pu (y_notF rfl) rfl ?_ | refine wl_pu (y_not rfl) rfl ?_ | refine wl_pu (y_notB rfl) rfl ?_
              refine wl_pu (y_move rfl) rfl ?_
              -- at: guard 2
              refine wl_goff rfl rfl rfl rfl ?_
              refine wl_goff rfl rfl rfl rfl ?_
              refine wl_goff rfl rfl rfl rfl ?_
              refine wl_goff rfl rfl rfl rfl ?_
              refine wl_goff rfl rfl rfl rfl ?_
              first | refine wl_pu (y_pickT rfl rfl) rfl ?_ | refine wl_pu (y_pickF rfl rfl) rfl ?_
              refine wl_nil ?_
              refine at_then ?_
              -- at: cond
              refine wc_condF rfl ?_
              refine wc_skip ?_
              -- at: join
              exact at_join (m2, t'.timer) ⟨hok2, rfl, rfl, rfl, rfl, rfl, .inr ⟨.inl rfl, rfl, rfl, .refl _⟩⟩ ⟨rfl, rfl, rfl, rfl, rfl, rfl, rfl, rfl, rfl, rfl, rfl, rfl, rfl, rfl, rfl, rfl, trivial⟩ rfl
          · skip
            rintro ⟨m4, tm4⟩ ⟨hok4, f1, f2, f3, f4, f5, f6⟩
            dsimp only at hok4 f1 f2 f3 f4 f5 f6
            have hwh : (tm4 = 0 ∧ m4.wm = 0 ∧ m4.frw = []) ∨ (1 ≤ tm4 ∧ m4.wm = 1 ∧ m4.wk < 16 ∧ (∃ x, SlF 151 3 (.slice m4.wp 1 m4.wc) 1 (tm tm4 t'.due x) m4.frw) ∧ (t'.now : Int) ≤ t'.due ∧ t'.due ≤ t'.now + 64) := by
              rcases f6 with ⟨_, _, _, g4, g5, g6⟩ | ⟨_, _, g3, g4⟩
              · exact .inl ⟨g4, g5, g6⟩
              · rcases hT.tm with ⟨z0, z1, z2, z3, z4, z5⟩ | ⟨z0, z1, z2, ⟨x, hS⟩, z4, z5⟩
                · exact .inl ⟨by omega, by rw [g4.wm, W2.wm]; exact z3, by rw [g4.frw, W2.frw]; exact z5⟩
                · exact .inr ⟨by omega, by rw [g4.wm, W2.wm]; exact z1, by rw [g4.wk, W2.wk]; exact z2, ⟨x, by rw [g4.wp, W2.wp, g4.wc, W2.wc, g4.frw, W2.frw, g3]; exact hS⟩, z4, z5⟩
            have hwn := hT.wn
            have hmx : max m4.wnow (t'.now : Int) = t'.now := by rw [f5, W2.wnow]; omega
            refine wc_join (fun s : M × Int => OK D s.1 ∧ Nu m4 s.1 ∧ s.1.last = m4.last ∧ s.1.wnow = t'.now ∧ s.2 = (if tm4 ≠ 0 ∧ t'.due ≤ t'.now then 0 else tm4) ∧ ((s.2 = 0 ∧ s.1.wk = 0 ∧ s.1.wp = none ∧ s.1.wm = 0 ∧ s.1.wc = 0 ∧ s.1.frw = []) ∨ (1 ≤ s.2 ∧ s.1.wm = 1 ∧ s.1.wk < 16 ∧ (∃ x, SlF 151 3 (.slice s.1.wp 1 s.1.wc) 1 (tm s.2 t'.due x) s.1.frw) ∧ (t'.now : Int) < t'.due ∧ t'.due ≤ t'.now + 64))) (fun s => evT (.slice p1' D.length c1) (.slice pf lf cf) (.slice pa la ca) B D st ⟨s.1, s.2, t'.due, t'.sent, t'.told + 1, t'.since, t'.now, t'.q, t'.e⟩) (fun s => heap B D st F s.1) ?_ ?_
            · rcases hwh with ⟨g1, g2, g3⟩ | ⟨g1, g2, g3, ⟨x, g4⟩, g5, g6⟩
              · skip
                refine wc_seq ?_
                refine wc_region ?_
                refine wl_pu (y_move rfl) rfl ?_
                refine wl_pu (y_move rfl) rfl ?_
                -- at: op (call {callee:(value (func 29)), args:[t201, t202], argTypes:[54, 3]})
                refine wl_do (d_call (by kernel_rfl) rfl (n_adv0 hok4 g2 g3 _)) rfl ?_
                rintro _ _ ⟨rfl, m5, rfl, hok5, N5, k1, k2, k3, k4, k5, k6, k7⟩
                refine wl_pu (y_lenL Try.underlying67 rfl) rfl ?_
                refine wl_pu (y_move rfl) rfl ?_
                refine wl_nil ?_
                refine at_then ?_
                refine wc_block ?_
                -- at: loop
                refine wc_loop (σ := Unit) (fun _ => True) (fun _ => 0) (fun _ => (204, int 0) :: (205, int 0) :: evT (.slice p1' D.length c1) (.slice pf lf cf) (.slice pa la ca) B D st ⟨m5, tm4, t'.due, t'.sent, t'.told + 1, t'.since, t'.now, t'.q, t'.e⟩) (fun _ => heap B D st F m5) () trivial ⟨rfl, rfl, rfl, c17 N5.o.symm, c16 N5.w.symm, rfl, rfl, rfl, rfl, rfl, rfl, rfl, rfl, rfl, rfl, rfl, rfl, rfl, trivial⟩ rfl ?_
                intro _ _
                refine wc_seq ?_
                refine wc_region ?_
                refine wl_pu (y_lss rfl rfl) rfl ?_
                refine wl_nil ?_
                refine at_then ?_
                refine wc_seq ?_
                -- at: cond
                refine wc_condD rfl (fun hc => absurd hc ((by omega))) (fun _ => ?_)
                refine wc_exit ?_
                refine at_then_exit ?_
                refine at_then_exit ?_
                refine at_block_same ?_
                -- at: join
                exact at_join (m5, tm4) ⟨hok5, N5, k6, k7.trans hmx, by dsimp only; rw [if_neg (by omega)], .inl ⟨g1, k1, k2, k3, k4, k5⟩⟩ ⟨rfl, rfl, rfl, rfl, rfl, rfl, rfl, rfl, rfl, rfl, rfl, rfl, rfl, rfl, rfl, rfl, trivial⟩ rfl
              · skip
                refine wc_seq ?_
                refine wc_region ?_
                refine wl_pu (y_move rfl) rfl ?_
                refine wl_pu (y_move rfl) rfl ?_
                -- at: op (call {callee:(value (func 29)), args:[t201, t202], argTypes:[54, 3]})
                refine wl_do (d_call (by kernel_rfl) rfl (n_adv1 hok4 g2 g3 g4 _)) rfl ?_
                rintro _ _ ⟨qs, k, c, rfl, m5, rfl, hok5, N5, k1, k2, kk⟩
                rw [hmx] at k2 kk
                refine wl_pu (y_lenL Try.underlying67 rfl) rfl ?_
                refine wl_pu (y_move rfl) rfl ?_
                refine wl_nil ?_
                refine at_then ?_
                refine wc_block ?_
                -- at: loop
                refine wc_loop (σ := Nat × M × Int) (fun s => s.1 ≤ k ∧ OK D s.2.1 ∧ Nu m5 s.2.1 ∧ Wh m5 s.2.1 ∧ s.2.2 = (if s.1 = 0 then tm4 else 0)) (fun s => k - s.1) (fun s => (204, int (k : Int)) :: (205, int (s.1 : Int)) :: evT (.slice p1' D.length c1) (.slice pf lf cf) (.slice pa la ca) B D st ⟨s.2.1, s.2.2, t'.due, t'.sent, t'.told + 1, t'.since, t'.now, t'.q, t'.e⟩) (fun s => heap B D st F s.2.1) (0, m5, tm4) ⟨by dsimp only; omega, hok5, .refl _, .refl _, rfl⟩ ⟨rfl, rfl, rfl, c17 N5.o.symm, c16 N5.w.symm, rfl, rfl, rfl, rfl, rfl, rfl, rfl, rfl, rfl, rfl, rfl, rfl, rfl, trivial⟩ rfl ?_
                rintro ⟨j, m6, tm6⟩ ⟨hj, hok6, N6, W6, ht6⟩
                dsimp only at hj hok6 N6 W6 ht6
                have hk1 : k ≤ 1 := by omega
                refine wc_seq ?_
                refine wc_region ?_
                refine wl_pu (y_lss rfl rfl) rfl ?_
                refine wl_nil ?_
                refine at_then ?_
                refine wc_seq ?_
                -- at: cond
                refine wc_condD rfl (fun hjk => ?_) (fun hjk => ?_)
                · skip
                  refine wc_skip ?_
                  refine at_then ?_
                  refine wc_seq ?_
                  refine wc_block ?_
                  refine wc_seq ?_
                  refine wc_region ?_
                  refine wl_pu (y_move rfl) rfl ?_
                  -- at: op (call {callee:(value (func 30)), args:[t207], argTypes:[51]})
                  refine wl_do (d_call (by kernel_rfl) rfl (n_back hok6)) rfl ?_
                  rintro _ _ ⟨m7, rfl, hok7, W7, N7⟩
                  refine wl_nil ?_
                  refine at_then ?_
                  refine wc_region ?_
                  refine wl_pu (y_assign rfl) rfl ?_
                  refine wl_nil ?_
                  refine at_block_normal ?_
                  refine at_then ?_
                  refine wc_region ?_
                  refine wl_pu (y_add (i := (j : Int)) (j := 1) rfl rfl (by dsimp only at hjk; omega)) rfl ?_
                  refine wl_pu (y_move rfl) rfl ?_
                  refine wl_nil ?_
                  -- at: round
                  exact at_again (j + 1, m7, 0) ⟨by dsimp only at hjk ⊢; omega, hok7, ⟨by rw [N7.a, N6.a], by rw [N7.w, N6.w], by rw [N7.n, N6.n], by rw [N7.o, N6.o]⟩, W6.trans W7, by simp⟩ (by dsimp only at hjk ⊢; omega) ⟨rfl, rfl, rfl, c17 N7.o.symm, c16 N7.w.symm, rfl, rfl, rfl, rfl, rfl, rfl, rfl, rfl, rfl, rfl, rfl, rfl, rfl, trivial⟩ rfl
                · skip
                  refine wc_exit ?_
                  refine at_then_exit ?_
                  refine at_then_exit ?_
                  refine at_block_same ?_
                  -- at: join
                  have hjk' : j = k := by dsimp only at hjk; omega
                  refine at_join (m6, tm6) ⟨hok6, ⟨by rw [N6.a, N5.a], by rw [N6.w, N5.w], by rw [N6.n, N5.n], by rw [N6.o, N5.o]⟩, by dsimp only; rw [W6.last, k1], by dsimp only; rw [W6.wnow, k2], ?_, ?_⟩ ⟨rfl, rfl, rfl, rfl, rfl, rfl, rfl, rfl, rfl, rfl, rfl, rfl, rfl, rfl, rfl, rfl, trivial⟩ rfl
                  · dsimp only
                    rcases kk with ⟨h1, h2, _⟩ | ⟨h1, h2, _⟩
                    · rw [if_pos ⟨by omega, h2⟩, ht6, if_neg (by omega)]
                    · rw [if_neg (fun h => h2 h.2), ht6, if_pos (by omega)]
                  · dsimp only
                    rcases kk with ⟨h1, h2, h3, h4, h5, h6, h7⟩ | ⟨h1, h2, h3, h4, h5⟩
                    · exact .inl ⟨by rw [ht6, if_neg (by omega)], by rw [W6.wk, h3], by rw [W6.wp, h4], by rw [W6.wm, h5], by rw [W6.wc, h6], by rw [W6.frw, h7]⟩
                    · have e6 : tm6 = tm4 := by rw [ht6, if_pos (by omega)]
                      exact .inr ⟨by omega, by rw [W6.wm, h3], by rw [W6.wk]; exact h4, ⟨x, by rw [W6.wp, W6.wc, W6.frw, e6]; exact h5⟩, by omega, g6⟩
            · skip
              rintro ⟨m5, tm5⟩ ⟨hok5, N5, k1, k2, k3, k4⟩
              dsimp only at hok5 N5 k1 k2 k3 k4
              have hm5 : m5.wm ≤ 1 ∧ m5.wk < 16 := by
                rcases k4 with h | h
                · have := h.2.2.2.1; have := h.2.1; omega
                · have := h.2.1; have := h.2.2.1; omega
              refine wc_seq ?_
              refine wc_region ?_
              refine wl_pu (y_move rfl) rfl ?_
              refine wl_rd (y_toStrB Try.underlying24 Try.underlying5 Try.underlying9 (hB1.mono mem_heap) rfl) rfl ?_
              refine wl_pu (y_move rfl) rfl ?_
              -- at: op (call {callee:(value (func 31)), args:[t211, t212], argTypes:[9, 9]})
              refine wl_do (d_call (by kernel_rfl) rfl (hasp_spec _ _ _)) rfl ?_
              rintro _ _ ⟨rfl, rfl⟩
              first | refine wl_pu (y_notT rfl) rfl ?_ | refine wl_pu (y_notF rfl) rfl ?_ | refine wl_pu (y_not rfl) rfl ?_ | refine wl_pu (y_notB rfl) rfl ?_
              refine wl_pu (y_move rfl) rfl ?_
              -- at: guard 5
              refine wl_splitD 215 rfl (fun hc => absurd hc ((fun h => h (List.take_prefix _ _)))) (fun _ => ?_)
              refine wl_gon rfl rfl ?_
              refine wl_pu (y_move rfl) rfl ?_
              refine wl_gon rfl rfl ?_
              -- at: op (call {callee:(value (func 32)), args:[t216], argTypes:[54]})
              refine wl_do (d_call (by kernel_rfl) rfl (m_wlen hm5.1 hm5.2)) rfl ?_
              rintro _ _ ⟨rfl, rfl⟩
              refine wl_gon rfl rfl ?_
              refine wl_pu (y_gtr rfl rfl) rfl ?_
              first | refine wl_pu (y_pickT rfl rfl) rfl ?_ | refine wl_pu (y_pickF rfl rfl) rfl ?_
              refine wl_nil ?_
              refine at_then ?_
              -- at: cond
              refine wc_condD rfl (fun hc => absurd hc ((by have := hm5.1; dsimp only; omega))) (fun _ => ?_)
              refine wc_skip ?_
              refine at_block_normal ?_
              refine at_then ?_
              refine wc_region ?_
              refine wl_pu (y_move rfl) rfl ?_
              refine wl_pu (y_add (i := (t'.now : Int)) (j := 1) rfl rfl (by omega)) rfl ?_
              refine wl_pu (y_assign rfl) rfl ?_
              refine wl_nil ?_
              -- at: round
              have hlv : Live D.length m5.a tm5 t'.due t'.sent ((t'.now + 1 : Nat) : Int) m5.n m5.o := by
                have e1 := N5.a
                have e2 := N5.w
                have e3 := N5.n
                have e4 := N5.o
                have hh := live_step (len := D.length) (a := t.m.a) (n := t.m.n) (o := t.m.o) (n1 := m5.n) (w1 := t'.m.w) (timer := t.timer) (due := t.due) (timer1 := t'.timer) (due1 := t'.due) (sent := t.sent) (sent1 := t'.sent) (now := t.now) (x := ((1 + t'.now % 5 : Nat) : Int)) (a2 := m5.a) (timer2 := tm5) (lost := b = true)
                  (by have := hok.on; have := hok5.nw; have := hok5.wD; have := hok.an; omega) (by have := hok'.no; omega) (by omega) (by omega) (by omega)
                  (fun h => by
                    rcases hI.tm with k | k
                    · exact absurd k.1 h
                    · exact k.2.2.2.2)
                  (by
                    rcases scase with ⟨c1, c2, c3, c4, c5⟩ | ⟨c1, c2, c3, c4, c5⟩ | ⟨c1, c2, c3, c4, c5, c6⟩
                    · exact .inl ⟨c1, c2, c3, by omega, by omega⟩
                    · exact .inr (.inl ⟨c1, c2, by omega, by omega, by omega⟩)
                    · exact .inr (.inr ⟨c1, c2, by omega, by omega, by omega, by omega⟩))
                  (fun h => by have := hb h; omega)
                  (by
                    rcases f6 with ⟨g1, g2, g3, g4, g5, g6⟩ | ⟨g1, g2, g3, g4⟩
                    · refine .inl ⟨by rw [g1]; simp, by omega, by omega, ?_⟩
                      rw [k3, if_neg (fun h => h.1 g4)]; exact g4
                    · refine .inr ⟨?_, by omega, ?_⟩
                      · rcases g1 with g1 | g1
                        · exact .inl g1
                        · exact .inr (by omega)
                      · rw [k3, g3, hnow'])
                  hI.lv (by omega)
                have e5 : min (m5.n : Int) (t.m.o + ((1 + t'.now % 5 : Nat) : Int)) = (m5.o : Int) := by omega
                rw [e5] at hh
                have e6 : ((t'.now + 1 : Nat) : Int) = (t.now : Int) + 1 := by omega
                rw [e6]
                exact hh
              refine at_again ⟨m5, tm5, t'.due, t'.sent, t'.told + 1, t'.since, t'.now + 1, t'.q, t'.e⟩ ⟨hok5, hT.qe, by dsimp only; have := hT.ew; have := N5.w; omega, ?_, by dsimp only; omega, by dsimp only; have := hT.l0; rw [k1, f4, W2.last]; exact this, by dsimp only; have := hT.l1; rw [k1, f4, W2.last]; exact this, by dsimp only; have := hT.s1; omega, by dsimp only; omega, by dsimp only; omega, by dsimp only; omega, by dsimp only; omega, hlv⟩ (by dsimp only; omega)
                ⟨rfl, rfl, rfl, rfl, rfl, rfl, rfl, rfl, rfl, rfl, rfl, rfl, rfl, rfl, rfl, rfl, trivial⟩ rfl
              rcases k4 with h | ⟨h1, h2, h3, h4, h5, h6⟩
              · exact .inl h
              · exact .inr ⟨h1, h2, h3, h4, by dsimp only; omega, by dsimp only; omega⟩
    · skip
      refine wc_exit ?_
      refine at_then_exit ?_
      refine at_then_exit ?_
      refine at_block_same ?_
      refine at_then ?_
      refine wc_seq ?_
      refine wc_region ?_
      refine wl_pu (y_move rfl) rfl ?_
      refine wl_pu (y_move rfl) rfl ?_
      -- at: op (convert 24 9 t221)
      have ho : D.take t.m.o = D := by
        rw [List.length_take] at hout
        exact List.take_of_length_le (by omega)
      refine wl_rd (y_toStrB Try.underlying24 Try.underlying5 Try.underlying9 (hB1.mono mem_heap) rfl) rfl ?_
      refine wl_pu (y_eqS rfl rfl) rfl ?_
      refine wl_pu (y_assign rfl) rfl ?_
      refine wl_nil ?_
      refine at_then ?_
      refine wc_ret ?_
      -- at: ret
      refine at_drop (at_drop (at_drop (at_drop (at_dropL (at_drop (at_drop (at_dropL ?_)))))))
      refine at_ret1 rfl rfl ?_
      exact ⟨by rw [ho]; simp, rfl⟩
  · skip
    exfalso
    have h1 := hI.lv
    have h2 := hI.n2
    have h3 := hI.ok.on
    have h4 := hI.ok.nw
    have h5 := hI.ok.wD
    unfold Live Phi Gap at h1
    have h6 := hI.tm
    rcases h6 with h6 | h6
    · rw [if_pos h6.1] at h1
      omega
    · rw [if_neg (by omega)] at h1
      have := h6.2.2.2.2
      omega
end Go.Proofs.Ytkpndnjhfocheaa
