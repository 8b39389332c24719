/- What row.Makes comes to. -/
import Derived.Test.YtkpndnjhfocheaaRaidH
namespace Go.Proofs.Ytkpndnjhfocheaa
open Go.SL
variable {X : Inhabited SL.Outside}

theorem xall_cons (a : UInt8) (l : List UInt8) : xall (a :: l) = a ^^^ xall l := by
  have h : ∀ (l : List UInt8) (x : UInt8), l.foldl (fun a b => a ^^^ b) x = x ^^^ l.foldl (fun a b => a ^^^ b) 0 := by
    intro l
    induction l with
    | nil => intro x; simp
    | cons b l ih => intro x; rw [List.foldl_cons, List.foldl_cons, ih, ih (0 ^^^ b), UInt8.zero_xor, UInt8.xor_assoc]
  unfold xall
  rw [List.foldl_cons, h, UInt8.zero_xor]
theorem xall_perm {a b : List UInt8} (h : a.Perm b) : xall a = xall b := by
  induction h with
  | nil => rfl
  | cons x _ ih => rw [xall_cons, xall_cons, ih]
  | swap x y l => rw [xall_cons, xall_cons, xall_cons, xall_cons, ← UInt8.xor_assoc, ← UInt8.xor_assoc, UInt8.xor_comm y x]
  | trans _ _ h1 h2 => exact h1.trans h2

theorem mput_new {ks : List Int} {g : Int → UInt8} {k : Int} (h : k ∉ ks) : mput k (S (rep (g k))) (wmap ks g) = wmap (ks ++ [k]) g := by
  have hp : posn k (wmap ks g) 0 = none := posn_iff fun p hp => by
    have : p.1 ∈ ks := by rw [← wmap_fst ks g]; exact List.mem_map_of_mem hp
    rintro rfl
    exact h this
  rw [(posn_none hp).2.2]
  simp [wmap]
theorem wmap_congr {ks : List Int} {g g' : Int → UInt8} (h : ∀ k ∈ ks, g k = g' k) : wmap ks g = wmap ks g' := List.map_congr_left fun k hk => by rw [h k hk]
theorem wmap_vals (ks : List Int) (g : Int → UInt8) {ms : List Nat} (h : ∀ q ∈ ms, q < (wmap ks g).length) : (ms.map fun q => valAt (wmap ks g) q) = secs ((ms.map fun q => keyAt (wmap ks g) q).map g) := by
  rw [secs, List.map_map, List.map_map]
  refine List.map_congr_left fun q hq => ?_
  have hq' := h q hq
  rw [wmap_len] at hq'
  simp [valAt, keyAt, wmap, hq']

theorem mv3 {g x y z : Nat × Obj} {fr F : Hp} : (fr ++ (g :: x :: y :: z :: F)).Perm (x :: y :: z :: (fr ++ (g :: F))) :=
  (List.Perm.append_left fr Go.SL.p3.symm).trans (perm_mid.trans (List.Perm.cons _ (perm_mid.trans (List.Perm.cons _ perm_mid))))

section
variable {lv rw : Int} {n : Nat}
theorem par_not (h : GOk lv n rw) (r : Int) : par n r ∉ dats n r := by
  intro hm
  obtain ⟨d, hd, he⟩ := List.mem_map.1 hm
  have hd' := List.mem_range.1 hd
  have hp := par_lo h r
  unfold dat at he
  generalize par n r = p at he hp
  rcases h.three with rfl | rfl | rfl <;> simp at he hd' hp <;> omega

/-- What is to be written: each sector whose member is in, and the parity's, if it is in. -/
structure MkR (n : Nat) (f : Int → Bool) (r : Int) (ks : List Int) (gw : Int → UInt8) (x : UInt8) (ko : List Int) (go : Int → UInt8) : Prop where
  nodup : ko.Nodup
  mem : ∀ k, k ∈ ko ↔ (k ∈ ks ∧ f k = true) ∨ (k = par n r ∧ f (par n r) = true)
  dat_ : ∀ k ∈ ks, go k = gw k
  par_ : f (par n r) = true → go (par n r) = x

theorem makes_spec (F : Hp) (h : GOk lv n rw) (f : Int → Bool) (ho : OneOut n f) (r : Int) (hr : 0 ≤ r ∧ r < rw) (b bg : Nat) (ks : List Int) (gw gg : Int → UInt8) (lg : List (Int × Value)) (hw : WOk n r ks) (hG : ∀ l, NeedR n f r ks l → Got lg l gg) :
    Ctr Try.prog 95 [.agg ⟨geo lv n rw⟩, int r, .agg ⟨ins f⟩, .map (some b), .map (some bg)] ((b, mrow int (wmap ks gw)) :: (bg, mrow int lg) :: F)
      (fun v L' => ∃ bo ko go l, v = .tuple #[.map (some bo), int 0] ∧ NeedR n f r ks l ∧ MkR n f r ks gw (xall (ks.map gw ++ l.map gg)) ko go ∧ L' = (bo, mrow int (wmap ko go)) :: (b, mrow int (wmap ks gw)) :: (bg, mrow int lg) :: F) := by
  have hn := h.mem3
  have hkl := hw.len h
  have hki := hw.in_ h
  have hpl := par_lo h r
  have hpn : par n r ∉ ks := fun hc => par_not h r (hw.sub _ hc)
  refine spec_body Try.func95 Try.ntmps95 rfl rfl ?_
  refine wc_seq ?_
  refine wc_region ?_
  refine wl_do (d_box rfl) rfl ?_
  rintro _ _ ⟨bNEW, rfl, rfl⟩
  refine wl_do (d_box rfl) rfl ?_
  rintro _ _ ⟨bNEW2, rfl, rfl⟩
  refine wl_pu (y_assign rfl) rfl ?_
  refine wl_pu (y_assign rfl) rfl ?_
  refine wl_nil ?_
  refine at_then ?_
  refine wc_seq ?_
  refine wc_region ?_
  refine wl_heap ((bNEW2, row 84 (ins f)) :: (bNEW, row 72 (geo lv n rw)) :: (b, mrow int (wmap ks gw)) :: (bg, mrow int lg) :: F) rfl ?_
  refine wl_rd (y_loadAgg (k := 3) (vs := geo lv n rw) 1 rfl rfl rfl rfl (by kernel_rfl) (by kernel_rfl)) rfl ?_
  refine wl_pu (y_move rfl) rfl ?_
  refine wl_rd (y_loadAgg (k := 4) (vs := ins f) 0 rfl rfl rfl rfl (by kernel_rfl) (by kernel_rfl)) rfl ?_
  refine wl_pu (y_move rfl) rfl ?_
  -- at: op (call {callee:(value (func 94)), args:[t22, t23, t24, t25], argTypes:[72, 3, 84, 102]})
  refine wl_perm Go.SL.p2 ?_
  refine wl_do (d_call (by kernel_rfl) rfl (needs_spec _ h f ho r hr b ks gw hw)) rfl ?_
  rintro _ _ ⟨u, l, fr, rfl, hN, hS, rfl⟩
  have hGl := hG l hN
  have hll : l.length ≤ 4 := by
    cases hN with
    | out => simp
    | rest _ _ _ hl => have := hl.length_eq; have := List.length_filter_le (fun m => decide (m ∉ ks)) (dats n r); have := dats_len n r; omega
    | old _ _ _ hl => have := hl.length_eq; rw [List.length_append] at this; simp at this; omega
  refine wl_pu (y_move rfl) rfl ?_
  refine wl_pu (y_extract rfl rfl) rfl ?_
  refine wl_pu (y_extract rfl rfl) rfl ?_
  refine wl_pu (y_assign rfl) rfl ?_
  refine wl_pu (y_assign rfl) rfl ?_
  refine wl_nil ?_
  refine at_then ?_
  refine wc_seq ?_
  refine wc_seq ?_
  refine wc_region ?_
  refine wl_pu (y_move rfl) rfl ?_
  refine wl_pu (y_neq rfl rfl) rfl ?_
  refine wl_nil ?_
  refine at_then ?_
  -- at: cond
  refine wc_condD rfl (fun hc => absurd hc ((by omega))) (fun _ => ?_)
  refine wc_skip ?_
  refine at_then ?_
  refine wc_seq ?_
  refine wc_seq ?_
  refine wc_region ?_
  refine wl_pu (y_move rfl) rfl ?_
  refine wl_pu (y_move rfl) rfl ?_
  -- at: op (call {callee:(value (func 133)), args:[t32, t33], argTypes:[102, 74]})
  refine wl_perm (L' := fr ++ ((bg, mrow int lg) :: (b, mrow int (wmap ks gw)) :: (bNEW2, row 84 (ins f)) :: (bNEW, row 72 (geo lv n rw)) :: F)) (List.Perm.append_left fr Go.SL.p3) ?_
  refine wl_do (d_call (by kernel_rfl) rfl (has_spec _ hGl hS (by omega))) rfl ?_
  rintro _ L9 ⟨rfl, hL9⟩
  rw [hL9]
  clear hL9
  refine wl_perm mv3 ?_
  first | refine wl_pu (y_notT rfl) rfl ?_ | refine wl_pu (y_notF rfl) rfl ?_ | refine wl_pu (y_not rfl) rfl ?_ | refine wl_pu (y_notB rfl) rfl ?_
  refine wl_nil ?_
  refine at_then ?_
  -- at: cond
  refine wc_condF rfl ?_
  refine wc_skip ?_
  refine at_then ?_
  refine wc_seq ?_
  refine wc_region ?_
  -- at: op (makeMap 102 none)
  refine wl_do d_makeMap rfl ?_
  rintro _ _ ⟨bo, rfl, rfl⟩
  refine wl_heap ((bo, mrow int (wmap [] gw)) :: (b, mrow int (wmap ks gw)) :: (bNEW2, row 84 (ins f)) :: (bNEW, row 72 (geo lv n rw)) :: (fr ++ ((bg, mrow int lg) :: F))) rfl ?_
  refine wl_pu (y_assign rfl) rfl ?_
  refine wl_nil ?_
  refine at_then ?_
  refine wc_seq ?_
  refine wc_seq ?_
  refine wc_region ?_
  refine wl_pu (y_move rfl) rfl ?_
  -- at: op (range 102 t37)
  refine wl_do (d_range 1 Try.underlying102 rfl rfl) rfl ?_
  rintro _ _ ⟨rr, rfl, rfl⟩
  refine wl_nil ?_
  refine at_then ?_
  refine wc_block ?_
  -- at: loop
  refine wc_loop (σ := List Nat) (fun s => ∃ left, (s ++ left).Perm (List.range (wmap ks gw).length)) (fun s => (wmap ks gw).length - s.length) (fun s => [(1, int r), (3, .map (some b)), (4, .map (some bg)), (5, ptr bNEW 0), (7, ptr bNEW2 0), (12, u), (14, .map (some bo)), (38, ptr rr 0)])
    (fun s => (rr, itr b (wmap ks gw).length s) :: (bo, mrow int (wmap ((s.map fun q => keyAt (wmap ks gw) q).filter f) gw)) :: (b, mrow int (wmap ks gw)) :: (bNEW2, row 84 (ins f)) :: (bNEW, row 72 (geo lv n rw)) :: (fr ++ ((bg, mrow int lg) :: F))) [] ⟨List.range _, List.Perm.refl _⟩ ⟨rfl, rfl, rfl, rfl, rfl, rfl, rfl, rfl, trivial⟩ rfl ?_
  rintro seen ⟨left, hp⟩
  show WC _ _ _ _ [(1, int r), (3, .map (some b)), (4, .map (some bg)), (5, ptr bNEW 0), (7, ptr bNEW2 0), (12, u), (14, .map (some bo)), (38, ptr rr 0)] ((rr, itr b (wmap ks gw).length seen) :: (bo, mrow int (wmap ((seen.map fun q => keyAt (wmap ks gw) q).filter f) gw)) :: (b, mrow int (wmap ks gw)) :: (bNEW2, row 84 (ins f)) :: (bNEW, row 72 (geo lv n rw)) :: (fr ++ ((bg, mrow int lg) :: F)))
  refine wc_seq ?_
  refine wc_region ?_
  refine wl_do (d_next 0 2 rfl rfl rfl) rfl ?_
  rintro _ _ (⟨rfl, rfl, hall⟩ | ⟨q, k, v, hq, hns, rfl, rfl⟩)
  · skip
    have hkk := wmap_keys ks gw (seen_all hp hall)
    generalize hkf : (seen.map fun q => keyAt (wmap ks gw) q) = ka at hkk ⊢
    have hnd : (ka.filter f).Nodup := (hkk.nodup_iff.2 hw.nodup).filter _
    have hmem : ∀ k, k ∈ ka.filter f ↔ k ∈ ks ∧ f k = true := fun k => by rw [List.mem_filter, hkk.mem_iff]
    have hpf : par n r ∉ ka.filter f := fun hc => hpn ((hmem _).1 hc).1
    refine wl_pu (y_extract rfl rfl) rfl ?_
    refine wl_nil ?_
    refine at_then ?_
    refine wc_seq ?_
    -- at: cond
    refine wc_condF rfl ?_
    refine wc_exit ?_
    refine at_then_exit ?_
    refine at_then_exit ?_
    refine at_block_same ?_
    refine at_then ?_
    refine wc_seq ?_
    refine wc_seq ?_
    refine wc_region ?_
    refine wl_drop ?_
    refine wl_rd (y_loadAgg (k := 3) (vs := geo lv n rw) 3 rfl rfl rfl rfl (by kernel_rfl) (by kernel_rfl)) rfl ?_
    refine wl_pu (y_move rfl) rfl ?_
    -- at: op (call {callee:(value (func 137)), args:[t51, t52], argTypes:[72, 3]})
    refine wl_do (d_call (by kernel_rfl) rfl (parity_spec _ h r hr)) rfl ?_
    rintro _ _ ⟨rfl, rfl⟩
    refine wl_pu (y_move rfl) rfl ?_
    refine wl_pu (y_extract rfl rfl) rfl ?_
    refine wl_pu (y_extract rfl rfl) rfl ?_
    refine wl_pu (y_assign rfl) rfl ?_
    refine wl_pu (y_assign rfl) rfl ?_
    refine wl_nil ?_
    refine at_then ?_
    refine wc_seq ?_
    refine wc_region ?_
    refine wl_pu (y_move rfl) rfl ?_
    refine wl_pu (y_ixA 1 Try.underlying84 (by kernel_rfl) rfl rfl (by omega)) rfl ?_
    refine wl_rd (y_load 2 rfl rfl (v := .bool (f (par n r))) (ins_nth f (by omega)) (by kernel_rfl)) rfl ?_
    refine wl_nil ?_
    refine at_then ?_
    -- at: cond
    refine wc_condB rfl (fun hfp => ?_) (fun hfp => ?_)
    · skip
      refine wc_seq ?_
      refine wc_region ?_
      refine wl_pu (y_move rfl) rfl ?_
      -- at: op (call {callee:(value (func 146)), args:[t60], argTypes:[102]})
      refine wl_perm (L' := (bNEW2, row 84 (ins f)) :: (bNEW, row 72 (geo lv n rw)) :: (bo, mrow int (wmap (ka.filter f) gw)) :: (b, mrow int (wmap ks gw)) :: (fr ++ ((bg, mrow int lg) :: F))) (Go.SL.p2.trans (List.Perm.cons _ Go.SL.p2)) ?_
      refine wl_drop (wl_drop ?_)
      refine wl_do (d_call (by kernel_rfl) rfl (mvals_spec _ b)) rfl ?_
      rintro _ _ ⟨mv, rfl, rfl⟩
      refine wl_perm (L' := [(mv, row 102 [.map (some b)]), (b, mrow int (wmap ks gw))] ++ ((bo, mrow int (wmap (ka.filter f) gw)) :: (fr ++ ((bg, mrow int lg) :: F)))) (List.Perm.cons _ Go.SL.p1) ?_
      refine wl_do (d_call (by kernel_rfl) rfl (collectS_spec _ _ (by kernel_rfl) (mvals_iter mv b (wmap ks gw)) (by rw [wmap_len]; omega) (by rintro v ⟨q, k, hqk⟩; rw [(wmap_at hqk).2]; rfl))) rfl ?_
      rintro u2 _ ⟨_, f2, ⟨ms, hms, rfl⟩, hS2, rfl⟩
      have hkm := wmap_keys ks gw hms
      rw [wmap_vals ks gw (fun q hq => by simpa using hms.mem_iff.1 hq)] at hS2
      generalize hkn : (ms.map fun q => keyAt (wmap ks gw) q) = kb at hkm hS2
      have hkbl := hkm.length_eq
      rw [show (secs (kb.map gw)).length = (kb.map gw).length by simp [secs]] at hS2
      obtain ⟨b2, c2, sp2, rfl, rfl, hc2, hl2⟩ := slF_cons hS2 (by rw [List.length_map]; omega)
      refine wl_perm (L' := (mv, row 102 [.map (some b)]) :: (b2, row 9 (secs (kb.map gw) ++ sp2)) :: (b, mrow int (wmap ks gw)) :: (bo, mrow int (wmap (ka.filter f) gw)) :: (fr ++ ((bg, mrow int lg) :: F))) Go.SL.p1 ?_
      refine wl_drop ?_
      refine wl_perm mv3.symm ?_
      refine wl_pu (y_move rfl) rfl ?_
      refine wl_pu (y_move rfl) rfl ?_
      -- at: op (call {callee:(value (func 135)), args:[t63, t64], argTypes:[102, 74]})
      refine wl_do (d_call (by kernel_rfl) rfl (sectors_spec _ hGl hS (by omega))) rfl ?_
      rintro us _ ⟨fs, hs, rfl⟩
      have hxs : xall (kb.map gw ++ l.map gg) = xall (ks.map gw ++ l.map gg) := xall_perm ((hkm.map gw).append_right _)
      generalize hsum : xall (ks.map gw ++ l.map gg) = sm at hxs
      have hend : ∀ (ko : List Int) (go : Int → UInt8), ko = ka.filter f ++ [par n r] → go = (fun k => if k = par n r then sm else gw k) → MkR n f r ks gw sm ko go := fun ko go e1 e2 => by
        subst e1 e2
        refine ⟨List.nodup_append.2 ⟨hnd, by simp, fun a ha c hc => ?_⟩, fun k => ?_, fun k hk => if_neg (by rintro rfl; exact hpn hk), fun _ => if_pos rfl⟩
        · simp only [List.mem_singleton] at hc
          rintro rfl
          exact hpf (hc ▸ ha)
        · rw [List.mem_append, hmem, List.mem_singleton, hfp]
          simp
      have hput : mput (par n r) (S (rep sm)) (wmap (ka.filter f) gw) = wmap (ka.filter f ++ [par n r]) (fun k => if k = par n r then sm else gw k) := by
        rw [← mput_new hpf, if_pos rfl, wmap_congr (g' := fun k => if k = par n r then sm else gw k) (fun k hk => (if_neg (by rintro rfl; exact hpf hk)).symm)]
      have hokf := wmap_ok gw hnd (fun k hk => hki k ((hmem k).1 hk).1)
      by_cases hl0 : l = []
      · skip
        subst hl0
        obtain ⟨ps, cs, rfl⟩ := slF_form hs
        refine wl_dropL ?_
        refine wl_pu (y_app0 (es := 1) Try.underlying36 (by kernel_rfl) rfl rfl hc2) rfl ?_
        refine wl_perm (L' := [(b2, row 9 (secs (kb.map gw) ++ sp2))] ++ (fr ++ ((bg, mrow int lg) :: (b, mrow int (wmap ks gw)) :: (bo, mrow int (wmap (ka.filter f) gw)) :: F))) ((List.Perm.append_left fr Go.SL.p1).trans perm_mid) ?_
        refine wl_do (d_call (by kernel_rfl) rfl (xsum_spec _ hS2 (by rw [List.length_map]; omega))) rfl ?_
        rintro _ L9 ⟨rfl, hL9⟩
        rw [hL9]
        clear hL9
        refine wl_dropL (A := [_]) (wl_dropL (A := fr) ?_)
        refine wl_perm (L' := (bo, mrow int (wmap (ka.filter f) gw)) :: (b, mrow int (wmap ks gw)) :: (bg, mrow int lg) :: F) (Go.SL.p2.trans (List.Perm.cons _ Go.SL.p1)) ?_
        rw [List.map_nil, List.append_nil] at hxs
        rw [hxs]
        refine wl_pu (y_move rfl) rfl ?_
        refine wl_pu (y_extract rfl rfl) rfl ?_
        refine wl_pu (y_extract rfl rfl) rfl ?_
        refine wl_pu (y_assign rfl) rfl ?_
        refine wl_pu (y_assign rfl) rfl ?_
        refine wl_nil ?_
        refine at_then ?_
        refine wc_seq ?_
        refine wc_seq ?_
        refine wc_region ?_
        refine wl_pu (y_move rfl) rfl ?_
        refine wl_pu (y_neq rfl rfl) rfl ?_
        refine wl_nil ?_
        refine at_then ?_
        -- at: cond
        refine wc_condD rfl (fun hc => absurd hc ((by omega))) (fun _ => ?_)
        refine wc_skip ?_
        refine at_then ?_
        refine wc_region ?_
        refine wl_pu (y_move rfl) rfl ?_
        refine wl_pu (y_move rfl) rfl ?_
        refine wl_pu (y_move rfl) rfl ?_
        -- at: op (mapUpdate 102 t73 t74 t75)
        refine wl_do0 (d_mapUpdate (k := par n r) 0 rkey Try.underlying102 ⟨by omega, by omega⟩ hokf rfl rfl rfl rfl) (fun _ _ hL => ?_)
        subst hL
        refine wl_heap ((bo, mrow int (mput (par n r) (S (rep sm)) (wmap (ka.filter f) gw))) :: (b, mrow int (wmap ks gw)) :: (bg, mrow int lg) :: F) rfl ?_
        rw [hput]
        refine wl_nil ?_
        refine at_then ?_
        refine wc_seq ?_
        refine wc_region ?_
        refine wl_pu (y_move rfl) rfl ?_
        refine wl_pu (y_assign rfl) rfl ?_
        refine wl_pu (y_assign rfl) rfl ?_
        refine wl_nil ?_
        refine at_then ?_
        refine wc_ret ?_
        -- at: ret
        refine at_ret2 rfl rfl rfl ?_
        exact ⟨bo, _, _, [], rfl, hN, hsum ▸ hend _ _ rfl rfl, rfl⟩
      · skip
        have hl1 : 0 < (l.map gg).length := by rw [List.length_map]; exact List.length_pos_iff.2 hl0
        obtain ⟨bs, cs, sps, rfl, rfl, hcs, hls⟩ := slF_cons hs hl1
        have hsl : (secs (l.map gg)).length = (l.map gg).length := by simp [secs]
        refine wl_perm (L' := [(b2, row 9 (secs (kb.map gw) ++ sp2))] ++ ((bs, row 9 (secs (l.map gg) ++ sps)) :: (fr ++ ((bg, mrow int lg) :: (b, mrow int (wmap ks gw)) :: (bo, mrow int (wmap (ka.filter f) gw)) :: F)))) ((List.Perm.cons _ ((List.Perm.append_left fr Go.SL.p1).trans perm_mid)).trans Go.SL.p1) ?_
        refine wl_do (d_append (sz := 1) (bytes := 16) (L0 := (bs, row 9 (secs (l.map gg) ++ sps)) :: (fr ++ ((bg, mrow int lg) :: (b, mrow int (wmap ks gw)) :: (bo, mrow int (wmap (ka.filter f) gw)) :: F))) 0 (S []) Try.underlying36 (by kernel_rfl) rfl rfl rfl hS2 rfl rfl (news := secs (l.map gg)) (by rw [List.drop_zero, Nat.mul_one, ← hsl, List.take_left]) (by omega) (by simp [allOne, secs, Value.oneCell']) (by simp only [List.length_map] at *; omega) (by simp only [List.length_map] at *; omega)) rfl ?_
        rintro u5 _ ⟨f5, hS5, rfl⟩
        rw [← List.length_append, show secs (kb.map gw) ++ secs (l.map gg) = secs (kb.map gw ++ l.map gg) by simp [secs]] at hS5
        refine wl_do (d_call (by kernel_rfl) rfl (xsum_spec _ hS5 (by rw [List.length_append, List.length_map, List.length_map]; omega))) rfl ?_
        rintro _ L9 ⟨rfl, hL9⟩
        rw [hL9]
        clear hL9
        refine wl_dropL (wl_drop (wl_dropL ?_))
        refine wl_perm (L' := (bo, mrow int (wmap (ka.filter f) gw)) :: (b, mrow int (wmap ks gw)) :: (bg, mrow int lg) :: F) (Go.SL.p2.trans (List.Perm.cons _ Go.SL.p1)) ?_
        rw [hxs]
        refine wl_pu (y_move rfl) rfl ?_
        refine wl_pu (y_extract rfl rfl) rfl ?_
        refine wl_pu (y_extract rfl rfl) rfl ?_
        refine wl_pu (y_assign rfl) rfl ?_
        refine wl_pu (y_assign rfl) rfl ?_
        refine wl_nil ?_
        refine at_then ?_
        refine wc_seq ?_
        refine wc_seq ?_
        refine wc_region ?_
        refine wl_pu (y_move rfl) rfl ?_
        refine wl_pu (y_neq rfl rfl) rfl ?_
        refine wl_nil ?_
        refine at_then ?_
        -- at: cond
        refine wc_condD rfl (fun hc => absurd hc ((by omega))) (fun _ => ?_)
        refine wc_skip ?_
        refine at_then ?_
        refine wc_region ?_
        refine wl_pu (y_move rfl) rfl ?_
        refine wl_pu (y_move rfl) rfl ?_
        refine wl_pu (y_move rfl) rfl ?_
        -- at: op (mapUpdate 102 t73 t74 t75)
        refine wl_do0 (d_mapUpdate (k := par n r) 0 rkey Try.underlying102 ⟨by omega, by omega⟩ hokf rfl rfl rfl rfl) (fun _ _ hL => ?_)
        subst hL
        refine wl_heap ((bo, mrow int (mput (par n r) (S (rep sm)) (wmap (ka.filter f) gw))) :: (b, mrow int (wmap ks gw)) :: (bg, mrow int lg) :: F) rfl ?_
        rw [hput]
        refine wl_nil ?_
        refine at_then ?_
        refine wc_seq ?_
        refine wc_region ?_
        refine wl_pu (y_move rfl) rfl ?_
        refine wl_pu (y_assign rfl) rfl ?_
        refine wl_pu (y_assign rfl) rfl ?_
        refine wl_nil ?_
        refine at_then ?_
        refine wc_ret ?_
        -- at: ret
        refine at_ret2 rfl rfl rfl ?_
        exact ⟨bo, _, _, l, rfl, hN, hsum ▸ hend _ _ rfl rfl, rfl⟩
    · skip
      refine wc_skip ?_
      refine at_then ?_
      refine wc_seq ?_
      refine wc_region ?_
      refine wl_pu (y_move rfl) rfl ?_
      refine wl_pu (y_assign rfl) rfl ?_
      refine wl_pu (y_assign rfl) rfl ?_
      refine wl_nil ?_
      refine at_then ?_
      refine wc_ret ?_
      -- at: ret
      refine at_perm (L' := (bNEW2, row 84 (ins f)) :: (bNEW, row 72 (geo lv n rw)) :: (fr ++ ((bo, mrow int (wmap (ka.filter f) gw)) :: (b, mrow int (wmap ks gw)) :: (bg, mrow int lg) :: F))) ?_ ?_
      · refine (Go.SL.p2.trans (List.Perm.cons _ Go.SL.p2)).trans (List.Perm.cons _ (List.Perm.cons _ ?_))
        exact (List.Perm.cons _ perm_mid.symm).trans perm_mid.symm
      refine at_drop (at_drop (at_dropL ?_))
      refine at_ret2 rfl rfl rfl ?_
      refine ⟨bo, _, gw, l, rfl, hN, ⟨hnd, fun k => ?_, fun _ _ => rfl, fun hc => by rw [hfp] at hc; cases hc⟩, rfl⟩
      rw [hmem, hfp]
      simp
  · skip
    obtain ⟨hp', hlt⟩ := seen_step hp (List.getElem?_eq_some_iff.1 hq).1 hns
    have hkq := keyAt_of hq
    obtain ⟨hqk, rfl⟩ := wmap_at hq
    have hkm : k ∈ ks := List.mem_of_getElem? hqk
    have hk4 := hki k hkm
    have hkk : ((seen ++ [q] ++ left.erase q).map fun q => keyAt (wmap ks gw) q).Nodup := (wmap_keys ks gw hp').nodup_iff.2 hw.nodup
    have hst : ((seen ++ [q]).map fun q => keyAt (wmap ks gw) q) = (seen.map fun q => keyAt (wmap ks gw) q) ++ [k] := by rw [List.map_append, List.map_cons, List.map_nil, hkq]
    rw [List.map_append, hst] at hkk
    generalize hka : (seen.map fun q => keyAt (wmap ks gw) q) = ka at hkk hst ⊢
    have hkn : ka.Nodup ∧ k ∉ ka := by
      have h1 := (List.nodup_append.1 hkk).1
      have h2 := List.nodup_append.1 h1
      exact ⟨h2.1, fun hc => h2.2.2 k hc k (by simp) rfl⟩
    have hka4 : ∀ x ∈ ka, 0 ≤ x ∧ x < 4 := fun x hx => by
      have hm := wmap_keys ks gw hp'
      rw [List.map_append, hst] at hm
      exact hki x (hm.mem_iff.1 (by simp [hx]))
    refine wl_pu (y_extract rfl rfl) rfl ?_
    refine wl_nil ?_
    refine at_then ?_
    refine wc_seq ?_
    -- at: cond
    refine wc_condT rfl ?_
    refine wc_skip ?_
    refine at_then ?_
    refine wc_block ?_
    refine wc_seq ?_
    refine wc_region ?_
    -- at: op (entry t38)
    refine wl_rd (y_entry 0 2 q hq rfl rfl rfl) rfl ?_
    refine wl_pu (y_extract rfl rfl) rfl ?_
    refine wl_pu (y_extract rfl rfl) rfl ?_
    refine wl_pu (y_assign rfl) rfl ?_
    refine wl_pu (y_assign rfl) rfl ?_
    refine wl_nil ?_
    refine at_then ?_
    refine wc_seq ?_
    refine wc_region ?_
    refine wl_pu (y_move rfl) rfl ?_
    refine wl_pu (y_ixA 1 Try.underlying84 (by kernel_rfl) rfl rfl (by omega)) rfl ?_
    refine wl_rd (y_load 3 rfl rfl (v := .bool (f k)) (ins_nth f (by omega)) (by kernel_rfl)) rfl ?_
    refine wl_nil ?_
    refine at_then ?_
    -- at: cond
    refine wc_condB rfl (fun hfk => ?_) (fun hfk => ?_)
    · skip
      refine wc_region ?_
      refine wl_pu (y_move rfl) rfl ?_
      refine wl_pu (y_move rfl) rfl ?_
      refine wl_pu (y_move rfl) rfl ?_
      -- at: op (mapUpdate 102 t47 t48 t49)
      refine wl_do0 (d_mapUpdate (k := k) 1 rkey Try.underlying102 ⟨by omega, by omega⟩ (wmap_ok gw (hkn.1.filter _) (fun x hx => hka4 x (List.mem_filter.1 hx).1)) rfl rfl rfl rfl) (fun _ _ hL => ?_)
      subst hL
      refine wl_nil ?_
      refine at_block_normal ?_
      -- at: round
      refine at_again (seen ++ [q]) ⟨_, hp'⟩ (by simp; omega) ⟨rfl, rfl, rfl, rfl, rfl, rfl, rfl, rfl, trivial⟩ ?_
      show _ :: (bo, mrow int _) :: _ = _ :: (bo, mrow int _) :: _
      rw [hst, List.filter_append, mput_new (fun hc => hkn.2 (List.mem_filter.1 hc).1)]
      simp [hfk]
    · skip
      refine wc_skip ?_
      refine at_block_normal ?_
      -- at: round
      refine at_again (seen ++ [q]) ⟨_, hp'⟩ (by simp; omega) ⟨rfl, rfl, rfl, rfl, rfl, rfl, rfl, rfl, trivial⟩ ?_
      show _ :: (bo, mrow int _) :: _ = _ :: (bo, mrow int _) :: _
      rw [hst, List.filter_append]
      simp [hfk]
end
end Go.Proofs.Ytkpndnjhfocheaa
