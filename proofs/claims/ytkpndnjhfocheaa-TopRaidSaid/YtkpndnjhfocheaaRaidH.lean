/- What row.Needs comes to. -/
import Derived.Test.YtkpndnjhfocheaaRaidG
namespace Go.Proofs.Ytkpndnjhfocheaa
open Go.SL
variable {X : Inhabited SL.Outside}

/-! a map of sectors -/
def wmap (ks : List Int) (g : Int → UInt8) : List (Int × Value) := ks.map fun k => (k, S (rep (g k)))
theorem wmap_fst (ks : List Int) (g : Int → UInt8) : (wmap ks g).map Prod.fst = ks := by
  simp only [wmap, List.map_map]
  exact (List.map_congr_left fun _ _ => rfl).trans (List.map_id ks)
theorem wmap_ok {ks : List Int} (g : Int → UInt8) (hn : ks.Nodup) (hi : ∀ k ∈ ks, 0 ≤ k ∧ k < 4) : MOk i64ok (wmap ks g) :=
  ⟨fun p hp => by
    have : p.1 ∈ ks := by rw [← wmap_fst ks g]; exact List.mem_map_of_mem hp
    have := hi _ this
    exact ⟨by omega, by omega⟩, by rw [wmap_fst]; exact hn⟩
theorem wmap_mem {g : Int → UInt8} {k : Int} : ∀ {ks : List Int}, k ∈ ks → mget k (wmap ks g) = some (S (rep (g k)))
  | k' :: ks, h => by
    by_cases e : k = k'
    · subst e; simp [wmap, mget]
    · rcases List.mem_cons.1 h with h | h
      · exact absurd h e
      · have := wmap_mem (g := g) h
        simp only [wmap, List.map_cons, mget]
        rw [if_neg e]
        exact this
theorem wmap_not {g : Int → UInt8} {k : Int} : ∀ {ks : List Int}, k ∉ ks → mget k (wmap ks g) = none
  | [], _ => rfl
  | k' :: ks, h => by
    have h1 : k' ≠ k := fun hc => h (by simp [hc])
    have := wmap_not (g := g) (k := k) (ks := ks) (fun hc => h (by simp [hc]))
    simp only [wmap, List.map_cons, mget]
    rw [if_neg (fun hc => h1 hc.symm)]
    exact this
theorem wmap_at {ks : List Int} {g : Int → UInt8} {q : Nat} {k : Int} {v : Value} (h : (wmap ks g)[q]? = some (k, v)) : ks[q]? = some k ∧ v = S (rep (g k)) := by
  simp only [wmap, List.getElem?_map, Option.map_eq_some_iff] at h
  obtain ⟨k', hk, he⟩ := h
  simp only [Prod.mk.injEq] at he
  obtain ⟨rfl, rfl⟩ := he
  exact ⟨hk, rfl⟩
theorem wmap_len (ks : List Int) (g : Int → UInt8) : (wmap ks g).length = ks.length := by simp [wmap]
theorem wmap_keys (ks : List Int) (g : Int → UInt8) {ms : List Nat} (h : ms.Perm (List.range (wmap ks g).length)) : (ms.map fun q => keyAt (wmap ks g) q).Perm ks := by
  refine (h.map _).trans ?_
  rw [wmap_len]
  refine (List.Perm.of_eq ?_)
  apply List.ext_getElem?
  intro q
  by_cases hq : q < ks.length
  · simp [hq, keyAt, wmap]
  · simp [List.getElem?_eq_none (by omega : ks.length ≤ q)]
    omega

/-! whom a write reads -/
inductive NeedR (n : Nat) (f : Int → Bool) (r : Int) (ks : List Int) : List Int → Prop
  | out (hp : f (par n r) = false) : NeedR n f r ks []
  | rest (hp : f (par n r) = true) (ha : ∀ m ∈ dats n r, m ∉ ks → f m = true) (l : List Int) (hl : l.Perm ((dats n r).filter (· ∉ ks))) : NeedR n f r ks l
  | old (hp : f (par n r) = true) (ha : ∃ m ∈ dats n r, m ∉ ks ∧ f m = false) (l : List Int) (hl : l.Perm (ks ++ [par n r])) : NeedR n f r ks l

theorem nodup_len : ∀ {ks l : List Int}, ks.Nodup → (∀ k ∈ ks, k ∈ l) → ks.length ≤ l.length
  | [], _, _, _ => Nat.zero_le _
  | k :: ks, l, hn, hs => by
    have hk := hs k (by simp)
    have hn' := List.nodup_cons.1 hn
    have := nodup_len (ks := ks) (l := l.erase k) hn'.2 (fun x hx => (List.mem_erase_of_ne (by rintro rfl; exact hn'.1 hx)).2 (hs x (by simp [hx])))
    rw [List.length_erase_of_mem hk] at this
    have := List.length_pos_of_mem hk
    simp only [List.length_cons]
    omega
/-- Sectors of some of a row's data members. -/
structure WOk (n : Nat) (r : Int) (ks : List Int) : Prop where
  ne : ks ≠ []
  nodup : ks.Nodup
  sub : ∀ k ∈ ks, k ∈ dats n r

section
variable {lv rw : Int} {n : Nat}
theorem WOk.in_ {r : Int} {ks : List Int} (h : GOk lv n rw) (hw : WOk n r ks) : ∀ k ∈ ks, 0 ≤ k ∧ k < 4 := fun k hk => by
  have := dats_in h r k (hw.sub k hk)
  have := h.mem3
  omega
theorem WOk.len {r : Int} {ks : List Int} (h : GOk lv n rw) (hw : WOk n r ks) : 0 < ks.length ∧ ks.length ≤ 3 := by
  have h1 := List.length_pos_iff.2 hw.ne
  have h2 := nodup_len hw.nodup hw.sub
  have := dats_len n r
  have := h.mem3
  omega

theorem needs_spec (F : Hp) (h : GOk lv n rw) (f : Int → Bool) (ho : OneOut n f) (r : Int) (hr : 0 ≤ r ∧ r < rw) (b : Nat) (ks : List Int) (g : Int → UInt8) (hw : WOk n r ks) :
    Ctr Try.prog 94 [.agg ⟨geo lv n rw⟩, int r, .agg ⟨ins f⟩, .map (some b)] ((b, mrow int (wmap ks g)) :: F) (fun v L' => ∃ u l fr, v = .tuple #[u, int 0] ∧ NeedR n f r ks l ∧ SlF 3 1 u l.length (l.map int) fr ∧ L' = fr ++ ((b, mrow int (wmap ks g)) :: F)) := by
  have hn := h.mem3
  have hdl := dats_len n r
  have hkl := hw.len h
  have hki := hw.in_ h
  have hpl := par_lo h r
  have hok := wmap_ok g hw.nodup hki
  refine spec_body Try.func94 Try.ntmps94 rfl rfl ?_
  refine wc_seq ?_
  refine wc_region ?_
  refine wl_do (d_box rfl) rfl ?_
  rintro _ _ ⟨bNEW, rfl, rfl⟩
  refine wl_do (d_box rfl) rfl ?_
  rintro _ _ ⟨bNEW2, rfl, rfl⟩
  refine wl_pu (y_assign rfl) rfl ?_
  refine wl_pu (y_assign rfl) rfl ?_
  refine wl_nil ?_
  refine at_then ?_
  refine wc_seq ?_
  refine wc_seq ?_
  refine wc_region ?_
  refine wl_heap ((bNEW2, row 84 (ins f)) :: (bNEW, row 72 (geo lv n rw)) :: (b, mrow int (wmap ks g)) :: F) rfl ?_
  refine wl_rd (y_loadAgg (k := 3) (vs := geo lv n rw) 1 rfl rfl rfl rfl (by kernel_rfl) (by kernel_rfl)) rfl ?_
  refine wl_pu (y_move rfl) rfl ?_
  refine wl_rd (y_loadAgg (k := 4) (vs := ins f) 0 rfl rfl rfl rfl (by kernel_rfl) (by kernel_rfl)) rfl ?_
  refine wl_do (d_call (by kernel_rfl) rfl (may_spec _ h f ho r hr)) rfl ?_
  rintro _ _ ⟨rfl, rfl⟩
  refine wl_pu (y_assign rfl) rfl ?_
  refine wl_nil ?_
  refine at_then ?_
  refine wc_seq ?_
  refine wc_region ?_
  refine wl_pu (y_move rfl) rfl ?_
  refine wl_pu (y_neq rfl rfl) rfl ?_
  refine wl_nil ?_
  refine at_then ?_
  -- at: cond
  refine wc_condD rfl (fun hc => absurd hc ((by omega))) (fun _ => ?_)
  refine wc_skip ?_
  refine at_then ?_
  refine wc_seq ?_
  refine wc_region ?_
  refine wl_rd (y_loadAgg (k := 3) (vs := geo lv n rw) 1 rfl rfl rfl rfl (by kernel_rfl) (by kernel_rfl)) rfl ?_
  refine wl_pu (y_move rfl) rfl ?_
  -- at: op (call {callee:(value (func 93)), args:[t24, t25], argTypes:[72, 3]})
  refine wl_do (d_call (by kernel_rfl) rfl (data_spec _ h r hr)) rfl ?_
  rintro u0 _ ⟨f0, hS0, rfl⟩
  rw [← hdl] at hS0
  obtain ⟨bd, cd, spd, rfl, rfl, hcd, hld⟩ := slF_cons hS0 (by omega)
  refine wl_heap ((bd, row 3 ((dats n r).map int ++ spd)) :: (bNEW2, row 84 (ins f)) :: (bNEW, row 72 (geo lv n rw)) :: (b, mrow int (wmap ks g)) :: F) rfl ?_
  refine wl_pu (y_assign rfl) rfl ?_
  refine wl_nil ?_
  refine at_then ?_
  refine wc_seq ?_
  refine wc_seq ?_
  refine wc_region ?_
  refine wl_pu (y_move rfl) rfl ?_
  -- at: op (range 102 t27)
  refine wl_do (d_range 3 Try.underlying102 rfl rfl) rfl ?_
  rintro _ _ ⟨rr, rfl, rfl⟩
  refine wl_nil ?_
  refine at_then ?_
  refine wc_block ?_
  -- at: loop
  refine wc_loop (σ := List Nat) (fun s => ∃ left, (s ++ left).Perm (List.range (wmap ks g).length)) (fun s => (wmap ks g).length - s.length) (fun s => [(1, int r), (3, .map (some b)), (4, ptr bNEW 0), (6, ptr bNEW2 0), (11, sl bd 0 (dats n r).length cd), (28, ptr rr 0)])
    (fun s => (rr, itr b (wmap ks g).length s) :: (bd, row 3 ((dats n r).map int ++ spd)) :: (bNEW2, row 84 (ins f)) :: (bNEW, row 72 (geo lv n rw)) :: (b, mrow int (wmap ks g)) :: F) [] ⟨List.range _, List.Perm.refl _⟩ ⟨rfl, rfl, rfl, rfl, rfl, rfl, trivial⟩ rfl ?_
  rintro seen ⟨left, hp⟩
  show WC _ _ _ _ [(1, int r), (3, .map (some b)), (4, ptr bNEW 0), (6, ptr bNEW2 0), (11, sl bd 0 (dats n r).length cd), (28, ptr rr 0)] _
  refine wc_seq ?_
  refine wc_region ?_
  refine wl_do (d_next 0 4 rfl rfl rfl) rfl ?_
  rintro _ _ (⟨rfl, rfl, hall⟩ | ⟨q, k, v, hq, hns, rfl, rfl⟩)
  · skip
    refine wl_pu (y_extract rfl rfl) rfl ?_
    refine wl_nil ?_
    refine at_then ?_
    refine wc_seq ?_
    -- at: cond
    refine wc_condF rfl ?_
    refine wc_exit ?_
    refine at_then_exit ?_
    refine at_then_exit ?_
    refine at_block_same ?_
    refine at_then ?_
    refine wc_seq ?_
    refine wc_seq ?_
    refine wc_region ?_
    refine wl_pu (y_move rfl) rfl ?_
    refine wl_drop ?_
    refine wl_rd (y_lenM 3 Try.underlying102 rfl rfl) rfl ?_
    rw [wmap_len]
    refine wl_pu (y_eql rfl rfl) rfl ?_
    refine wl_nil ?_
    refine at_then ?_
    -- at: cond
    refine wc_condD rfl (fun hc => absurd hc ((by omega))) (fun _ => ?_)
    refine wc_skip ?_
    refine at_then ?_
    refine wc_seq ?_
    refine wc_region ?_
    refine wl_rd (y_loadAgg (k := 3) (vs := geo lv n rw) 2 rfl rfl rfl rfl (by kernel_rfl) (by kernel_rfl)) rfl ?_
    refine wl_pu (y_move rfl) rfl ?_
    -- at: op (call {callee:(value (func 137)), args:[t47, t48], argTypes:[72, 3]})
    refine wl_do (d_call (by kernel_rfl) rfl (parity_spec _ h r hr)) rfl ?_
    rintro _ _ ⟨rfl, rfl⟩
    refine wl_pu (y_move rfl) rfl ?_
    refine wl_pu (y_extract rfl rfl) rfl ?_
    refine wl_pu (y_extract rfl rfl) rfl ?_
    refine wl_pu (y_assign rfl) rfl ?_
    refine wl_pu (y_assign rfl) rfl ?_
    refine wl_nil ?_
    refine at_then ?_
    refine wc_seq ?_
    refine wc_region ?_
    refine wl_rd (y_loadAgg (k := 3) (vs := geo lv n rw) 2 rfl rfl rfl rfl (by kernel_rfl) (by kernel_rfl)) rfl ?_
    refine wl_pu (y_move rfl) rfl ?_
    refine wl_pu (y_move rfl) rfl ?_
    -- at: op (call {callee:(value (func 140)), args:[t52, t53, t54], argTypes:[72, 3, 102]})
    refine wl_drop ?_
    refine wl_perm (L' := (b, mrow int (wmap ks g)) :: (bNEW2, row 84 (ins f)) :: (bNEW, row 72 (geo lv n rw)) :: F) Go.SL.p2 ?_
    refine wl_do (d_call (by kernel_rfl) rfl (others_spec _ h r hr b _ hok)) rfl ?_
    rintro u1 _ ⟨ys, f1, hys, hS1, rfl⟩
    have hfl : ((dats n r).filter fun m => !(mget m (wmap ks g)).isSome) = (dats n r).filter (· ∉ ks) := List.filter_congr fun m _ => by
      by_cases hm : m ∈ ks
      · rw [wmap_mem hm]; simp [hm]
      · rw [wmap_not hm]; simp [hm]
    rw [hfl] at hys
    have hyl : ys.length ≤ 3 := by have := hys.length_eq; have := List.length_filter_le (fun m => decide (m ∉ ks)) (dats n r); omega
    have hyi : ∀ y ∈ ys, 0 ≤ y ∧ y < 4 := fun y hy => by
      have := dats_in h r y (List.mem_filter.1 (hys.mem_iff.1 hy)).1; omega
    refine wl_perm (L' := (bNEW2, row 84 (ins f)) :: (bNEW, row 72 (geo lv n rw)) :: (f1 ++ ((b, mrow int (wmap ks g)) :: F))) (((List.Perm.append_left f1 Go.SL.p2.symm).trans perm_mid).trans (List.Perm.cons _ perm_mid)) ?_
    refine wl_pu (y_assign rfl) rfl ?_
    refine wl_nil ?_
    refine at_then ?_
    refine wc_seq ?_
    refine wc_block ?_
    refine wc_seq ?_
    refine wc_region ?_
    refine wl_pu (y_move rfl) rfl ?_
    refine wl_pu (y_ixA 1 Try.underlying84 (by kernel_rfl) rfl rfl (by omega)) rfl ?_
    refine wl_rd (y_load 0 rfl rfl (v := .bool (f (par n r))) (ins_nth f (by omega)) (by kernel_rfl)) rfl ?_
    first | refine wl_pu (y_notT rfl) rfl ?_ | refine wl_pu (y_notF rfl) rfl ?_ | refine wl_pu (y_not rfl) rfl ?_ | refine wl_pu (y_notB rfl) rfl ?_
    refine wl_pu (y_assign rfl) rfl ?_
    refine wl_nil ?_
    refine at_then ?_
    -- at: cond
    refine wc_condB rfl (fun hfp => ?_) (fun hfp => ?_)
    · skip
      refine wc_seq ?_
      refine wc_region ?_
      refine wl_pu (y_assign rfl) rfl ?_
      refine wl_pu (y_assign rfl) rfl ?_
      refine wl_nil ?_
      refine at_then ?_
      refine wc_ret ?_
      refine at_block_ret ?_
      refine at_then_ret ?_
      -- at: ret
      refine at_drop (at_drop (at_dropL ?_))
      refine at_ret2 rfl rfl rfl ?_
      exact ⟨_, [], [], rfl, .out (by simpa using hfp), .nil, rfl⟩
    · skip
      have hfp' : f (par n r) = true := by simpa using hfp
      refine wc_seq ?_
      refine wc_region ?_
      refine wl_rd (y_loadAgg (k := 4) (vs := ins f) 0 rfl rfl rfl rfl (by kernel_rfl) (by kernel_rfl)) rfl ?_
      refine wl_pu (y_move rfl) rfl ?_
      -- at: op (call {callee:(value (func 141)), args:[t62, t63], argTypes:[84, 74]})
      refine wl_drop (wl_drop ?_)
      refine wl_do (d_call (by kernel_rfl) rfl (whole_spec _ f hS1 (by omega) hyi)) rfl ?_
      rintro _ L9 ⟨rfl, hL9⟩
      rw [hL9]
      clear hL9
      refine wl_pu (y_assign rfl) rfl ?_
      refine wl_nil ?_
      refine at_then ?_
      -- at: cond
      refine wc_condB rfl (fun hwh => ?_) (fun hwh => ?_)
      · skip
        refine wc_seq ?_
        refine wc_region ?_
        refine wl_pu (y_move rfl) rfl ?_
        refine wl_pu (y_assign rfl) rfl ?_
        refine wl_pu (y_assign rfl) rfl ?_
        refine wl_nil ?_
        refine at_then ?_
        refine wc_ret ?_
        refine at_block_ret ?_
        refine at_then_ret ?_
        -- at: ret
        refine at_ret2 rfl rfl rfl ?_
        refine ⟨_, ys, f1, rfl, .rest hfp' (fun m hm hmk => ?_) ys hys, hS1, rfl⟩
        exact List.all_eq_true.1 hwh m (hys.mem_iff.2 (List.mem_filter.2 ⟨hm, by simpa using hmk⟩))
      · skip
        refine wc_skip ?_
        refine at_block_normal ?_
        refine at_then ?_
        refine wc_seq ?_
        refine wc_region ?_
        refine wl_pu (y_move rfl) rfl ?_
        -- at: op (call {callee:(value (func 144)), args:[t66], argTypes:[102]})
        refine wl_dropL ?_
        refine wl_do (d_call (by kernel_rfl) rfl (mkeys_spec _ b)) rfl ?_
        rintro _ _ ⟨mk, rfl, rfl⟩
        refine wl_heap ([(mk, row 102 [.map (some b)]), (b, mrow int (wmap ks g))] ++ F) rfl ?_
        refine wl_do (d_call (by kernel_rfl) rfl (collectI_spec F _ (by kernel_rfl) (mkeys_iter mk b (wmap ks g)) (by rw [wmap_len]; omega) (by rintro v ⟨i, rfl⟩; rfl))) rfl ?_
        rintro u2 _ ⟨_, f2, ⟨ms, hms, rfl⟩, hS2, rfl⟩
        have hkk := wmap_keys ks g hms
        have hkll := hkk.length_eq
        rw [List.length_map] at hkll
        refine wl_pu (y_move rfl) rfl ?_
        -- at: op (buildSlice 74 1 [(0, t69)])
        refine wl_do (d_buildSlice [int (par n r)] Try.underlying74 rfl (built1 rfl)) rfl ?_
        rintro _ _ ⟨b1, rfl, rfl⟩
        refine wl_perm (L' := f2 ++ ((b1, row 3 [int (par n r)]) :: ([(mk, row 102 [.map (some b)]), (b, mrow int (wmap ks g))] ++ F))) perm_mid.symm ?_
        refine wl_do (d_append (sz := 1) (bytes := 8) (L0 := (b1, row 3 [int (par n r)]) :: ([(mk, row 102 [.map (some b)]), (b, mrow int (wmap ks g))] ++ F)) 0 (int 0) Try.underlying74 (by kernel_rfl) rfl rfl rfl hS2 rfl rfl (news := [int (par n r)]) rfl rfl rfl (by rw [List.length_map]; omega) (by rw [List.length_map]; omega)) rfl ?_
        rintro u3 _ ⟨f3, hS3, rfl⟩
        refine wl_perm (L' := (b1, row 3 [int (par n r)]) :: (mk, row 102 [.map (some b)]) :: (f3 ++ ((b, mrow int (wmap ks g)) :: F))) (perm_mid.trans (List.Perm.cons _ perm_mid)) ?_
        refine wl_drop (wl_drop ?_)
        have hS4 : SlF 3 1 u3 ((ms.map fun q => keyAt (wmap ks g) q) ++ [par n r]).length (((ms.map fun q => keyAt (wmap ks g) q) ++ [par n r]).map int) f3 := by
          rw [List.map_append, List.map_map, List.length_append, List.length_map]
          rw [List.length_map] at hS3
          exact hS3
        refine wl_do (d_call (by kernel_rfl) rfl (vals_spec _ u3 (slF_one hS4))) rfl ?_
        rintro _ _ ⟨m5, rfl, rfl⟩
        refine wl_do (d_call (by kernel_rfl) rfl (sortv_spec ((b, mrow int (wmap ks g)) :: F) m5 hS4 (by simp; omega))) rfl ?_
        rintro u6 _ ⟨zs, f6, hzp, hS6, rfl⟩
        refine wl_pu (y_assign rfl) rfl ?_
        refine wl_pu (y_assign rfl) rfl ?_
        refine wl_nil ?_
        refine at_then ?_
        refine wc_ret ?_
        -- at: ret
        refine at_perm (L' := (m5, row 74 [u3]) :: (f3 ++ (f6 ++ ((b, mrow int (wmap ks g)) :: F)))) ?_ ?_
        · refine perm_mid.trans (List.Perm.cons _ ?_)
          exact List.perm_append_comm_assoc _ _ _
        refine at_drop (at_dropL ?_)
        refine at_ret2 rfl rfl rfl ?_
        refine ⟨_, zs, f6, rfl, .old hfp' ?_ zs (hzp.trans (hkk.append_right _)), hS6, rfl⟩
        obtain ⟨y, hy, hyf⟩ := List.all_eq_false.1 hwh
        have hy' := List.mem_filter.1 (hys.mem_iff.1 hy)
        exact ⟨y, hy'.1, by simpa using hy'.2, by simpa using hyf⟩
  · skip
    obtain ⟨hp', hlt⟩ := seen_step hp (List.getElem?_eq_some_iff.1 hq).1 hns
    obtain ⟨hqk, rfl⟩ := wmap_at hq
    have hkm : k ∈ ks := List.mem_of_getElem? hqk
    refine wl_pu (y_extract rfl rfl) rfl ?_
    refine wl_nil ?_
    refine at_then ?_
    refine wc_seq ?_
    -- at: cond
    refine wc_condT rfl ?_
    refine wc_skip ?_
    refine at_then ?_
    refine wc_block ?_
    refine wc_seq ?_
    refine wc_region ?_
    -- at: op (entry t28)
    refine wl_rd (y_entry 0 4 q hq rfl rfl rfl) rfl ?_
    refine wl_pu (y_extract rfl rfl) rfl ?_
    refine wl_pu (y_extract rfl rfl) rfl ?_
    refine wl_pu (y_assign rfl) rfl ?_
    refine wl_pu (y_assign rfl) rfl ?_
    refine wl_nil ?_
    refine at_then ?_
    refine wc_seq ?_
    refine wc_region ?_
    refine wl_pu (y_move rfl) rfl ?_
    refine wl_pu (y_move rfl) rfl ?_
    -- at: op (call {callee:(value (func 138)), args:[t34, t35], argTypes:[74, 3]})
    refine wl_perm (L' := [(bd, row 3 ((dats n r).map int ++ spd))] ++ ((rr, itr b (wmap ks g).length (seen ++ [q])) :: (bNEW2, row 84 (ins f)) :: (bNEW, row 72 (geo lv n rw)) :: (b, mrow int (wmap ks g)) :: F)) Go.SL.p1 ?_
    refine wl_do (d_call (by kernel_rfl) rfl (cont_spec _ hS0 (by omega) k (hw.sub k hkm))) rfl ?_
    rintro _ L9 ⟨rfl, hL9⟩
    rw [hL9]
    clear hL9
    refine wl_perm (L' := (rr, itr b (wmap ks g).length (seen ++ [q])) :: (bd, row 3 ((dats n r).map int ++ spd)) :: (bNEW2, row 84 (ins f)) :: (bNEW, row 72 (geo lv n rw)) :: (b, mrow int (wmap ks g)) :: F) Go.SL.p1 ?_
    first | refine wl_pu (y_notT rfl) rfl ?_ | refine wl_pu (y_notF rfl) rfl ?_ | refine wl_pu (y_not rfl) rfl ?_ | refine wl_pu (y_notB rfl) rfl ?_
    refine wl_pu (y_move rfl) rfl ?_
    -- at: guard 4
    refine wl_gon rfl rfl ?_
    refine wl_pu (y_move rfl) rfl ?_
    refine wl_gon rfl rfl ?_
    -- at: op (call {callee:(value (func 139)), args:[t39], argTypes:[9]})
    refine wl_do (d_call (by kernel_rfl) rfl (is_spec _ (g k))) rfl ?_
    rintro _ _ ⟨rfl, rfl⟩
    refine wl_gon rfl rfl ?_
    first | refine wl_pu (y_notT rfl) rfl ?_ | refine wl_pu (y_notF rfl) rfl ?_ | refine wl_pu (y_not rfl) rfl ?_ | refine wl_pu (y_notB rfl) rfl ?_
    first | refine wl_pu (y_pickT rfl rfl) rfl ?_ | refine wl_pu (y_pickF rfl rfl) rfl ?_
    refine wl_nil ?_
    refine at_then ?_
    -- at: cond
    refine wc_condF rfl ?_
    refine wc_skip ?_
    refine at_block_normal ?_
    -- at: round
    exact at_again (seen ++ [q]) ⟨_, hp'⟩ (by simp; omega) ⟨rfl, rfl, rfl, rfl, rfl, rfl, trivial⟩ rfl
end
end Go.Proofs.Ytkpndnjhfocheaa
