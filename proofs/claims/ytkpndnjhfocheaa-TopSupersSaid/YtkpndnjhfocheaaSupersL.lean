/- super.counts: what it comes to. -/
import Derived.Test.YtkpndnjhfocheaaSupersK
import Derived.Test.YtkpndnjhfocheaaSLp
namespace Go.Proofs.Ytkpndnjhfocheaa
open Go.SL
variable {X : Inhabited SL.Outside}

/-- A disk's superblock; the disks' map. -/
abbrev sbd (lv mb rw : Int) (st : Int → Nat → Int) (me ev : Nat → Int) (i : Nat) : List Value := spc 7 (me i) lv mb rw (ev i) (ev i) (st (ev i)) 0
def ownl (n : Nat) (g : Nat → Value) : List (Int × Value) := (List.range n).map fun i : Nat => ((i : Int), g i)
theorem ownl_len (n : Nat) (g : Nat → Value) : (ownl n g).length = n := by simp [ownl]
theorem ownl_get {n : Nat} {g : Nat → Value} {q : Nat} (h : q < n) : (ownl n g)[q]? = some ((q : Int), g q) := by simp [ownl, h]
theorem ownl_of {n : Nat} {g : Nat → Value} {q : Nat} {k : Int} {v : Value} (h : (ownl n g)[q]? = some (k, v)) : q < n ∧ k = q ∧ v = g q := by
  have hq : q < n := by have := (List.getElem?_eq_some_iff.1 h).1; rwa [ownl_len] at this
  rw [ownl_get hq] at h
  simp at h
  exact ⟨hq, h.1.symm, h.2.symm⟩
theorem ownl_ok {n : Nat} (g : Nat → Value) (hn : n ≤ 1000000) : MOk i64ok (ownl n g) := by
  refine ⟨fun p hp => ?_, ?_⟩
  · simp only [ownl, List.mem_map, List.mem_range] at hp
    obtain ⟨i, hi, rfl⟩ := hp
    unfold i64ok
    omega
  · simp only [ownl, List.map_map]
    have h := List.nodup_range (n := n)
    unfold List.Nodup at h ⊢
    rw [List.pairwise_map]
    exact h.imp fun hab hc => hab (Int.ofNat_inj.1 hc)
theorem ownl_mget {n : Nat} {g : Nat → Value} {q : Nat} (h : q < n) (hn : n ≤ 1000000) : mget (q : Int) (ownl n g) = some (g q) := by
  have := posn_of (i := 0) (ownl_ok g hn).nodup (ownl_get h)
  exact (posn_some this).2.2.1
theorem key3 : KeyT Try.prog 3 int i64ok := KeyT.int Try.underlying3

/-- Sorted keys of such a map are the first numbers. -/
theorem keys_sorted {n : Nat} {g : Nat → Value} {ms : List Nat} {is ys : List Int} (hms : ms.Perm (List.range n)) (h1 : is.map int = ms.map fun q => int (keyAt (ownl n g) q)) (hp : ys.Perm is) (hs : ys.Pairwise (· ≤ ·)) : ys = (List.range n).map fun q : Nat => (q : Int) := by
  have hi : is = ms.map fun q => keyAt (ownl n g) q := by
    have := congrArg (List.map fun v : Value => match v with | .int _ c => c | _ => 0) h1
    simpa [List.map_map, Function.comp_def] using this
  have hk : ms.map (fun q => keyAt (ownl n g) q) = ms.map fun q : Nat => (q : Int) := by
    refine List.map_congr_left fun q hq => ?_
    have : q < n := by have := hms.mem_iff.1 hq; simpa using this
    exact keyAt_of (ownl_get this)
  have hp2 : ys.Perm ((List.range n).map fun q : Nat => (q : Int)) := by
    refine hp.trans ?_
    rw [hi, hk]
    exact hms.map _
  refine List.Perm.eq_of_pairwise (le := (· ≤ ·)) (fun a b _ _ h h' => Int.le_antisymm h h') hs ?_ hp2
  refine List.pairwise_map.2 (List.pairwise_lt_range.imp fun h => ?_)
  omega

theorem keys_some {n : Nat} {own : List (Int × Value)} (hl : own.length = n) (hn : n ≤ 4) {xs : List Value} (h : ∃ ms : List Nat, ms.Perm (List.range own.length) ∧ xs = ms.map fun q => int (keyAt own q)) :
    ∃ is : List Int, xs = is.map int ∧ is.length ≤ 12 ∧ ∃ ms : List Nat, ms.Perm (List.range n) ∧ xs = ms.map fun q => int (keyAt own q) := by
  obtain ⟨ms, hms, rfl⟩ := h
  refine ⟨ms.map fun q => keyAt own q, by simp [List.map_map, Function.comp_def], ?_, ms, hl ▸ hms, rfl⟩
  have := hms.length_eq
  simp at this ⊢
  omega
theorem row_at (n i : Nat) (sp : List Value) (h : i < n) : nth (((List.range n).map fun q : Nat => (q : Int)).map int ++ sp) i = some (int (i : Int)) := by
  rw [nth_eq, List.getElem?_append_left (by simpa using h)]
  simp [h]

theorem y_lookE {P : Program} {n : Nat} {E : Env} {L : Hp} {ty T : TypeId} {x y : Operand} {K : Type} [DecidableEq K] {κ : K → Value} {ok : K → Prop} {kt e : TypeId} (i : Nat) {b : Nat} {l : List (K × Value)} {k : K} {u v : Value} (Ky : KeyT P kt κ ok) (ht : P.underlying T = some (.map kt e)) (hz : zeroB P e u) (hk : ok k) (hl : MOk ok l) (hx : ev E x = some (.map (some b))) (hy : ev E y = some (κ k)) (hL : nth L i = some (b, mrow κ l)) (hv : (mget k l).getD u = v) :
    Rd P n E L (.lookup T x y false) ty v := hv ▸ y_look i Ky ht hz hk hl hx hy hL

section
variable {lv mb rw : Int} {st : Int → Nat → Int} {me ev : Nat → Int}
theorem counts_spec (F : Hp) (b n d : Nat) (gr : Int) (hn : n ≤ 4) (hmb : 0 ≤ mb ∧ mb ≤ 4) (hev : ∀ i, i < n → 1 ≤ ev i ∧ ev i ≤ gr) (hd : d < n) (hdg : ev d = gr) (hlt : ∀ i, i < d → ev i ≠ gr) :
    Ctr Try.prog 85 [.map (some b)] ((b, mrow int (ownl n fun i => .agg ⟨sbd lv mb rw st me ev i⟩)) :: F) (fun v L' => v = .agg ⟨sbd lv mb rw st me ev d⟩ ∧ L' = (b, mrow int (ownl n fun i => .agg ⟨sbd lv mb rw st me ev i⟩)) :: F) := by
  generalize hown : ownl n (fun i => Value.agg ⟨sbd lv mb rw st me ev i⟩) = own
  have hlen : own.length = n := by rw [← hown, ownl_len]
  refine spec_body Try.func85 Try.ntmps85 rfl rfl ?_
  refine wc_seq ?_
  refine wc_region ?_
  refine wl_do (d_alloc (z := .agg #[int 0, int 0, int 0, int 0, int 0, int 0, int 0, int 0, int 0, int 0, int 0, int 0]) (zeroB_of (by kernel_rfl))) rfl ?_
  rintro _ _ ⟨b2, rfl, rfl⟩
  refine wl_nil ?_
  refine at_then ?_
  refine wc_seq ?_
  refine wc_region ?_
  refine wl_pu (y_assign rfl) rfl ?_
  refine wl_nil ?_
  refine at_then ?_
  refine wc_seq ?_
  refine wc_region ?_
  refine wl_do d_makeMap rfl ?_
  rintro _ _ ⟨vb, rfl, rfl⟩
  refine wl_do (d_alloc (z := .map none) (zeroB_of (by kernel_rfl))) rfl ?_
  rintro _ _ ⟨m4, rfl, rfl⟩
  first | (refine wl_do0 (d_store 0 rfl rfl rfl rfl rfl (by kernel_rfl)) (fun _ _ hL => ?_); subst hL) | (refine wl_do0 (d_store 1 rfl rfl rfl rfl rfl (by kernel_rfl)) (fun _ _ hL => ?_); subst hL) | (refine wl_do0 (d_store 2 rfl rfl rfl rfl rfl (by kernel_rfl)) (fun _ _ hL => ?_); subst hL) | (refine wl_do0 (d_store 3 rfl rfl rfl rfl rfl (by kernel_rfl)) (fun _ _ hL => ?_); subst hL) | (refine wl_do0 (d_store 4 rfl rfl rfl rfl rfl (by kernel_rfl)) (fun _ _ hL => ?_); subst hL) | (refine wl_do0 (d_store 5 rfl rfl rfl rfl rfl (by kernel_rfl)) (fun _ _ hL => ?_); subst hL)
  refine wl_nil ?_
  refine at_then ?_
  refine wc_seq ?_
  refine wc_seq ?_
  refine wc_region ?_
  refine wl_pu (y_move rfl) rfl ?_
  refine wl_do (d_range 3 Try.underlying177 rfl rfl) rfl ?_
  rintro _ _ ⟨r, rfl, rfl⟩
  refine wl_heap ((r, itr b own.length []) :: (m4, row 224 [.map (some vb)]) :: (vb, mrow κ80 []) :: (b2, row 80 sp0) :: (b, mrow int own) :: F) rfl ?_
  refine wl_nil ?_
  refine at_then ?_
  refine wc_block ?_
  -- at: loop
  refine wc_loop (σ := List Nat × Int × List (List Int × Value)) (fun s => (∃ left, (s.1 ++ left).Perm (List.range n)) ∧ (0 ≤ s.2.1 ∧ s.2.1 ≤ gr) ∧ (∀ q ∈ s.1, ev q ≤ s.2.1) ∧ VOk s.2.2) (fun s => n - s.1.length)
    (fun s => [(0, .map (some b)), (2, ptr b2 0), (3, int s.2.1), (4, ptr m4 0), (14, ptr r 0)])
    (fun s => (r, itr b own.length s.1) :: (m4, row 224 [.map (some vb)]) :: (vb, mrow κ80 s.2.2) :: (b2, row 80 sp0) :: (b, mrow int own) :: F) ([], 0, []) ⟨⟨List.range _, List.Perm.refl _⟩, ⟨Int.le_refl 0, by have := hev d hd; show (0 : Int) ≤ gr; omega⟩, by simp, ⟨.nil _, by simp⟩⟩ ⟨rfl, rfl, rfl, rfl, rfl, trivial⟩ rfl ?_
  rintro ⟨seen, g, vs⟩ ⟨⟨left, hp⟩, hg, hge, hV⟩
  simp only [] at hp hg hge hV
  show WC _ _ _ _ [(0, .map (some b)), (2, ptr b2 0), (3, int g), (4, ptr m4 0), (14, ptr r 0)] ((r, itr b own.length seen) :: (m4, row 224 [.map (some vb)]) :: (vb, mrow κ80 vs) :: (b2, row 80 sp0) :: (b, mrow int own) :: F)
  refine wc_seq ?_
  refine wc_region ?_
  refine wl_do (d_next 0 4 rfl rfl rfl) rfl ?_
  rintro _ _ (⟨rfl, rfl, hall⟩ | ⟨q, k, v, hq, hns, rfl, rfl⟩)
  · skip
    rw [hlen] at hall
    have hgg : g = gr := by
      have := hge d (hall d hd)
      omega
    subst hgg
    refine wl_pu (y_extract rfl rfl) rfl ?_
    refine wl_nil ?_
    refine at_then ?_
    refine wc_seq ?_
    -- at: cond
    refine wc_condF rfl ?_
    refine wc_exit ?_
    refine at_then_exit ?_
    refine at_then_exit ?_
    refine at_block_same ?_
    refine at_then ?_
    refine wc_seq ?_
    refine wc_region ?_
    refine wl_pu (y_makeFunc1 rfl) rfl ?_
    refine wl_pu (y_assign rfl) rfl ?_
    refine wl_nil ?_
    refine at_then ?_
    refine wc_seq ?_
    refine wc_region ?_
    -- at: op (alloc 80)
    refine wl_drop ?_
    refine wl_do (d_alloc (z := .agg #[int 0, int 0, int 0, int 0, int 0, int 0, int 0, int 0, int 0, int 0, int 0, int 0]) (zeroB_of (by kernel_rfl))) rfl ?_
    rintro _ _ ⟨b8, rfl, rfl⟩
    refine wl_nil ?_
    refine at_then ?_
    refine wc_seq ?_
    refine wc_seq ?_
    refine wc_region ?_
    refine wl_pu (y_move rfl) rfl ?_
    -- at: op (call {callee:(value (func 131)), args:[t31], argTypes:[177]})
    refine wl_do (d_call (by kernel_rfl) rfl (keys_spec _ b)) rfl ?_
    rintro _ _ ⟨m, rfl, rfl⟩
    refine wl_perm (L' := (m, row 177 [.map (some b)]) :: (b, mrow int own) :: (b8, row 80 sp0) :: (m4, row 224 [.map (some vb)]) :: (vb, mrow κ80 vs) :: (b2, row 80 sp0) :: F) (List.Perm.cons _ p4) ?_
    -- at: op (call {callee:(value (func 130)), args:[t32], argTypes:[230]})
    refine wl_do (d_call (by kernel_rfl) rfl (sortedI_spec ((b8, row 80 sp0) :: (m4, row 224 [.map (some vb)]) :: (vb, mrow κ80 vs) :: (b2, row 80 sp0) :: F) [(m, row 177 [.map (some b)]), (b, mrow int own)] (by kernel_rfl) ((keys_iter m b own).mono (S' := fun xs => ∃ is : List Int, xs = is.map int ∧ is.length ≤ 12 ∧ ∃ ms : List Nat, ms.Perm (List.range n) ∧ xs = ms.map fun q => int (keyAt own q)) (fun xs h => keys_some hlen hn h)) (by omega))) rfl ?_
    rintro v _ ⟨is, ys, fr, ⟨ms, hms, hxs⟩, hpy, hsy, hS, rfl⟩
    have hys : ys = (List.range n).map fun q : Nat => (q : Int) := keys_sorted hms (by rw [hown]; exact hxs) hpy hsy
    subst hys
    simp only [List.length_map, List.length_range] at hS
    cases hS with
    | nil => omega
    | own bs _ cap _ sp hx hcap hs =>
    refine wl_pu (y_lenL Try.underlying74 rfl) rfl ?_
    refine wl_pu (y_move rfl) rfl ?_
    refine wl_nil ?_
    refine at_then ?_
    refine wc_block ?_
    -- at: loop
    refine wc_perm (L' := (m4, row 224 [.map (some vb)]) :: (vb, mrow κ80 vs) :: (b8, row 80 sp0) :: (b, mrow int own) :: (m, row 177 [.map (some b)]) :: (bs, row 3 (((List.range n).map fun q : Nat => (q : Int)).map int ++ sp)) :: (b2, row 80 sp0) :: F) ?_ ?_
    · exact Go.SL.p4.trans (List.Perm.cons _ (Go.SL.p4.trans (List.Perm.cons _ (Go.SL.p3.trans (List.Perm.cons _ (Go.SL.p2.trans (List.Perm.cons _ Go.SL.p1)))))))
    refine wc_loop (σ := Nat) (fun i => i ≤ n) (fun i => n - i) (fun i => [(0, .map (some b)), (2, ptr b2 0), (3, int g), (7, .func (.func 127) #[] #[ptr m4 0]), (8, ptr b8 0), (33, sl bs 0 n cap), (34, int n), (35, int (i : Int))])
      (fun i => (m4, row 224 [.map (some vb)]) :: (vb, mrow κ80 vs) :: (b8, row 80 (if d < i then sbd lv mb rw st me ev d else sp0)) :: (b, mrow int own) :: (m, row 177 [.map (some b)]) :: (bs, row 3 (((List.range n).map fun q : Nat => (q : Int)).map int ++ sp)) :: (b2, row 80 sp0) :: F) 0 (by omega) ⟨rfl, rfl, rfl, rfl, rfl, rfl, rfl, rfl, trivial⟩ (by rw [if_neg (by omega)]) ?_
    intro i hi
    show WC _ _ _ _ [(0, .map (some b)), (2, ptr b2 0), (3, int g), (7, .func (.func 127) #[] #[ptr m4 0]), (8, ptr b8 0), (33, sl bs 0 n cap), (34, int n), (35, int (i : Int))] _
    refine wc_seq ?_
    refine wc_region ?_
    refine wl_pu (y_lss rfl rfl) rfl ?_
    refine wl_nil ?_
    refine at_then ?_
    refine wc_seq ?_
    -- at: cond
    refine wc_condD rfl (fun hin => ?_) (fun hin => ?_)
    · skip
      have hin' : i < n := by omega
      refine wc_skip ?_
      refine at_then ?_
      refine wc_seq ?_
      refine wc_block ?_
      refine wc_seq ?_
      refine wc_region ?_
      first | refine wl_pu (y_ix1 Try.underlying74 (by kernel_rfl) rfl rfl (by omega)) rfl ?_ | refine wl_pu (y_ix 1 Try.underlying74 (by kernel_rfl) rfl rfl (by omega)) rfl ?_
      refine wl_rd (y_load 5 rfl rfl (v := int (i : Int)) (by rw [Int.toNat_natCast]; exact row_at n i sp hin') (by kernel_rfl)) rfl ?_
      refine wl_pu (y_assign rfl) rfl ?_
      refine wl_nil ?_
      refine at_then ?_
      refine wc_seq ?_
      refine wc_region ?_
      refine wl_pu (y_move rfl) rfl ?_
      refine wl_pu (y_move rfl) rfl ?_
      have hget := ownl_mget (g := fun i => Value.agg ⟨sbd lv mb rw st me ev i⟩) hin' (by omega)
      rw [hown] at hget
      refine wl_rd (y_lookE (u := .agg #[int 0, int 0, int 0, int 0, int 0, int 0, int 0, int 0, int 0, int 0, int 0, int 0]) (v := .agg ⟨sbd lv mb rw st me ev i⟩) (k := (i : Int)) (l := own) 3 key3 Try.underlying177 (zeroB_of (by kernel_rfl)) ⟨by omega, by omega⟩ (hown ▸ ownl_ok _ (by omega)) rfl rfl rfl (by rw [hget]; rfl)) rfl ?_
      refine wl_do (d_alloc (z := .agg #[int 0, int 0, int 0, int 0, int 0, int 0, int 0, int 0, int 0, int 0, int 0, int 0]) (zeroB_of (by kernel_rfl))) rfl ?_
      rintro _ _ ⟨b11, rfl, rfl⟩
      refine wl_do0 (d_storeAgg (k := 12) 0 rfl rfl rfl (by decide) rfl rfl (by kernel_rfl)) (fun _ _ hL => ?_)
      subst hL
      refine wl_perm (L' := (m4, row 224 [.map (some vb)]) :: (vb, mrow κ80 vs) :: (b11, row 80 (sbd lv mb rw st me ev i)) :: (b8, row 80 (if d < i then sbd lv mb rw st me ev d else sp0)) :: (b, mrow int own) :: (m, row 177 [.map (some b)]) :: (bs, row 3 (((List.range n).map fun q : Nat => (q : Int)).map int ++ sp)) :: (b2, row 80 sp0) :: F) (Go.SL.p1.trans (List.Perm.cons _ Go.SL.p1)) ?_
      refine wl_nil ?_
      refine at_then ?_
      refine wc_seq ?_
      -- at: draw
      by_cases heg : ev i = g
      · have hdi : ¬ i < d := fun h => hlt i h heg
        by_cases hid : d < i
        · rw [if_pos hid]
          apply wc_draw 18 (pl := [_, _, _, _, _, _, _, _, _, _, _, _, _, _, _, _, _, _]) (by kernel_rfl)
          rotate_left
          first | refine hw_pu (y_fieldAddr0 5 Try.underlying80 rfl rfl (by kernel_rfl) rfl) ?_ | refine hw_pu (y_fieldAddr 5 Try.underlying80 rfl rfl (by kernel_rfl) rfl) ?_
          first | refine hw_rd (y_load 0 rfl rfl rfl (by kernel_rfl)) ?_ | refine hw_rd (y_load 1 rfl rfl rfl (by kernel_rfl)) ?_ | refine hw_rd (y_load 2 rfl rfl rfl (by kernel_rfl)) ?_ | refine hw_rd (y_load 3 rfl rfl rfl (by kernel_rfl)) ?_ | refine hw_rd (y_load 4 rfl rfl rfl (by kernel_rfl)) ?_ | refine hw_rd (y_load 5 rfl rfl rfl (by kernel_rfl)) ?_
          refine hw_pu (y_move rfl) ?_
          refine hw_pu (y_eql rfl rfl) ?_
          refine hw_pu (y_move rfl) ?_
          -- at: hw guard 4
          refine hw_isT 46 rfl (heg) ?_
          refine hw_gonL rfl rfl ?_
          first | refine hw_pu (y_fieldAddr0 5 Try.underlying80 rfl rfl (by kernel_rfl) rfl) ?_ | refine hw_pu (y_fieldAddr 5 Try.underlying80 rfl rfl (by kernel_rfl) rfl) ?_
          refine hw_gonL rfl rfl ?_
          first | refine hw_rd (y_load 0 rfl rfl rfl (by kernel_rfl)) ?_ | refine hw_rd (y_load 1 rfl rfl rfl (by kernel_rfl)) ?_ | refine hw_rd (y_load 2 rfl rfl rfl (by kernel_rfl)) ?_ | refine hw_rd (y_load 3 rfl rfl rfl (by kernel_rfl)) ?_ | refine hw_rd (y_load 4 rfl rfl rfl (by kernel_rfl)) ?_ | refine hw_rd (y_load 5 rfl rfl rfl (by kernel_rfl)) ?_
          refine hw_gonL rfl rfl ?_
          refine hw_pu (y_eql rfl rfl) ?_
          refine hw_gonL rfl rfl ?_
          refine hw_pu (y_move rfl) ?_
          -- at: hw guard 8
          refine hw_isF 50 rfl ((by have := hev d hd; omega)) ?_
          refine hw_gonL rfl rfl ?_
          refine hw_pu (y_move rfl) ?_
          refine hw_gonL rfl rfl ?_
          refine hw_rd (y_loadAgg (k := 12) (vs := sbd lv mb rw st me ev i) 2 rfl rfl rfl rfl (by kernel_rfl) (by kernel_rfl)) ?_
          refine hw_gonL rfl rfl ?_
          -- at: hw op (call {callee:(value t51), args:[t52], argTypes:[80]})
          refine hw_callv (by kernel_rfl) rfl rfl ((fun F' => weight_spec _ m4 vb vs hV 7 (me i) lv mb rw (ev i) (ev i) (st (ev i)) hmb)) ?_
          refine hw_gonL rfl rfl ?_
          refine hw_pu (y_move rfl) ?_
          refine hw_gonL rfl rfl ?_
          refine hw_rd (y_loadAgg (k := 12) (vs := sbd lv mb rw st me ev d) 3 rfl rfl rfl rfl (by kernel_rfl) (by kernel_rfl)) ?_
          refine hw_gonL rfl rfl ?_
          -- at: hw op (call {callee:(value t54), args:[t55], argTypes:[80]})
          refine hw_callv (by kernel_rfl) rfl rfl ((fun F' => weight_spec _ m4 vb vs hV 7 (me d) lv mb rw (ev d) (ev d) (st (ev d)) hmb)) ?_
          refine hw_gonL rfl rfl ?_
          refine hw_pu (y_gtr rfl rfl) ?_
          refine hw_gonL rfl rfl ?_
          first | refine hw_pu (y_pickT rfl rfl) ?_ | refine hw_pu (y_pickF rfl rfl) ?_
          first | refine hw_pu (y_pickT rfl rfl) ?_ | refine hw_pu (y_pickF rfl rfl) ?_
          refine hw_end [] rfl ?_
          case hB => kernel_rfl
          refine wl_nil ?_
          refine at_nq ?_
          refine at_then ?_
          -- at: cond
          refine wc_condD rfl (fun hc => absurd hc ((by rw [heg, hdg]; exact Int.lt_irrefl _))) (fun _ => ?_)
          refine wc_skip ?_
          refine at_block_normal ?_
          refine at_then ?_
          refine wc_region ?_
          refine wl_pu (y_add rfl rfl (by omega)) rfl ?_
          refine wl_pu (y_move rfl) rfl ?_
          refine wl_nil ?_
          -- at: round
          refine at_perm Go.SL.p2 (at_drop ?_)
          exact at_again (i + 1) (by omega) (by omega) ⟨rfl, rfl, rfl, rfl, rfl, rfl, rfl, rfl, trivial⟩ (by rw [if_pos (by omega)])
        · have hie : i = d := by omega
          rw [if_neg hid]
          subst hie
          apply wc_draw 18 (pl := [_, _, _, _, _, _, _, _, _, _, _, _, _, _, _, _, _, _]) (by kernel_rfl)
          rotate_left
          first | refine hw_pu (y_fieldAddr0 5 Try.underlying80 rfl rfl (by kernel_rfl) rfl) ?_ | refine hw_pu (y_fieldAddr 5 Try.underlying80 rfl rfl (by kernel_rfl) rfl) ?_
          first | refine hw_rd (y_load 0 rfl rfl rfl (by kernel_rfl)) ?_ | refine hw_rd (y_load 1 rfl rfl rfl (by kernel_rfl)) ?_ | refine hw_rd (y_load 2 rfl rfl rfl (by kernel_rfl)) ?_ | refine hw_rd (y_load 3 rfl rfl rfl (by kernel_rfl)) ?_ | refine hw_rd (y_load 4 rfl rfl rfl (by kernel_rfl)) ?_ | refine hw_rd (y_load 5 rfl rfl rfl (by kernel_rfl)) ?_
          refine hw_pu (y_move rfl) ?_
          refine hw_pu (y_eql rfl rfl) ?_
          refine hw_pu (y_move rfl) ?_
          -- at: hw guard 4
          refine hw_isT 46 rfl (heg) ?_
          refine hw_gonL rfl rfl ?_
          first | refine hw_pu (y_fieldAddr0 5 Try.underlying80 rfl rfl (by kernel_rfl) rfl) ?_ | refine hw_pu (y_fieldAddr 5 Try.underlying80 rfl rfl (by kernel_rfl) rfl) ?_
          refine hw_gonL rfl rfl ?_
          first | refine hw_rd (y_load 0 rfl rfl rfl (by kernel_rfl)) ?_ | refine hw_rd (y_load 1 rfl rfl rfl (by kernel_rfl)) ?_ | refine hw_rd (y_load 2 rfl rfl rfl (by kernel_rfl)) ?_ | refine hw_rd (y_load 3 rfl rfl rfl (by kernel_rfl)) ?_ | refine hw_rd (y_load 4 rfl rfl rfl (by kernel_rfl)) ?_ | refine hw_rd (y_load 5 rfl rfl rfl (by kernel_rfl)) ?_
          refine hw_gonL rfl rfl ?_
          refine hw_pu (y_eql rfl rfl) ?_
          refine hw_gonL rfl rfl ?_
          refine hw_pu (y_move rfl) ?_
          -- at: hw guard 8
          refine hw_isT 50 rfl (rfl) ?_
          refine hw_goff rfl rfl rfl ?_
          refine hw_goff rfl rfl rfl ?_
          refine hw_goff rfl rfl rfl ?_
          refine hw_goff rfl rfl rfl ?_
          refine hw_goff rfl rfl rfl ?_
          refine hw_goff rfl rfl rfl ?_
          refine hw_goff rfl rfl rfl ?_
          refine hw_gonL rfl rfl ?_
          first | refine hw_pu (y_pickT rfl rfl) ?_ | refine hw_pu (y_pickF rfl rfl) ?_
          first | refine hw_pu (y_pickT rfl rfl) ?_ | refine hw_pu (y_pickF rfl rfl) ?_
          refine hw_end [] rfl ?_
          case hB => kernel_rfl
          refine wl_nil ?_
          refine at_nq ?_
          refine at_then ?_
          -- at: cond
          refine wc_condT rfl ?_
          refine wc_region ?_
          refine wl_rd (y_loadAgg (k := 12) (vs := sbd lv mb rw st me ev i) 2 rfl rfl rfl rfl (by kernel_rfl) (by kernel_rfl)) rfl ?_
          refine wl_do0 (d_storeAgg (k := 12) 3 rfl rfl rfl (by decide) rfl rfl (by kernel_rfl)) (fun _ _ hL => ?_)
          subst hL
          refine wl_nil ?_
          refine at_block_normal ?_
          refine at_then ?_
          refine wc_region ?_
          refine wl_pu (y_add rfl rfl (by omega)) rfl ?_
          refine wl_pu (y_move rfl) rfl ?_
          refine wl_nil ?_
          -- at: round
          refine at_heap ((m4, row 224 [.map (some vb)]) :: (vb, mrow κ80 vs) :: (b11, row 80 (sbd lv mb rw st me ev i)) :: (b8, row 80 (sbd lv mb rw st me ev i)) :: (b, mrow int own) :: (m, row 177 [.map (some b)]) :: (bs, row 3 (((List.range n).map fun q : Nat => (q : Int)).map int ++ sp)) :: (b2, row 80 sp0) :: F) rfl ?_
          refine at_perm Go.SL.p2 (at_drop ?_)
          exact at_again (i + 1) (by omega) (by omega) ⟨rfl, rfl, rfl, rfl, rfl, rfl, rfl, rfl, trivial⟩ (by rw [if_pos (by omega)])
      · have hne : i ≠ d := fun h => heg (h ▸ hdg)
        apply wc_draw 18 (pl := [_, _, _, _, _, _, _, _, _, _, _, _, _, _, _, _, _, _]) (by kernel_rfl)
        rotate_left
        first | refine hw_pu (y_fieldAddr0 5 Try.underlying80 rfl rfl (by kernel_rfl) rfl) ?_ | refine hw_pu (y_fieldAddr 5 Try.underlying80 rfl rfl (by kernel_rfl) rfl) ?_
        first | refine hw_rd (y_load 0 rfl rfl rfl (by kernel_rfl)) ?_ | refine hw_rd (y_load 1 rfl rfl rfl (by kernel_rfl)) ?_ | refine hw_rd (y_load 2 rfl rfl rfl (by kernel_rfl)) ?_ | refine hw_rd (y_load 3 rfl rfl rfl (by kernel_rfl)) ?_ | refine hw_rd (y_load 4 rfl rfl rfl (by kernel_rfl)) ?_ | refine hw_rd (y_load 5 rfl rfl rfl (by kernel_rfl)) ?_
        refine hw_pu (y_move rfl) ?_
        refine hw_pu (y_eql rfl rfl) ?_
        refine hw_pu (y_move rfl) ?_
        -- at: hw guard 4
        refine hw_isF 46 rfl (heg) ?_
        refine hw_goff rfl rfl rfl ?_
        refine hw_goff rfl rfl rfl ?_
        refine hw_goff rfl rfl rfl ?_
        refine hw_goff rfl rfl rfl ?_
        refine hw_goffU rfl rfl ?_
        refine hw_goffU rfl rfl ?_
        refine hw_goffU rfl rfl ?_
        refine hw_goffU rfl rfl ?_
        refine hw_goffU rfl rfl ?_
        refine hw_goffU rfl rfl ?_
        refine hw_goffU rfl rfl ?_
        refine hw_goff rfl rfl rfl ?_
        first | refine hw_pu (y_pickT rfl rfl) ?_ | refine hw_pu (y_pickF rfl rfl) ?_
        refine hw_end [] rfl ?_
        case hB => kernel_rfl
        refine wl_nil ?_
        refine at_nq ?_
        refine at_then ?_
        -- at: cond
        refine wc_condF rfl ?_
        refine wc_skip ?_
        refine at_block_normal ?_
        refine at_then ?_
        refine wc_region ?_
        refine wl_pu (y_add rfl rfl (by omega)) rfl ?_
        refine wl_pu (y_move rfl) rfl ?_
        refine wl_nil ?_
        -- at: round
        refine at_perm Go.SL.p2 (at_drop ?_)
        refine at_again (i + 1) (by omega) (by omega) ⟨rfl, rfl, rfl, rfl, rfl, rfl, rfl, rfl, trivial⟩ ?_
        by_cases h : d < i
        · rw [if_pos h, if_pos (by omega)]
        · rw [if_neg h, if_neg (by omega)]
    · skip
      have hie : i = n := by omega
      subst hie
      rw [if_pos hd]
      refine wc_exit ?_
      refine at_then_exit ?_
      refine at_then_exit ?_
      refine at_block_same ?_
      refine at_then ?_
      refine wc_seq ?_
      refine wc_region ?_
      refine wl_rd (y_loadAgg (k := 12) (vs := sbd lv mb rw st me ev d) 2 rfl rfl rfl rfl (by kernel_rfl) (by kernel_rfl)) rfl ?_
      refine wl_do0 (d_storeAgg (k := 12) 6 rfl rfl rfl (by decide) rfl rfl (by kernel_rfl)) (fun _ _ hL => ?_)
      subst hL
      refine wl_nil ?_
      refine at_then ?_
      refine wc_ret ?_
      -- at: ret
      refine at_heap ((m4, row 224 [.map (some vb)]) :: (vb, mrow κ80 vs) :: (b8, row 80 (sbd lv mb rw st me ev d)) :: (b, mrow int own) :: (m, row 177 [.map (some b)]) :: (bs, row 3 (((List.range i).map fun q : Nat => (q : Int)).map int ++ sp)) :: (b2, row 80 (sbd lv mb rw st me ev d)) :: F) rfl ?_
      refine at_drop (at_drop (at_drop (at_perm Go.SL.p3 ?_)))
      refine at_retC0 (k := 12) (L2 := (b, mrow int own) :: F) (vs := sbd lv mb rw st me ev d) 0 rfl rfl rfl rfl rfl (by kernel_rfl) (by kernel_rfl) (fun w hO => ?_) ?_
      · exact ((hO.drop.perm Go.SL.p2).drop.perm Go.SL.p1).drop
      · exact ⟨rfl, rfl⟩
  · skip
    have hq' := hq
    rw [← hown] at hq'
    obtain ⟨hqn, hkq, hvq⟩ := ownl_of hq'
    subst hkq
    subst hvq
    obtain ⟨hp', hlt'⟩ := seen_step hp hqn hns
    have heq := hev q hqn
    refine wl_pu (y_extract rfl rfl) rfl ?_
    refine wl_nil ?_
    refine at_then ?_
    refine wc_seq ?_
    -- at: cond
    refine wc_condT rfl ?_
    refine wc_skip ?_
    refine at_then ?_
    refine wc_block ?_
    refine wc_seq ?_
    refine wc_region ?_
    -- at: op (entry t14)
    refine wl_rd (y_entry 0 4 q hq rfl rfl rfl) rfl ?_
    refine wl_pu (y_extract rfl rfl) rfl ?_
    refine wl_do (d_alloc (z := .agg #[int 0, int 0, int 0, int 0, int 0, int 0, int 0, int 0, int 0, int 0, int 0, int 0]) (zeroB_of (by kernel_rfl))) rfl ?_
    rintro _ _ ⟨b6, rfl, rfl⟩
    refine wl_do0 (d_storeAgg (k := 12) 0 rfl rfl rfl (by decide) rfl rfl (by kernel_rfl)) (fun _ _ hL => ?_)
    subst hL
    refine wl_heap ((b6, row 80 (sbd lv mb rw st me ev q)) :: (r, itr b own.length (seen ++ [q])) :: (m4, row 224 [.map (some vb)]) :: (vb, mrow κ80 vs) :: (b2, row 80 sp0) :: (b, mrow int own) :: F) rfl ?_
    refine wl_nil ?_
    refine at_then ?_
    refine wc_seq ?_
    refine wc_region ?_
    refine wl_pu (y_move rfl) rfl ?_
    first | refine wl_pu (y_fieldAddr0 5 Try.underlying80 rfl rfl (by kernel_rfl) rfl) rfl ?_ | refine wl_pu (y_fieldAddr 5 Try.underlying80 rfl rfl (by kernel_rfl) rfl) rfl ?_
    first | refine wl_rd (y_load 0 rfl rfl rfl (by kernel_rfl)) rfl ?_ | refine wl_rd (y_load 1 rfl rfl rfl (by kernel_rfl)) rfl ?_ | refine wl_rd (y_load 2 rfl rfl rfl (by kernel_rfl)) rfl ?_ | refine wl_rd (y_load 3 rfl rfl rfl (by kernel_rfl)) rfl ?_ | refine wl_rd (y_load 4 rfl rfl rfl (by kernel_rfl)) rfl ?_ | refine wl_rd (y_load 5 rfl rfl rfl (by kernel_rfl)) rfl ?_
    refine wl_pu (y_max rfl rfl) rfl ?_
    refine wl_pu (y_assign rfl) rfl ?_
    refine wl_nil ?_
    refine at_then ?_
    -- at: draw
    have hvm : ∀ c : Int, VOk (mput (spk 7 0 lv mb rw (ev q) (ev q) (st (ev q)) 0) (int c) vs) := fun c => hV.put (k := spk 7 0 lv mb rw (ev q) (ev q) (st (ev q)) 0) rfl c
    have hgt := hV.get (spk 7 0 lv mb rw (ev q) (ev q) (st (ev q)) 0)
    generalize hvq : votesOf vs (spk 7 0 lv mb rw (ev q) (ev q) (st (ev q)) 0) = vq at hgt
    have hgt2 : (mget (spk 7 0 lv mb rw (ev q) (ev q) (st (ev q)) 0) (mput (spk 7 0 lv mb rw (ev q) (ev q) (st (ev q)) 0) (int vq) vs)).getD (int 0) = int vq := by rw [mget_put, if_pos rfl]; rfl
    have hmax : ∀ q' ∈ seen ++ [q], ev q' ≤ max g (ev q) := fun q' hq' => by
      rcases List.mem_append.1 hq' with h | h
      · have := hge q' h; omega
      · simp at h; subst h; omega
    refine wc_any (by kernel_rfl) ?_
    refine wy_2 (i := 0) (j := 1) (by kernel_rfl) ?_ ?_
    · skip
      refine wo_rd rfl (y_load 2 rfl rfl rfl (by kernel_rfl)) rfl ?_
      refine wy_1 (i := 1) (by kernel_rfl) ?_
      refine wo_rd rfl (y_loadAgg (k := 12) (vs := sbd lv mb rw st me ev q) 0 rfl rfl rfl rfl (by kernel_rfl) (by kernel_rfl)) rfl ?_
      refine wy_1 (i := 2) (by kernel_rfl) ?_
      refine wo_do rfl (d_call (by kernel_rfl) rfl (says_spec _ 7 (me q) lv mb rw (ev q) (ev q) (st (ev q)))) rfl ?_
      rintro _ _ ⟨rfl, rfl⟩
      refine wy_2 (i := 3) (j := 5) (by kernel_rfl) ?_ ?_
      · skip
        first | refine wo_rd rfl (y_lookE (v := int vq) (l := vs) (k := spk 7 0 lv mb rw (ev q) (ev q) (st (ev q)) 0) 3 key80 Try.underlying224 (zeroB_of (by kernel_rfl)) rfl hV.ok rfl rfl rfl hgt) rfl ?_ | refine wo_rd rfl (y_lookE (v := int vq) (l := mput (spk 7 0 lv mb rw (ev q) (ev q) (st (ev q)) 0) (int vq) vs) (k := spk 7 0 lv mb rw (ev q) (ev q) (st (ev q)) 0) 3 key80 Try.underlying224 (zeroB_of (by kernel_rfl)) rfl (hvm vq).ok rfl rfl rfl hgt2) rfl ?_
        refine wy_2 (i := 4) (j := 5) (by kernel_rfl) ?_ ?_
        · skip
          refine wo_pu rfl (y_addW rfl rfl) rfl ?_
          refine wy_1 (i := 5) (by kernel_rfl) ?_
          refine wo_do rfl (d_mapEntry (u := int 0) (k := spk 7 0 lv mb rw (ev q) (ev q) (st (ev q)) 0) 3 key80 Try.underlying224 (zeroB_of (by kernel_rfl)) rfl hV.ok rfl rfl rfl) rfl ?_
          rintro _ _ ⟨j, rfl, rfl, hu, hset⟩
          rw [hgt] at hu hset ⊢
          refine wy_heap ((b6, row 80 (sbd lv mb rw st me ev q)) :: (r, itr b own.length (seen ++ [q])) :: (m4, row 224 [.map (some vb)]) :: (vb, mrow κ80 (mput (spk 7 0 lv mb rw (ev q) (ev q) (st (ev q)) 0) (int vq) vs)) :: (b2, row 80 sp0) :: (b, mrow int own) :: F) rfl ?_
          refine wy_1 (i := 6) (by kernel_rfl) ?_
          refine wo_pu rfl (y_extract rfl rfl) rfl ?_
          refine wy_1 (i := 7) (by kernel_rfl) ?_
          refine wo_do0 rfl (d_entryStore 3 j hu rfl rfl rfl rfl) ?_
          rintro _ _ hL
          subst hL
          rw [hset]
          refine wy_nil (by kernel_rfl) ?_
          refine at_block_normal ?_
          refine at_drop ?_
          exact at_again (seen ++ [q], max g (ev q), _) ⟨⟨_, hp'⟩, ⟨by show 0 ≤ max g (ev q); omega, by show max g (ev q) ≤ gr; omega⟩, hmax, hvm _⟩ (by show n - (seen ++ [q]).length < n - seen.length; simp; omega) ⟨rfl, rfl, rfl, rfl, rfl, trivial⟩ rfl
        · skip
          refine wo_do rfl (d_mapEntry (u := int 0) (k := spk 7 0 lv mb rw (ev q) (ev q) (st (ev q)) 0) 3 key80 Try.underlying224 (zeroB_of (by kernel_rfl)) rfl hV.ok rfl rfl rfl) rfl ?_
          rintro _ _ ⟨j, rfl, rfl, hu, hset⟩
          rw [hgt] at hu hset ⊢
          refine wy_heap ((b6, row 80 (sbd lv mb rw st me ev q)) :: (r, itr b own.length (seen ++ [q])) :: (m4, row 224 [.map (some vb)]) :: (vb, mrow κ80 (mput (spk 7 0 lv mb rw (ev q) (ev q) (st (ev q)) 0) (int vq) vs)) :: (b2, row 80 sp0) :: (b, mrow int own) :: F) rfl ?_
          refine wy_2 (i := 4) (j := 6) (by kernel_rfl) ?_ ?_
          · skip
            refine wo_pu rfl (y_addW rfl rfl) rfl ?_
            refine wy_1 (i := 6) (by kernel_rfl) ?_
            refine wo_pu rfl (y_extract rfl rfl) rfl ?_
            refine wy_1 (i := 7) (by kernel_rfl) ?_
            refine wo_do0 rfl (d_entryStore 3 j hu rfl rfl rfl rfl) ?_
            rintro _ _ hL
            subst hL
            rw [hset]
            refine wy_nil (by kernel_rfl) ?_
            refine at_block_normal ?_
            refine at_drop ?_
            exact at_again (seen ++ [q], max g (ev q), _) ⟨⟨_, hp'⟩, ⟨by show 0 ≤ max g (ev q); omega, by show max g (ev q) ≤ gr; omega⟩, hmax, hvm _⟩ (by show n - (seen ++ [q]).length < n - seen.length; simp; omega) ⟨rfl, rfl, rfl, rfl, rfl, trivial⟩ rfl
          · skip
            refine wo_pu rfl (y_extract rfl rfl) rfl ?_
            refine wy_1 (i := 4) (by kernel_rfl) ?_
            refine wo_pu rfl (y_addW rfl rfl) rfl ?_
            refine wy_1 (i := 7) (by kernel_rfl) ?_
            refine wo_do0 rfl (d_entryStore 3 j hu rfl rfl rfl rfl) ?_
            rintro _ _ hL
            subst hL
            rw [hset]
            refine wy_nil (by kernel_rfl) ?_
            refine at_block_normal ?_
            refine at_drop ?_
            exact at_again (seen ++ [q], max g (ev q), _) ⟨⟨_, hp'⟩, ⟨by show 0 ≤ max g (ev q); omega, by show max g (ev q) ≤ gr; omega⟩, hmax, hvm _⟩ (by show n - (seen ++ [q]).length < n - seen.length; simp; omega) ⟨rfl, rfl, rfl, rfl, rfl, trivial⟩ rfl
      · skip
        refine wo_do rfl (d_mapEntry (u := int 0) (k := spk 7 0 lv mb rw (ev q) (ev q) (st (ev q)) 0) 3 key80 Try.underlying224 (zeroB_of (by kernel_rfl)) rfl hV.ok rfl rfl rfl) rfl ?_
        rintro _ _ ⟨j, rfl, rfl, hu, hset⟩
        rw [hgt] at hu hset ⊢
        refine wy_heap ((b6, row 80 (sbd lv mb rw st me ev q)) :: (r, itr b own.length (seen ++ [q])) :: (m4, row 224 [.map (some vb)]) :: (vb, mrow κ80 (mput (spk 7 0 lv mb rw (ev q) (ev q) (st (ev q)) 0) (int vq) vs)) :: (b2, row 80 sp0) :: (b, mrow int own) :: F) rfl ?_
        refine wy_2 (i := 3) (j := 6) (by kernel_rfl) ?_ ?_
        · skip
          first | refine wo_rd rfl (y_lookE (v := int vq) (l := vs) (k := spk 7 0 lv mb rw (ev q) (ev q) (st (ev q)) 0) 3 key80 Try.underlying224 (zeroB_of (by kernel_rfl)) rfl hV.ok rfl rfl rfl hgt) rfl ?_ | refine wo_rd rfl (y_lookE (v := int vq) (l := mput (spk 7 0 lv mb rw (ev q) (ev q) (st (ev q)) 0) (int vq) vs) (k := spk 7 0 lv mb rw (ev q) (ev q) (st (ev q)) 0) 3 key80 Try.underlying224 (zeroB_of (by kernel_rfl)) rfl (hvm vq).ok rfl rfl rfl hgt2) rfl ?_
          refine wy_2 (i := 4) (j := 6) (by kernel_rfl) ?_ ?_
          · skip
            refine wo_pu rfl (y_addW rfl rfl) rfl ?_
            refine wy_1 (i := 6) (by kernel_rfl) ?_
            refine wo_pu rfl (y_extract rfl rfl) rfl ?_
            refine wy_1 (i := 7) (by kernel_rfl) ?_
            refine wo_do0 rfl (d_entryStore 3 j hu rfl rfl rfl rfl) ?_
            rintro _ _ hL
            subst hL
            rw [hset]
            refine wy_nil (by kernel_rfl) ?_
            refine at_block_normal ?_
            refine at_drop ?_
            exact at_again (seen ++ [q], max g (ev q), _) ⟨⟨_, hp'⟩, ⟨by show 0 ≤ max g (ev q); omega, by show max g (ev q) ≤ gr; omega⟩, hmax, hvm _⟩ (by show n - (seen ++ [q]).length < n - seen.length; simp; omega) ⟨rfl, rfl, rfl, rfl, rfl, trivial⟩ rfl
          · skip
            refine wo_pu rfl (y_extract rfl rfl) rfl ?_
            refine wy_1 (i := 4) (by kernel_rfl) ?_
            refine wo_pu rfl (y_addW rfl rfl) rfl ?_
            refine wy_1 (i := 7) (by kernel_rfl) ?_
            refine wo_do0 rfl (d_entryStore 3 j hu rfl rfl rfl rfl) ?_
            rintro _ _ hL
            subst hL
            rw [hset]
            refine wy_nil (by kernel_rfl) ?_
            refine at_block_normal ?_
            refine at_drop ?_
            exact at_again (seen ++ [q], max g (ev q), _) ⟨⟨_, hp'⟩, ⟨by show 0 ≤ max g (ev q); omega, by show max g (ev q) ≤ gr; omega⟩, hmax, hvm _⟩ (by show n - (seen ++ [q]).length < n - seen.length; simp; omega) ⟨rfl, rfl, rfl, rfl, rfl, trivial⟩ rfl
        · skip
          refine wo_pu rfl (y_extract rfl rfl) rfl ?_
          refine wy_1 (i := 3) (by kernel_rfl) ?_
          first | refine wo_rd rfl (y_lookE (v := int vq) (l := vs) (k := spk 7 0 lv mb rw (ev q) (ev q) (st (ev q)) 0) 3 key80 Try.underlying224 (zeroB_of (by kernel_rfl)) rfl hV.ok rfl rfl rfl hgt) rfl ?_ | refine wo_rd rfl (y_lookE (v := int vq) (l := mput (spk 7 0 lv mb rw (ev q) (ev q) (st (ev q)) 0) (int vq) vs) (k := spk 7 0 lv mb rw (ev q) (ev q) (st (ev q)) 0) 3 key80 Try.underlying224 (zeroB_of (by kernel_rfl)) rfl (hvm vq).ok rfl rfl rfl hgt2) rfl ?_
          refine wy_1 (i := 4) (by kernel_rfl) ?_
          refine wo_pu rfl (y_addW rfl rfl) rfl ?_
          refine wy_1 (i := 7) (by kernel_rfl) ?_
          refine wo_do0 rfl (d_entryStore 3 j hu rfl rfl rfl rfl) ?_
          rintro _ _ hL
          subst hL
          rw [hset]
          refine wy_nil (by kernel_rfl) ?_
          refine at_block_normal ?_
          refine at_drop ?_
          exact at_again (seen ++ [q], max g (ev q), _) ⟨⟨_, hp'⟩, ⟨by show 0 ≤ max g (ev q); omega, by show max g (ev q) ≤ gr; omega⟩, hmax, hvm _⟩ (by show n - (seen ++ [q]).length < n - seen.length; simp; omega) ⟨rfl, rfl, rfl, rfl, rfl, trivial⟩ rfl
    · skip
      refine wo_rd rfl (y_loadAgg (k := 12) (vs := sbd lv mb rw st me ev q) 0 rfl rfl rfl rfl (by kernel_rfl) (by kernel_rfl)) rfl ?_
      refine wy_2 (i := 0) (j := 2) (by kernel_rfl) ?_ ?_
      · skip
        refine wo_rd rfl (y_load 2 rfl rfl rfl (by kernel_rfl)) rfl ?_
        refine wy_1 (i := 2) (by kernel_rfl) ?_
        refine wo_do rfl (d_call (by kernel_rfl) rfl (says_spec _ 7 (me q) lv mb rw (ev q) (ev q) (st (ev q)))) rfl ?_
        rintro _ _ ⟨rfl, rfl⟩
        refine wy_2 (i := 3) (j := 5) (by kernel_rfl) ?_ ?_
        · skip
          first | refine wo_rd rfl (y_lookE (v := int vq) (l := vs) (k := spk 7 0 lv mb rw (ev q) (ev q) (st (ev q)) 0) 3 key80 Try.underlying224 (zeroB_of (by kernel_rfl)) rfl hV.ok rfl rfl rfl hgt) rfl ?_ | refine wo_rd rfl (y_lookE (v := int vq) (l := mput (spk 7 0 lv mb rw (ev q) (ev q) (st (ev q)) 0) (int vq) vs) (k := spk 7 0 lv mb rw (ev q) (ev q) (st (ev q)) 0) 3 key80 Try.underlying224 (zeroB_of (by kernel_rfl)) rfl (hvm vq).ok rfl rfl rfl hgt2) rfl ?_
          refine wy_2 (i := 4) (j := 5) (by kernel_rfl) ?_ ?_
          · skip
            refine wo_pu rfl (y_addW rfl rfl) rfl ?_
            refine wy_1 (i := 5) (by kernel_rfl) ?_
            refine wo_do rfl (d_mapEntry (u := int 0) (k := spk 7 0 lv mb rw (ev q) (ev q) (st (ev q)) 0) 3 key80 Try.underlying224 (zeroB_of (by kernel_rfl)) rfl hV.ok rfl rfl rfl) rfl ?_
            rintro _ _ ⟨j, rfl, rfl, hu, hset⟩
            rw [hgt] at hu hset ⊢
            refine wy_heap ((b6, row 80 (sbd lv mb rw st me ev q)) :: (r, itr b own.length (seen ++ [q])) :: (m4, row 224 [.map (some vb)]) :: (vb, mrow κ80 (mput (spk 7 0 lv mb rw (ev q) (ev q) (st (ev q)) 0) (int vq) vs)) :: (b2, row 80 sp0) :: (b, mrow int own) :: F) rfl ?_
            refine wy_1 (i := 6) (by kernel_rfl) ?_
            refine wo_pu rfl (y_extract rfl rfl) rfl ?_
            refine wy_1 (i := 7) (by kernel_rfl) ?_
            refine wo_do0 rfl (d_entryStore 3 j hu rfl rfl rfl rfl) ?_
            rintro _ _ hL
            subst hL
            rw [hset]
            refine wy_nil (by kernel_rfl) ?_
            refine at_block_normal ?_
            refine at_drop ?_
            exact at_again (seen ++ [q], max g (ev q), _) ⟨⟨_, hp'⟩, ⟨by show 0 ≤ max g (ev q); omega, by show max g (ev q) ≤ gr; omega⟩, hmax, hvm _⟩ (by show n - (seen ++ [q]).length < n - seen.length; simp; omega) ⟨rfl, rfl, rfl, rfl, rfl, trivial⟩ rfl
          · skip
            refine wo_do rfl (d_mapEntry (u := int 0) (k := spk 7 0 lv mb rw (ev q) (ev q) (st (ev q)) 0) 3 key80 Try.underlying224 (zeroB_of (by kernel_rfl)) rfl hV.ok rfl rfl rfl) rfl ?_
            rintro _ _ ⟨j, rfl, rfl, hu, hset⟩
            rw [hgt] at hu hset ⊢
            refine wy_heap ((b6, row 80 (sbd lv mb rw st me ev q)) :: (r, itr b own.length (seen ++ [q])) :: (m4, row 224 [.map (some vb)]) :: (vb, mrow κ80 (mput (spk 7 0 lv mb rw (ev q) (ev q) (st (ev q)) 0) (int vq) vs)) :: (b2, row 80 sp0) :: (b, mrow int own) :: F) rfl ?_
            refine wy_2 (i := 4) (j := 6) (by kernel_rfl) ?_ ?_
            · skip
              refine wo_pu rfl (y_addW rfl rfl) rfl ?_
              refine wy_1 (i := 6) (by kernel_rfl) ?_
              refine wo_pu rfl (y_extract rfl rfl) rfl ?_
              refine wy_1 (i := 7) (by kernel_rfl) ?_
              refine wo_do0 rfl (d_entryStore 3 j hu rfl rfl rfl rfl) ?_
              rintro _ _ hL
              subst hL
              rw [hset]
              refine wy_nil (by kernel_rfl) ?_
              refine at_block_normal ?_
              refine at_drop ?_
              exact at_again (seen ++ [q], max g (ev q), _) ⟨⟨_, hp'⟩, ⟨by show 0 ≤ max g (ev q); omega, by show max g (ev q) ≤ gr; omega⟩, hmax, hvm _⟩ (by show n - (seen ++ [q]).length < n - seen.length; simp; omega) ⟨rfl, rfl, rfl, rfl, rfl, trivial⟩ rfl
            · skip
              refine wo_pu rfl (y_extract rfl rfl) rfl ?_
              refine wy_1 (i := 4) (by kernel_rfl) ?_
              refine wo_pu rfl (y_addW rfl rfl) rfl ?_
              refine wy_1 (i := 7) (by kernel_rfl) ?_
              refine wo_do0 rfl (d_entryStore 3 j hu rfl rfl rfl rfl) ?_
              rintro _ _ hL
              subst hL
              rw [hset]
              refine wy_nil (by kernel_rfl) ?_
              refine at_block_normal ?_
              refine at_drop ?_
              exact at_again (seen ++ [q], max g (ev q), _) ⟨⟨_, hp'⟩, ⟨by show 0 ≤ max g (ev q); omega, by show max g (ev q) ≤ gr; omega⟩, hmax, hvm _⟩ (by show n - (seen ++ [q]).length < n - seen.length; simp; omega) ⟨rfl, rfl, rfl, rfl, rfl, trivial⟩ rfl
        · skip
          refine wo_do rfl (d_mapEntry (u := int 0) (k := spk 7 0 lv mb rw (ev q) (ev q) (st (ev q)) 0) 3 key80 Try.underlying224 (zeroB_of (by kernel_rfl)) rfl hV.ok rfl rfl rfl) rfl ?_
          rintro _ _ ⟨j, rfl, rfl, hu, hset⟩
          rw [hgt] at hu hset ⊢
          refine wy_heap ((b6, row 80 (sbd lv mb rw st me ev q)) :: (r, itr b own.length (seen ++ [q])) :: (m4, row 224 [.map (some vb)]) :: (vb, mrow κ80 (mput (spk 7 0 lv mb rw (ev q) (ev q) (st (ev q)) 0) (int vq) vs)) :: (b2, row 80 sp0) :: (b, mrow int own) :: F) rfl ?_
          refine wy_2 (i := 3) (j := 6) (by kernel_rfl) ?_ ?_
          · skip
            first | refine wo_rd rfl (y_lookE (v := int vq) (l := vs) (k := spk 7 0 lv mb rw (ev q) (ev q) (st (ev q)) 0) 3 key80 Try.underlying224 (zeroB_of (by kernel_rfl)) rfl hV.ok rfl rfl rfl hgt) rfl ?_ | refine wo_rd rfl (y_lookE (v := int vq) (l := mput (spk 7 0 lv mb rw (ev q) (ev q) (st (ev q)) 0) (int vq) vs) (k := spk 7 0 lv mb rw (ev q) (ev q) (st (ev q)) 0) 3 key80 Try.underlying224 (zeroB_of (by kernel_rfl)) rfl (hvm vq).ok rfl rfl rfl hgt2) rfl ?_
            refine wy_2 (i := 4) (j := 6) (by kernel_rfl) ?_ ?_
            · skip
              refine wo_pu rfl (y_addW rfl rfl) rfl ?_
              refine wy_1 (i := 6) (by kernel_rfl) ?_
              refine wo_pu rfl (y_extract rfl rfl) rfl ?_
              refine wy_1 (i := 7) (by kernel_rfl) ?_
              refine wo_do0 rfl (d_entryStore 3 j hu rfl rfl rfl rfl) ?_
              rintro _ _ hL
              subst hL
              rw [hset]
              refine wy_nil (by kernel_rfl) ?_
              refine at_block_normal ?_
              refine at_drop ?_
              exact at_again (seen ++ [q], max g (ev q), _) ⟨⟨_, hp'⟩, ⟨by show 0 ≤ max g (ev q); omega, by show max g (ev q) ≤ gr; omega⟩, hmax, hvm _⟩ (by show n - (seen ++ [q]).length < n - seen.length; simp; omega) ⟨rfl, rfl, rfl, rfl, rfl, trivial⟩ rfl
            · skip
              refine wo_pu rfl (y_extract rfl rfl) rfl ?_
              refine wy_1 (i := 4) (by kernel_rfl) ?_
              refine wo_pu rfl (y_addW rfl rfl) rfl ?_
              refine wy_1 (i := 7) (by kernel_rfl) ?_
              refine wo_do0 rfl (d_entryStore 3 j hu rfl rfl rfl rfl) ?_
              rintro _ _ hL
              subst hL
              rw [hset]
              refine wy_nil (by kernel_rfl) ?_
              refine at_block_normal ?_
              refine at_drop ?_
              exact at_again (seen ++ [q], max g (ev q), _) ⟨⟨_, hp'⟩, ⟨by show 0 ≤ max g (ev q); omega, by show max g (ev q) ≤ gr; omega⟩, hmax, hvm _⟩ (by show n - (seen ++ [q]).length < n - seen.length; simp; omega) ⟨rfl, rfl, rfl, rfl, rfl, trivial⟩ rfl
          · skip
            refine wo_pu rfl (y_extract rfl rfl) rfl ?_
            refine wy_1 (i := 3) (by kernel_rfl) ?_
            first | refine wo_rd rfl (y_lookE (v := int vq) (l := vs) (k := spk 7 0 lv mb rw (ev q) (ev q) (st (ev q)) 0) 3 key80 Try.underlying224 (zeroB_of (by kernel_rfl)) rfl hV.ok rfl rfl rfl hgt) rfl ?_ | refine wo_rd rfl (y_lookE (v := int vq) (l := mput (spk 7 0 lv mb rw (ev q) (ev q) (st (ev q)) 0) (int vq) vs) (k := spk 7 0 lv mb rw (ev q) (ev q) (st (ev q)) 0) 3 key80 Try.underlying224 (zeroB_of (by kernel_rfl)) rfl (hvm vq).ok rfl rfl rfl hgt2) rfl ?_
            refine wy_1 (i := 4) (by kernel_rfl) ?_
            refine wo_pu rfl (y_addW rfl rfl) rfl ?_
            refine wy_1 (i := 7) (by kernel_rfl) ?_
            refine wo_do0 rfl (d_entryStore 3 j hu rfl rfl rfl rfl) ?_
            rintro _ _ hL
            subst hL
            rw [hset]
            refine wy_nil (by kernel_rfl) ?_
            refine at_block_normal ?_
            refine at_drop ?_
            exact at_again (seen ++ [q], max g (ev q), _) ⟨⟨_, hp'⟩, ⟨by show 0 ≤ max g (ev q); omega, by show max g (ev q) ≤ gr; omega⟩, hmax, hvm _⟩ (by show n - (seen ++ [q]).length < n - seen.length; simp; omega) ⟨rfl, rfl, rfl, rfl, rfl, trivial⟩ rfl
      · skip
        refine wo_do rfl (d_call (by kernel_rfl) rfl (says_spec _ 7 (me q) lv mb rw (ev q) (ev q) (st (ev q)))) rfl ?_
        rintro _ _ ⟨rfl, rfl⟩
        refine wy_1 (i := 0) (by kernel_rfl) ?_
        refine wo_rd rfl (y_load 2 rfl rfl rfl (by kernel_rfl)) rfl ?_
        refine wy_2 (i := 3) (j := 5) (by kernel_rfl) ?_ ?_
        · skip
          first | refine wo_rd rfl (y_lookE (v := int vq) (l := vs) (k := spk 7 0 lv mb rw (ev q) (ev q) (st (ev q)) 0) 3 key80 Try.underlying224 (zeroB_of (by kernel_rfl)) rfl hV.ok rfl rfl rfl hgt) rfl ?_ | refine wo_rd rfl (y_lookE (v := int vq) (l := mput (spk 7 0 lv mb rw (ev q) (ev q) (st (ev q)) 0) (int vq) vs) (k := spk 7 0 lv mb rw (ev q) (ev q) (st (ev q)) 0) 3 key80 Try.underlying224 (zeroB_of (by kernel_rfl)) rfl (hvm vq).ok rfl rfl rfl hgt2) rfl ?_
          refine wy_2 (i := 4) (j := 5) (by kernel_rfl) ?_ ?_
          · skip
            refine wo_pu rfl (y_addW rfl rfl) rfl ?_
            refine wy_1 (i := 5) (by kernel_rfl) ?_
            refine wo_do rfl (d_mapEntry (u := int 0) (k := spk 7 0 lv mb rw (ev q) (ev q) (st (ev q)) 0) 3 key80 Try.underlying224 (zeroB_of (by kernel_rfl)) rfl hV.ok rfl rfl rfl) rfl ?_
            rintro _ _ ⟨j, rfl, rfl, hu, hset⟩
            rw [hgt] at hu hset ⊢
            refine wy_heap ((b6, row 80 (sbd lv mb rw st me ev q)) :: (r, itr b own.length (seen ++ [q])) :: (m4, row 224 [.map (some vb)]) :: (vb, mrow κ80 (mput (spk 7 0 lv mb rw (ev q) (ev q) (st (ev q)) 0) (int vq) vs)) :: (b2, row 80 sp0) :: (b, mrow int own) :: F) rfl ?_
            refine wy_1 (i := 6) (by kernel_rfl) ?_
            refine wo_pu rfl (y_extract rfl rfl) rfl ?_
            refine wy_1 (i := 7) (by kernel_rfl) ?_
            refine wo_do0 rfl (d_entryStore 3 j hu rfl rfl rfl rfl) ?_
            rintro _ _ hL
            subst hL
            rw [hset]
            refine wy_nil (by kernel_rfl) ?_
            refine at_block_normal ?_
            refine at_drop ?_
            exact at_again (seen ++ [q], max g (ev q), _) ⟨⟨_, hp'⟩, ⟨by show 0 ≤ max g (ev q); omega, by show max g (ev q) ≤ gr; omega⟩, hmax, hvm _⟩ (by show n - (seen ++ [q]).length < n - seen.length; simp; omega) ⟨rfl, rfl, rfl, rfl, rfl, trivial⟩ rfl
          · skip
            refine wo_do rfl (d_mapEntry (u := int 0) (k := spk 7 0 lv mb rw (ev q) (ev q) (st (ev q)) 0) 3 key80 Try.underlying224 (zeroB_of (by kernel_rfl)) rfl hV.ok rfl rfl rfl) rfl ?_
            rintro _ _ ⟨j, rfl, rfl, hu, hset⟩
            rw [hgt] at hu hset ⊢
            refine wy_heap ((b6, row 80 (sbd lv mb rw st me ev q)) :: (r, itr b own.length (seen ++ [q])) :: (m4, row 224 [.map (some vb)]) :: (vb, mrow κ80 (mput (spk 7 0 lv mb rw (ev q) (ev q) (st (ev q)) 0) (int vq) vs)) :: (b2, row 80 sp0) :: (b, mrow int own) :: F) rfl ?_
            refine wy_2 (i := 4) (j := 6) (by kernel_rfl) ?_ ?_
            · skip
              refine wo_pu rfl (y_addW rfl rfl) rfl ?_
              refine wy_1 (i := 6) (by kernel_rfl) ?_
              refine wo_pu rfl (y_extract rfl rfl) rfl ?_
              refine wy_1 (i := 7) (by kernel_rfl) ?_
              refine wo_do0 rfl (d_entryStore 3 j hu rfl rfl rfl rfl) ?_
              rintro _ _ hL
              subst hL
              rw [hset]
              refine wy_nil (by kernel_rfl) ?_
              refine at_block_normal ?_
              refine at_drop ?_
              exact at_again (seen ++ [q], max g (ev q), _) ⟨⟨_, hp'⟩, ⟨by show 0 ≤ max g (ev q); omega, by show max g (ev q) ≤ gr; omega⟩, hmax, hvm _⟩ (by show n - (seen ++ [q]).length < n - seen.length; simp; omega) ⟨rfl, rfl, rfl, rfl, rfl, trivial⟩ rfl
            · skip
              refine wo_pu rfl (y_extract rfl rfl) rfl ?_
              refine wy_1 (i := 4) (by kernel_rfl) ?_
              refine wo_pu rfl (y_addW rfl rfl) rfl ?_
              refine wy_1 (i := 7) (by kernel_rfl) ?_
              refine wo_do0 rfl (d_entryStore 3 j hu rfl rfl rfl rfl) ?_
              rintro _ _ hL
              subst hL
              rw [hset]
              refine wy_nil (by kernel_rfl) ?_
              refine at_block_normal ?_
              refine at_drop ?_
              exact at_again (seen ++ [q], max g (ev q), _) ⟨⟨_, hp'⟩, ⟨by show 0 ≤ max g (ev q); omega, by show max g (ev q) ≤ gr; omega⟩, hmax, hvm _⟩ (by show n - (seen ++ [q]).length < n - seen.length; simp; omega) ⟨rfl, rfl, rfl, rfl, rfl, trivial⟩ rfl
        · skip
          refine wo_do rfl (d_mapEntry (u := int 0) (k := spk 7 0 lv mb rw (ev q) (ev q) (st (ev q)) 0) 3 key80 Try.underlying224 (zeroB_of (by kernel_rfl)) rfl hV.ok rfl rfl rfl) rfl ?_
          rintro _ _ ⟨j, rfl, rfl, hu, hset⟩
          rw [hgt] at hu hset ⊢
          refine wy_heap ((b6, row 80 (sbd lv mb rw st me ev q)) :: (r, itr b own.length (seen ++ [q])) :: (m4, row 224 [.map (some vb)]) :: (vb, mrow κ80 (mput (spk 7 0 lv mb rw (ev q) (ev q) (st (ev q)) 0) (int vq) vs)) :: (b2, row 80 sp0) :: (b, mrow int own) :: F) rfl ?_
          refine wy_2 (i := 3) (j := 6) (by kernel_rfl) ?_ ?_
          · skip
            first | refine wo_rd rfl (y_lookE (v := int vq) (l := vs) (k := spk 7 0 lv mb rw (ev q) (ev q) (st (ev q)) 0) 3 key80 Try.underlying224 (zeroB_of (by kernel_rfl)) rfl hV.ok rfl rfl rfl hgt) rfl ?_ | refine wo_rd rfl (y_lookE (v := int vq) (l := mput (spk 7 0 lv mb rw (ev q) (ev q) (st (ev q)) 0) (int vq) vs) (k := spk 7 0 lv mb rw (ev q) (ev q) (st (ev q)) 0) 3 key80 Try.underlying224 (zeroB_of (by kernel_rfl)) rfl (hvm vq).ok rfl rfl rfl hgt2) rfl ?_
            refine wy_2 (i := 4) (j := 6) (by kernel_rfl) ?_ ?_
            · skip
              refine wo_pu rfl (y_addW rfl rfl) rfl ?_
              refine wy_1 (i := 6) (by kernel_rfl) ?_
              refine wo_pu rfl (y_extract rfl rfl) rfl ?_
              refine wy_1 (i := 7) (by kernel_rfl) ?_
              refine wo_do0 rfl (d_entryStore 3 j hu rfl rfl rfl rfl) ?_
              rintro _ _ hL
              subst hL
              rw [hset]
              refine wy_nil (by kernel_rfl) ?_
              refine at_block_normal ?_
              refine at_drop ?_
              exact at_again (seen ++ [q], max g (ev q), _) ⟨⟨_, hp'⟩, ⟨by show 0 ≤ max g (ev q); omega, by show max g (ev q) ≤ gr; omega⟩, hmax, hvm _⟩ (by show n - (seen ++ [q]).length < n - seen.length; simp; omega) ⟨rfl, rfl, rfl, rfl, rfl, trivial⟩ rfl
            · skip
              refine wo_pu rfl (y_extract rfl rfl) rfl ?_
              refine wy_1 (i := 4) (by kernel_rfl) ?_
              refine wo_pu rfl (y_addW rfl rfl) rfl ?_
              refine wy_1 (i := 7) (by kernel_rfl) ?_
              refine wo_do0 rfl (d_entryStore 3 j hu rfl rfl rfl rfl) ?_
              rintro _ _ hL
              subst hL
              rw [hset]
              refine wy_nil (by kernel_rfl) ?_
              refine at_block_normal ?_
              refine at_drop ?_
              exact at_again (seen ++ [q], max g (ev q), _) ⟨⟨_, hp'⟩, ⟨by show 0 ≤ max g (ev q); omega, by show max g (ev q) ≤ gr; omega⟩, hmax, hvm _⟩ (by show n - (seen ++ [q]).length < n - seen.length; simp; omega) ⟨rfl, rfl, rfl, rfl, rfl, trivial⟩ rfl
          · skip
            refine wo_pu rfl (y_extract rfl rfl) rfl ?_
            refine wy_1 (i := 3) (by kernel_rfl) ?_
            first | refine wo_rd rfl (y_lookE (v := int vq) (l := vs) (k := spk 7 0 lv mb rw (ev q) (ev q) (st (ev q)) 0) 3 key80 Try.underlying224 (zeroB_of (by kernel_rfl)) rfl hV.ok rfl rfl rfl hgt) rfl ?_ | refine wo_rd rfl (y_lookE (v := int vq) (l := mput (spk 7 0 lv mb rw (ev q) (ev q) (st (ev q)) 0) (int vq) vs) (k := spk 7 0 lv mb rw (ev q) (ev q) (st (ev q)) 0) 3 key80 Try.underlying224 (zeroB_of (by kernel_rfl)) rfl (hvm vq).ok rfl rfl rfl hgt2) rfl ?_
            refine wy_1 (i := 4) (by kernel_rfl) ?_
            refine wo_pu rfl (y_addW rfl rfl) rfl ?_
            refine wy_1 (i := 7) (by kernel_rfl) ?_
            refine wo_do0 rfl (d_entryStore 3 j hu rfl rfl rfl rfl) ?_
            rintro _ _ hL
            subst hL
            rw [hset]
            refine wy_nil (by kernel_rfl) ?_
            refine at_block_normal ?_
            refine at_drop ?_
            exact at_again (seen ++ [q], max g (ev q), _) ⟨⟨_, hp'⟩, ⟨by show 0 ≤ max g (ev q); omega, by show max g (ev q) ≤ gr; omega⟩, hmax, hvm _⟩ (by show n - (seen ++ [q]).length < n - seen.length; simp; omega) ⟨rfl, rfl, rfl, rfl, rfl, trivial⟩ rfl
end
end Go.Proofs.Ytkpndnjhfocheaa
