/- What is known of a raid; a member's sector as it is read. -/
import Derived.Test.YtkpndnjhfocheaaRaidJ
namespace Go.Proofs.Ytkpndnjhfocheaa
open Go.SL
variable {X : Inhabited SL.Outside}

theorem wy_3 {P : Program} {ops : List Oper} {Q : Exit → Act → World → Prop} {n f i j k : Nat} {l : List Bool} {E : Env} {L : Hp} (hr : Region.ready .any ops.toArray l.toArray = [i, j, k]) (h : WO P ops Q n i f l E L) (h' : WO P ops Q n j f l E L) (h2 : WO P ops Q n k f l E L) : WY P ops Q n (f + 1) l E L := wy_ready hr (by simp) (by
  intro m hm
  simp at hm
  rcases hm with rfl | rfl | rfl
  · exact h
  · exact h'
  · exact h2)

theorem hp_in (R : RD) (x : Nat × Obj) (F : Hp) : (R.hp (x :: F)).Perm (x :: R.hp F) :=
  ((List.Perm.cons _ (List.Perm.cons _ (List.Perm.cons _ perm_mid))).trans Go.SL.p3)
theorem hp_inL (R : RD) (A F : Hp) : (R.hp (A ++ F)).Perm (A ++ R.hp F) := frR.symm
theorem at_hpdrop {Q : Exit → Act → World → Prop} {n : Nat} {e : Exit} {E : Env} {R : RD} {x : Nat × Obj} {F : Hp} (h : AT Q n e E (R.hp F)) : AT Q n e E (R.hp (x :: F)) := at_perm (hp_in R x F) (at_drop h)
theorem at_hpdropL {Q : Exit → Act → World → Prop} {n : Nat} {e : Exit} {E : Env} {R : RD} {A F : Hp} (h : AT Q n e E (R.hp F)) : AT Q n e E (R.hp (A ++ F)) := at_perm (hp_inL R A F) (at_dropL h)

theorem rreads_spec (R : RD) (hG : R.G) (ho : OneOut R.n R.f) (F : Hp) (r : Int) (hr : 0 ≤ r ∧ r < R.rw) (m : Int) (hm : 0 ≤ m ∧ m < R.n) :
    Ctr Try.prog 87 [.agg ⟨geo R.lv R.n R.rw⟩, int r, .agg ⟨ins R.f⟩, int m] (R.hp F) (fun v L' => ∃ u fr, v = .tuple #[u, int 0] ∧ SlF 3 1 u (rds R.n R.f m).length ((rds R.n R.f m).map int) fr ∧ L' = R.hp (fr ++ F)) :=
  Ctr.re (List.Perm.refl _) (reads_spec (R.hp F) hG R.f ho r hr m hm) (by
    rintro v _ ⟨u, fr, hv, hS, rfl⟩
    exact ⟨_, ⟨u, fr, hv, hS, rfl⟩, (hp_inL R fr F).symm⟩)
theorem rgot_spec (R : RD) (hG : R.G) (F : Hp) (r : Int) (hr : 0 ≤ r ∧ r < R.rw) {v : Value} {xs : List Int} {fr : Hp} (hS : SlF 3 1 v xs.length (xs.map int) fr) (hnd : xs.Nodup) (hx : ∀ x ∈ xs, 0 ≤ x ∧ x < R.n ∧ R.f x = true) :
    Ctr Try.prog 89 [ptr R.bx 0, int r, v] (R.hp (fr ++ F)) (fun u L' => ∃ bo, u = .map (some bo) ∧ L' = R.hp ((bo, mrow int (wmap xs fun m => R.D m r)) :: (fr ++ F))) :=
  Ctr.re (hp_inL R fr F) (got_spec R hG F r hr hS hnd hx) (by
    rintro v _ ⟨bo, hv, rfl⟩
    exact ⟨_, ⟨bo, hv, rfl⟩, (List.Perm.cons _ (hp_inL R fr F).symm).trans (hp_in R _ _).symm⟩)
theorem rvalue_spec (R : RD) (hG : R.G) (ho : OneOut R.n R.f) (F : Hp) (r : Int) (hr : 0 ≤ r ∧ r < R.rw) (m : Int) (hm : 0 ≤ m ∧ m < R.n) (b : Nat) (l : List (Int × Value)) (g : Int → UInt8) (hl : Got l (rds R.n R.f m) g) :
    Ctr Try.prog 88 [.agg ⟨geo R.lv R.n R.rw⟩, int r, .agg ⟨ins R.f⟩, int m, .map (some b)] (R.hp ((b, mrow int l) :: F)) (fun v L' => v = .tuple #[S (rep (xall ((rds R.n R.f m).map g))), int 0] ∧ L' = R.hp ((b, mrow int l) :: F)) :=
  Ctr.re (hp_in R _ _) (value_spec (R.hp F) hG R.f ho r hr m hm b l g hl) (by
    rintro v _ ⟨hv, rfl⟩
    exact ⟨_, ⟨hv, rfl⟩, (hp_in R _ _).symm⟩)

/-! what is known of a raid -/
def mems (n : Nat) : List Int := (List.range n).map fun q : Nat => (q : Int)
theorem mems_mem {n : Nat} {m : Int} : m ∈ mems n ↔ 0 ≤ m ∧ m < n := by
  constructor
  · intro h
    obtain ⟨q, hq, rfl⟩ := List.mem_map.1 h
    have := List.mem_range.1 hq
    omega
  · intro h
    exact List.mem_map.2 ⟨m.toNat, List.mem_range.2 (by omega), by omega⟩
theorem mems_nodup (n : Nat) : (mems n).Nodup := by
  unfold mems
  rw [List.nodup_iff_pairwise_ne, List.pairwise_map]
  exact (List.nodup_iff_pairwise_ne.1 List.nodup_range).imp fun h hc => h (by omega)
theorem xall_append (a b : List UInt8) : xall (a ++ b) = xall a ^^^ xall b := by
  induction a with
  | nil => simp [xall]
  | cons x a ih => rw [List.cons_append, xall_cons, xall_cons, ih, UInt8.xor_assoc]
structure RS0 (R : RD) (V : Int → Int → UInt8) : Prop where
  G : R.G
  one : OneOut R.n R.f
  bal : ∀ r : Int, 0 ≤ r → r < R.rw → xall ((mems R.n).map fun m => V m r) = 0
  dsk : ∀ m r : Int, 0 ≤ m → m < R.n → 0 ≤ r → r < R.rw → R.f m = true → R.D m r = V m r
structure RS (R : RD) (V : Int → Int → UInt8) : Prop extends RS0 R V where
  pl : ∀ i : Int, 0 ≤ i → i < (R.rw : Int) * ((R.n : Int) - 1) → R.P i = V (atM R.n i) (atR R.n i)
theorem xor_eq_of {a b : UInt8} (h : a ^^^ b = 0) : b = a := by
  have : a ^^^ (a ^^^ b) = a ^^^ 0 := by rw [h]
  rwa [← UInt8.xor_assoc, UInt8.xor_self, UInt8.zero_xor, UInt8.xor_zero] at this
theorem rds_on {R : RD} {V : Int → Int → UInt8} (h : RS0 R V) {m : Int} (hm : 0 ≤ m ∧ m < R.n) : ∀ x ∈ rds R.n R.f m, 0 ≤ x ∧ x < R.n ∧ R.f x = true := fun x hx => by
  have h1 := rds_in hm x hx
  refine ⟨h1.1, h1.2, ?_⟩
  unfold rds at hx
  split at hx
  · rename_i hf
    simp only [List.mem_singleton] at hx
    rw [hx]; exact hf
  · rename_i hf
    have hxm : x ≠ m := by simpa using (List.mem_filter.1 hx).2
    cases hfx : R.f x with
    | true => rfl
    | false => exact absurd (h.one x m h1.1 h1.2 hm.1 hm.2 hfx (by simpa using hf)) hxm
theorem rds_nodup (R : RD) (m : Int) : (rds R.n R.f m).Nodup := by
  unfold rds
  split
  · simp
  · exact (mems_nodup R.n).filter _
theorem rds_sum {R : RD} {V : Int → Int → UInt8} (h : RS0 R V) {m r : Int} (hm : 0 ≤ m ∧ m < R.n) (hr : 0 ≤ r ∧ r < R.rw) : xall ((rds R.n R.f m).map fun q => R.D q r) = V m r := by
  have h1 : ((rds R.n R.f m).map fun q => R.D q r) = (rds R.n R.f m).map fun q => V q r := List.map_congr_left fun q hq => by
    have := rds_on h hm q hq
    exact h.dsk q r this.1 this.2.1 hr.1 hr.2 this.2.2
  rw [h1]
  unfold rds
  split
  · simp [xall]
  · have hp : (mems R.n).Perm (m :: (mems R.n).filter (· ≠ m)) := by
      refine (List.perm_ext_iff_of_nodup (mems_nodup _) (List.nodup_cons.2 ⟨by simp, (mems_nodup _).filter _⟩)).2 fun a => ?_
      rw [List.mem_cons, List.mem_filter]
      by_cases e : a = m
      · subst e; simp [mems_mem, hm]
      · simp [e]
    have hb := h.bal r hr.1 hr.2
    rw [xall_perm (hp.map _), List.map_cons, xall_cons] at hb
    exact xor_eq_of hb

theorem value'_spec (R : RD) (V : Int → Int → UInt8) (h : RS0 R V) (F : Hp) (r : Int) (hr : 0 ≤ r ∧ r < R.rw) (m : Int) (hm : 0 ≤ m ∧ m < R.n) :
    Ctr Try.prog 40 [ptr R.bx 0, int r, int m] (R.hp F) (fun v L' => v = .tuple #[S (rep (V m r)), .bool true] ∧ L' = R.hp F) := by
  have hG := h.G
  have hn := hG.mem3
  refine spec_body Try.func40 Try.ntmps40 rfl rfl ?_
  refine wc_seq ?_
  refine wc_region ?_
  refine wl_pu (y_assign rfl) rfl ?_
  refine wl_pu (y_assign rfl) rfl ?_
  refine wl_nil ?_
  refine at_then ?_
  refine wc_join (σ := Value × Hp) (fun s => SlF 3 1 s.1 (rds R.n R.f m).length ((rds R.n R.f m).map int) s.2) (fun s => [(0, ptr R.bx 0), (1, int r), (2, int m), (8, s.1), (9, int 0)]) (fun s => R.hp (s.2 ++ F)) ?_ ?_
  · skip
    refine wc_anyN (by kernel_rfl) ?_
    refine wy_pu (i := 0) rfl (by kernel_rfl) (y_move rfl) rfl ?_
    refine wy_pu (i := 1) rfl (by kernel_rfl) (y_nil rfl) rfl ?_
    first | refine wy_pu (i := 2) rfl (by kernel_rfl) (y_fieldAddr0 0 Try.underlying98 rfl rfl (by kernel_rfl) rfl) rfl ?_ | refine wy_pu (i := 2) rfl (by kernel_rfl) (y_fieldAddr 0 Try.underlying98 rfl rfl (by kernel_rfl) rfl) rfl ?_
    refine wy_pu (i := 4) rfl (by kernel_rfl) (y_move rfl) rfl ?_
    refine wy_pu (i := 5) rfl (by kernel_rfl) (y_move rfl) rfl ?_
    refine wy_pu (i := 6) rfl (by kernel_rfl) (y_nil rfl) rfl ?_
    first | refine wy_pu (i := 7) rfl (by kernel_rfl) (y_fieldAddr0 4 Try.underlying98 rfl rfl (by kernel_rfl) rfl) rfl ?_ | refine wy_pu (i := 7) rfl (by kernel_rfl) (y_fieldAddr 4 Try.underlying98 rfl rfl (by kernel_rfl) rfl) rfl ?_
    refine wy_pu (i := 9) rfl (by kernel_rfl) (y_move rfl) rfl ?_
    refine wy_2 (i := 3) (j := 8) (by kernel_rfl) ?_ ?_
    · skip
      refine wo_rd rfl (y_loadAgg (k := 3) (vs := geo R.lv R.n R.rw) 0 rfl rfl rfl rfl (by kernel_rfl) (by kernel_rfl)) rfl ?_
      refine wy_1 (i := 8) (by kernel_rfl) ?_
      refine wo_rd rfl (y_loadAgg (k := 4) (vs := ins R.f) 0 rfl rfl rfl rfl (by kernel_rfl) (by kernel_rfl)) rfl ?_
      refine wy_1 (i := 10) (by kernel_rfl) ?_
      refine wo_do rfl (d_call (by kernel_rfl) rfl (rreads_spec R hG h.one F r hr m hm)) rfl ?_
      rintro _ _ ⟨u, fr, rfl, hS, rfl⟩
      refine wy_pu (i := 11) rfl (by kernel_rfl) (y_move rfl) rfl ?_
      refine wy_pu (i := 12) rfl (by kernel_rfl) (y_extract rfl rfl) rfl ?_
      refine wy_pu (i := 13) rfl (by kernel_rfl) (y_extract rfl rfl) rfl ?_
      refine wy_pu (i := 14) rfl (by kernel_rfl) (y_assign rfl) rfl ?_
      refine wy_pu (i := 15) rfl (by kernel_rfl) (y_assign rfl) rfl ?_
      refine wy_nil (by kernel_rfl) ?_
      refine at_nq ?_
      exact at_join (u, fr) hS ⟨rfl, rfl, rfl, rfl, rfl, trivial⟩ rfl
    · skip
      refine wo_rd rfl (y_loadAgg (k := 4) (vs := ins R.f) 0 rfl rfl rfl rfl (by kernel_rfl) (by kernel_rfl)) rfl ?_
      refine wy_1 (i := 3) (by kernel_rfl) ?_
      refine wo_rd rfl (y_loadAgg (k := 3) (vs := geo R.lv R.n R.rw) 0 rfl rfl rfl rfl (by kernel_rfl) (by kernel_rfl)) rfl ?_
      refine wy_1 (i := 10) (by kernel_rfl) ?_
      refine wo_do rfl (d_call (by kernel_rfl) rfl (rreads_spec R hG h.one F r hr m hm)) rfl ?_
      rintro _ _ ⟨u, fr, rfl, hS, rfl⟩
      refine wy_pu (i := 11) rfl (by kernel_rfl) (y_move rfl) rfl ?_
      refine wy_pu (i := 12) rfl (by kernel_rfl) (y_extract rfl rfl) rfl ?_
      refine wy_pu (i := 13) rfl (by kernel_rfl) (y_extract rfl rfl) rfl ?_
      refine wy_pu (i := 14) rfl (by kernel_rfl) (y_assign rfl) rfl ?_
      refine wy_pu (i := 15) rfl (by kernel_rfl) (y_assign rfl) rfl ?_
      refine wy_nil (by kernel_rfl) ?_
      refine at_nq ?_
      exact at_join (u, fr) hS ⟨rfl, rfl, rfl, rfl, rfl, trivial⟩ rfl
  · skip
    rintro ⟨u, fr⟩ hS
    simp only [] at hS
    show WC _ _ _ _ [(0, ptr R.bx 0), (1, int r), (2, int m), (8, u), (9, int 0)] (R.hp (fr ++ F))
    refine wc_seq ?_
    -- at: draw
    refine wc_anyN (by kernel_rfl) ?_
    refine wy_pu (i := 0) rfl (by kernel_rfl) (y_move rfl) rfl ?_
    refine wy_pu (i := 1) rfl (by kernel_rfl) (y_nil rfl) rfl ?_
    first | refine wy_pu (i := 2) rfl (by kernel_rfl) (y_fieldAddr0 0 Try.underlying98 rfl rfl (by kernel_rfl) rfl) rfl ?_ | refine wy_pu (i := 2) rfl (by kernel_rfl) (y_fieldAddr 0 Try.underlying98 rfl rfl (by kernel_rfl) rfl) rfl ?_
    refine wy_pu (i := 4) rfl (by kernel_rfl) (y_move rfl) rfl ?_
    refine wy_pu (i := 5) rfl (by kernel_rfl) (y_move rfl) rfl ?_
    refine wy_pu (i := 6) rfl (by kernel_rfl) (y_nil rfl) rfl ?_
    first | refine wy_pu (i := 7) rfl (by kernel_rfl) (y_fieldAddr0 4 Try.underlying98 rfl rfl (by kernel_rfl) rfl) rfl ?_ | refine wy_pu (i := 7) rfl (by kernel_rfl) (y_fieldAddr 4 Try.underlying98 rfl rfl (by kernel_rfl) rfl) rfl ?_
    refine wy_pu (i := 9) rfl (by kernel_rfl) (y_move rfl) rfl ?_
    refine wy_pu (i := 10) rfl (by kernel_rfl) (y_move rfl) rfl ?_
    refine wy_pu (i := 11) rfl (by kernel_rfl) (y_move rfl) rfl ?_
    refine wy_pu (i := 12) rfl (by kernel_rfl) (y_move rfl) rfl ?_
    refine wy_3 (i := 3) (j := 8) (k := 13) (by kernel_rfl) ?_ ?_ ?_
    · skip
      refine wo_rd rfl (y_loadAgg (k := 3) (vs := geo R.lv R.n R.rw) 0 rfl rfl rfl rfl (by kernel_rfl) (by kernel_rfl)) rfl ?_
      refine wy_2 (i := 8) (j := 13) (by kernel_rfl) ?_ ?_
      · skip
        refine wo_rd rfl (y_loadAgg (k := 4) (vs := ins R.f) 0 rfl rfl rfl rfl (by kernel_rfl) (by kernel_rfl)) rfl ?_
        refine wy_1 (i := 13) (by kernel_rfl) ?_
        refine wo_do rfl (d_call (by kernel_rfl) rfl (rgot_spec R hG F r hr hS (rds_nodup R m) (rds_on h hm))) rfl ?_
        rintro _ _ ⟨bo, rfl, rfl⟩
        refine wy_1 (i := 14) (by kernel_rfl) ?_
        refine wo_do rfl (d_call (by kernel_rfl) rfl (rvalue_spec R hG h.one (fr ++ F) r hr m hm bo _ (fun q => R.D q r) ⟨wmap_ok _ (rds_nodup R m) (fun k hk => by have := rds_in hm k hk; omega), fun k hk => wmap_mem hk, fun k hk => by have := rds_in hm k hk; omega⟩)) rfl ?_
        rintro _ L9 ⟨rfl, hL9⟩
        rw [hL9]
        clear hL9
        refine wy_pu (i := 15) rfl (by kernel_rfl) (y_move rfl) rfl ?_
        refine wy_pu (i := 16) rfl (by kernel_rfl) (y_extract rfl rfl) rfl ?_
        refine wy_pu (i := 17) rfl (by kernel_rfl) (y_extract rfl rfl) rfl ?_
        refine wy_pu (i := 18) rfl (by kernel_rfl) (y_assign rfl) rfl ?_
        refine wy_pu (i := 19) rfl (by kernel_rfl) (y_assign rfl) rfl ?_
        refine wy_nil (by kernel_rfl) ?_
        refine at_nq ?_
        refine at_then ?_
        refine wc_seq ?_
        refine wc_region ?_
        refine wl_pu (y_move rfl) rfl ?_
        refine wl_pu (y_move rfl) rfl ?_
        refine wl_pu (y_eql rfl rfl) rfl ?_
        refine wl_pu (y_move rfl) rfl ?_
        refine wl_splitD 47 rfl (fun _ => ?_) (fun hc => absurd ((by omega)) hc)
        refine wl_gon rfl rfl ?_
        refine wl_pu (y_move rfl) rfl ?_
        refine wl_gon rfl rfl ?_
        refine wl_pu (y_eql rfl rfl) rfl ?_
        first | refine wl_pu (y_pickT rfl rfl) rfl ?_ | refine wl_pu (y_pickF rfl rfl) rfl ?_
        refine wl_pu (y_assign rfl) rfl ?_
        refine wl_pu (y_assign rfl) rfl ?_
        refine wl_nil ?_
        refine at_then ?_
        refine wc_ret ?_
        -- at: ret
        refine at_hpdrop (at_hpdropL ?_)
        refine at_ret2 rfl rfl rfl ?_
        exact ⟨by rw [rds_sum h hm hr]; rfl, rfl⟩
      · skip
        refine wo_do rfl (d_call (by kernel_rfl) rfl (rgot_spec R hG F r hr hS (rds_nodup R m) (rds_on h hm))) rfl ?_
        rintro _ _ ⟨bo, rfl, rfl⟩
        refine wy_1 (i := 8) (by kernel_rfl) ?_
        refine wo_rd rfl (y_loadAgg (k := 4) (vs := ins R.f) 0 rfl rfl rfl rfl (by kernel_rfl) (by kernel_rfl)) rfl ?_
        refine wy_1 (i := 14) (by kernel_rfl) ?_
        refine wo_do rfl (d_call (by kernel_rfl) rfl (rvalue_spec R hG h.one (fr ++ F) r hr m hm bo _ (fun q => R.D q r) ⟨wmap_ok _ (rds_nodup R m) (fun k hk => by have := rds_in hm k hk; omega), fun k hk => wmap_mem hk, fun k hk => by have := rds_in hm k hk; omega⟩)) rfl ?_
        rintro _ L9 ⟨rfl, hL9⟩
        rw [hL9]
        clear hL9
        refine wy_pu (i := 15) rfl (by kernel_rfl) (y_move rfl) rfl ?_
        refine wy_pu (i := 16) rfl (by kernel_rfl) (y_extract rfl rfl) rfl ?_
        refine wy_pu (i := 17) rfl (by kernel_rfl) (y_extract rfl rfl) rfl ?_
        refine wy_pu (i := 18) rfl (by kernel_rfl) (y_assign rfl) rfl ?_
        refine wy_pu (i := 19) rfl (by kernel_rfl) (y_assign rfl) rfl ?_
        refine wy_nil (by kernel_rfl) ?_
        refine at_nq ?_
        refine at_then ?_
        refine wc_seq ?_
        refine wc_region ?_
        refine wl_pu (y_move rfl) rfl ?_
        refine wl_pu (y_move rfl) rfl ?_
        refine wl_pu (y_eql rfl rfl) rfl ?_
        refine wl_pu (y_move rfl) rfl ?_
        refine wl_splitD 47 rfl (fun _ => ?_) (fun hc => absurd ((by omega)) hc)
        refine wl_gon rfl rfl ?_
        refine wl_pu (y_move rfl) rfl ?_
        refine wl_gon rfl rfl ?_
        refine wl_pu (y_eql rfl rfl) rfl ?_
        first | refine wl_pu (y_pickT rfl rfl) rfl ?_ | refine wl_pu (y_pickF rfl rfl) rfl ?_
        refine wl_pu (y_assign rfl) rfl ?_
        refine wl_pu (y_assign rfl) rfl ?_
        refine wl_nil ?_
        refine at_then ?_
        refine wc_ret ?_
        -- at: ret
        refine at_hpdrop (at_hpdropL ?_)
        refine at_ret2 rfl rfl rfl ?_
        exact ⟨by rw [rds_sum h hm hr]; rfl, rfl⟩
    · skip
      refine wo_rd rfl (y_loadAgg (k := 4) (vs := ins R.f) 0 rfl rfl rfl rfl (by kernel_rfl) (by kernel_rfl)) rfl ?_
      refine wy_2 (i := 3) (j := 13) (by kernel_rfl) ?_ ?_
      · skip
        refine wo_rd rfl (y_loadAgg (k := 3) (vs := geo R.lv R.n R.rw) 0 rfl rfl rfl rfl (by kernel_rfl) (by kernel_rfl)) rfl ?_
        refine wy_1 (i := 13) (by kernel_rfl) ?_
        refine wo_do rfl (d_call (by kernel_rfl) rfl (rgot_spec R hG F r hr hS (rds_nodup R m) (rds_on h hm))) rfl ?_
        rintro _ _ ⟨bo, rfl, rfl⟩
        refine wy_1 (i := 14) (by kernel_rfl) ?_
        refine wo_do rfl (d_call (by kernel_rfl) rfl (rvalue_spec R hG h.one (fr ++ F) r hr m hm bo _ (fun q => R.D q r) ⟨wmap_ok _ (rds_nodup R m) (fun k hk => by have := rds_in hm k hk; omega), fun k hk => wmap_mem hk, fun k hk => by have := rds_in hm k hk; omega⟩)) rfl ?_
        rintro _ L9 ⟨rfl, hL9⟩
        rw [hL9]
        clear hL9
        refine wy_pu (i := 15) rfl (by kernel_rfl) (y_move rfl) rfl ?_
        refine wy_pu (i := 16) rfl (by kernel_rfl) (y_extract rfl rfl) rfl ?_
        refine wy_pu (i := 17) rfl (by kernel_rfl) (y_extract rfl rfl) rfl ?_
        refine wy_pu (i := 18) rfl (by kernel_rfl) (y_assign rfl) rfl ?_
        refine wy_pu (i := 19) rfl (by kernel_rfl) (y_assign rfl) rfl ?_
        refine wy_nil (by kernel_rfl) ?_
        refine at_nq ?_
        refine at_then ?_
        refine wc_seq ?_
        refine wc_region ?_
        refine wl_pu (y_move rfl) rfl ?_
        refine wl_pu (y_move rfl) rfl ?_
        refine wl_pu (y_eql rfl rfl) rfl ?_
        refine wl_pu (y_move rfl) rfl ?_
        refine wl_splitD 47 rfl (fun _ => ?_) (fun hc => absurd ((by omega)) hc)
        refine wl_gon rfl rfl ?_
        refine wl_pu (y_move rfl) rfl ?_
        refine wl_gon rfl rfl ?_
        refine wl_pu (y_eql rfl rfl) rfl ?_
        first | refine wl_pu (y_pickT rfl rfl) rfl ?_ | refine wl_pu (y_pickF rfl rfl) rfl ?_
        refine wl_pu (y_assign rfl) rfl ?_
        refine wl_pu (y_assign rfl) rfl ?_
        refine wl_nil ?_
        refine at_then ?_
        refine wc_ret ?_
        -- at: ret
        refine at_hpdrop (at_hpdropL ?_)
        refine at_ret2 rfl rfl rfl ?_
        exact ⟨by rw [rds_sum h hm hr]; rfl, rfl⟩
      · skip
        refine wo_do rfl (d_call (by kernel_rfl) rfl (rgot_spec R hG F r hr hS (rds_nodup R m) (rds_on h hm))) rfl ?_
        rintro _ _ ⟨bo, rfl, rfl⟩
        refine wy_1 (i := 3) (by kernel_rfl) ?_
        refine wo_rd rfl (y_loadAgg (k := 3) (vs := geo R.lv R.n R.rw) 0 rfl rfl rfl rfl (by kernel_rfl) (by kernel_rfl)) rfl ?_
        refine wy_1 (i := 14) (by kernel_rfl) ?_
        refine wo_do rfl (d_call (by kernel_rfl) rfl (rvalue_spec R hG h.one (fr ++ F) r hr m hm bo _ (fun q => R.D q r) ⟨wmap_ok _ (rds_nodup R m) (fun k hk => by have := rds_in hm k hk; omega), fun k hk => wmap_mem hk, fun k hk => by have := rds_in hm k hk; omega⟩)) rfl ?_
        rintro _ L9 ⟨rfl, hL9⟩
        rw [hL9]
        clear hL9
        refine wy_pu (i := 15) rfl (by kernel_rfl) (y_move rfl) rfl ?_
        refine wy_pu (i := 16) rfl (by kernel_rfl) (y_extract rfl rfl) rfl ?_
        refine wy_pu (i := 17) rfl (by kernel_rfl) (y_extract rfl rfl) rfl ?_
        refine wy_pu (i := 18) rfl (by kernel_rfl) (y_assign rfl) rfl ?_
        refine wy_pu (i := 19) rfl (by kernel_rfl) (y_assign rfl) rfl ?_
        refine wy_nil (by kernel_rfl) ?_
        refine at_nq ?_
        refine at_then ?_
        refine wc_seq ?_
        refine wc_region ?_
        refine wl_pu (y_move rfl) rfl ?_
        refine wl_pu (y_move rfl) rfl ?_
        refine wl_pu (y_eql rfl rfl) rfl ?_
        refine wl_pu (y_move rfl) rfl ?_
        refine wl_splitD 47 rfl (fun _ => ?_) (fun hc => absurd ((by omega)) hc)
        refine wl_gon rfl rfl ?_
        refine wl_pu (y_move rfl) rfl ?_
        refine wl_gon rfl rfl ?_
        refine wl_pu (y_eql rfl rfl) rfl ?_
        first | refine wl_pu (y_pickT rfl rfl) rfl ?_ | refine wl_pu (y_pickF rfl rfl) rfl ?_
        refine wl_pu (y_assign rfl) rfl ?_
        refine wl_pu (y_assign rfl) rfl ?_
        refine wl_nil ?_
        refine at_then ?_
        refine wc_ret ?_
        -- at: ret
        refine at_hpdrop (at_hpdropL ?_)
        refine at_ret2 rfl rfl rfl ?_
        exact ⟨by rw [rds_sum h hm hr]; rfl, rfl⟩
    · skip
      refine wo_do rfl (d_call (by kernel_rfl) rfl (rgot_spec R hG F r hr hS (rds_nodup R m) (rds_on h hm))) rfl ?_
      rintro _ _ ⟨bo, rfl, rfl⟩
      refine wy_2 (i := 3) (j := 8) (by kernel_rfl) ?_ ?_
      · skip
        refine wo_rd rfl (y_loadAgg (k := 3) (vs := geo R.lv R.n R.rw) 0 rfl rfl rfl rfl (by kernel_rfl) (by kernel_rfl)) rfl ?_
        refine wy_1 (i := 8) (by kernel_rfl) ?_
        refine wo_rd rfl (y_loadAgg (k := 4) (vs := ins R.f) 0 rfl rfl rfl rfl (by kernel_rfl) (by kernel_rfl)) rfl ?_
        refine wy_1 (i := 14) (by kernel_rfl) ?_
        refine wo_do rfl (d_call (by kernel_rfl) rfl (rvalue_spec R hG h.one (fr ++ F) r hr m hm bo _ (fun q => R.D q r) ⟨wmap_ok _ (rds_nodup R m) (fun k hk => by have := rds_in hm k hk; omega), fun k hk => wmap_mem hk, fun k hk => by have := rds_in hm k hk; omega⟩)) rfl ?_
        rintro _ L9 ⟨rfl, hL9⟩
        rw [hL9]
        clear hL9
        refine wy_pu (i := 15) rfl (by kernel_rfl) (y_move rfl) rfl ?_
        refine wy_pu (i := 16) rfl (by kernel_rfl) (y_extract rfl rfl) rfl ?_
        refine wy_pu (i := 17) rfl (by kernel_rfl) (y_extract rfl rfl) rfl ?_
        refine wy_pu (i := 18) rfl (by kernel_rfl) (y_assign rfl) rfl ?_
        refine wy_pu (i := 19) rfl (by kernel_rfl) (y_assign rfl) rfl ?_
        refine wy_nil (by kernel_rfl) ?_
        refine at_nq ?_
        refine at_then ?_
        refine wc_seq ?_
        refine wc_region ?_
        refine wl_pu (y_move rfl) rfl ?_
        refine wl_pu (y_move rfl) rfl ?_
        refine wl_pu (y_eql rfl rfl) rfl ?_
        refine wl_pu (y_move rfl) rfl ?_
        refine wl_splitD 47 rfl (fun _ => ?_) (fun hc => absurd ((by omega)) hc)
        refine wl_gon rfl rfl ?_
        refine wl_pu (y_move rfl) rfl ?_
        refine wl_gon rfl rfl ?_
        refine wl_pu (y_eql rfl rfl) rfl ?_
        first | refine wl_pu (y_pickT rfl rfl) rfl ?_ | refine wl_pu (y_pickF rfl rfl) rfl ?_
        refine wl_pu (y_assign rfl) rfl ?_
        refine wl_pu (y_assign rfl) rfl ?_
        refine wl_nil ?_
        refine at_then ?_
        refine wc_ret ?_
        -- at: ret
        refine at_hpdrop (at_hpdropL ?_)
        refine at_ret2 rfl rfl rfl ?_
        exact ⟨by rw [rds_sum h hm hr]; rfl, rfl⟩
      · skip
        refine wo_rd rfl (y_loadAgg (k := 4) (vs := ins R.f) 0 rfl rfl rfl rfl (by kernel_rfl) (by kernel_rfl)) rfl ?_
        refine wy_1 (i := 3) (by kernel_rfl) ?_
        refine wo_rd rfl (y_loadAgg (k := 3) (vs := geo R.lv R.n R.rw) 0 rfl rfl rfl rfl (by kernel_rfl) (by kernel_rfl)) rfl ?_
        refine wy_1 (i := 14) (by kernel_rfl) ?_
        refine wo_do rfl (d_call (by kernel_rfl) rfl (rvalue_spec R hG h.one (fr ++ F) r hr m hm bo _ (fun q => R.D q r) ⟨wmap_ok _ (rds_nodup R m) (fun k hk => by have := rds_in hm k hk; omega), fun k hk => wmap_mem hk, fun k hk => by have := rds_in hm k hk; omega⟩)) rfl ?_
        rintro _ L9 ⟨rfl, hL9⟩
        rw [hL9]
        clear hL9
        refine wy_pu (i := 15) rfl (by kernel_rfl) (y_move rfl) rfl ?_
        refine wy_pu (i := 16) rfl (by kernel_rfl) (y_extract rfl rfl) rfl ?_
        refine wy_pu (i := 17) rfl (by kernel_rfl) (y_extract rfl rfl) rfl ?_
        refine wy_pu (i := 18) rfl (by kernel_rfl) (y_assign rfl) rfl ?_
        refine wy_pu (i := 19) rfl (by kernel_rfl) (y_assign rfl) rfl ?_
        refine wy_nil (by kernel_rfl) ?_
        refine at_nq ?_
        refine at_then ?_
        refine wc_seq ?_
        refine wc_region ?_
        refine wl_pu (y_move rfl) rfl ?_
        refine wl_pu (y_move rfl) rfl ?_
        refine wl_pu (y_eql rfl rfl) rfl ?_
        refine wl_pu (y_move rfl) rfl ?_
        refine wl_splitD 47 rfl (fun _ => ?_) (fun hc => absurd ((by omega)) hc)
        refine wl_gon rfl rfl ?_
        refine wl_pu (y_move rfl) rfl ?_
        refine wl_gon rfl rfl ?_
        refine wl_pu (y_eql rfl rfl) rfl ?_
        first | refine wl_pu (y_pickT rfl rfl) rfl ?_ | refine wl_pu (y_pickF rfl rfl) rfl ?_
        refine wl_pu (y_assign rfl) rfl ?_
        refine wl_pu (y_assign rfl) rfl ?_
        refine wl_nil ?_
        refine at_then ?_
        refine wc_ret ?_
        -- at: ret
        refine at_hpdrop (at_hpdropL ?_)
        refine at_ret2 rfl rfl rfl ?_
        exact ⟨by rw [rds_sum h hm hr]; rfl, rfl⟩
end Go.Proofs.Ytkpndnjhfocheaa
