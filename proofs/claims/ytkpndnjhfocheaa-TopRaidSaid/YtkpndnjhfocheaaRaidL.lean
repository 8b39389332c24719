/- What is to be written for some sectors of a row of a raid. -/
import Derived.Test.YtkpndnjhfocheaaRaidK
namespace Go.Proofs.Ytkpndnjhfocheaa
open Go.SL
variable {X : Inhabited SL.Outside}

theorem mems_perm {lv rw : Int} {n : Nat} (h : GOk lv n rw) (r : Int) : (mems n).Perm (par n r :: dats n r) := by
  have hp := par_lo h r
  unfold dats dat
  generalize par n r = p at hp
  rcases h.three with rfl | rfl | rfl
  · have : p = 0 ∨ p = 1 := by omega
    rcases this with rfl | rfl <;> decide
  · have : p = 0 ∨ p = 1 ∨ p = 2 := by omega
    rcases this with rfl | rfl | rfl <;> decide
  · have : p = 0 ∨ p = 1 ∨ p = 2 ∨ p = 3 := by omega
    rcases this with rfl | rfl | rfl | rfl <;> decide
theorem dats_nodup {lv rw : Int} {n : Nat} (h : GOk lv n rw) (r : Int) : (dats n r).Nodup :=
  (List.nodup_cons.1 ((mems_perm h r).nodup_iff.1 (mems_nodup n))).2
theorem dats_cut {lv rw : Int} {n : Nat} (h : GOk lv n rw) {r : Int} {ks : List Int} (hw : WOk n r ks) : (dats n r).Perm (ks ++ (dats n r).filter (· ∉ ks)) := by
  refine (List.perm_ext_iff_of_nodup (dats_nodup h r) (List.nodup_append.2 ⟨hw.nodup, (dats_nodup h r).filter _, fun a ha c hc => ?_⟩)).2 fun a => ?_
  · rintro rfl
    exact absurd ha (by simpa using (List.mem_filter.1 hc).2)
  · rw [List.mem_append, List.mem_filter]
    by_cases e : a ∈ ks
    · simp [e, hw.sub a e]
    · simp [e]

/-- The new data, and the old ones. -/
def newV (ks : List Int) (gw : Int → UInt8) (V : Int → UInt8) : Int → UInt8 := fun m => if m ∈ ks then gw m else V m
theorem need_on {R : RD} {V : Int → Int → UInt8} (h : RS0 R V) {r : Int} {ks : List Int} (hw : WOk R.n r ks) {l : List Int} (hN : NeedR R.n R.f r ks l) : l.Nodup ∧ ∀ x ∈ l, 0 ≤ x ∧ x < R.n ∧ R.f x = true := by
  have hp := par_lo h.G r
  cases hN with
  | out => simp
  | rest hpf ha _ hl =>
    refine ⟨hl.nodup_iff.2 ((dats_nodup h.G r).filter _), fun x hx => ?_⟩
    have hx' := List.mem_filter.1 (hl.mem_iff.1 hx)
    have := dats_in h.G r x hx'.1
    exact ⟨this.1, this.2, ha x hx'.1 (by simpa using hx'.2)⟩
  | old hpf ha _ hl =>
    refine ⟨hl.nodup_iff.2 (List.nodup_append.2 ⟨hw.nodup, by simp, fun a h1 c hc => ?_⟩), fun x hx => ?_⟩
    · rintro rfl
      simp only [List.mem_singleton] at hc
      exact par_not h.G r (hc ▸ hw.sub a h1)
    · rcases List.mem_append.1 (hl.mem_iff.1 hx) with hx | hx
      · have h1 := dats_in h.G r x (hw.sub x hx)
        refine ⟨h1.1, h1.2, ?_⟩
        obtain ⟨m, hm, hmk, hmf⟩ := ha
        have h2 := dats_in h.G r m hm
        cases hfx : R.f x with
        | true => rfl
        | false => exact absurd (h.one x m h1.1 h1.2 h2.1 h2.2 hfx hmf ▸ hx) hmk
      · simp only [List.mem_singleton] at hx
        subst hx
        exact ⟨hp.1, hp.2, hpf⟩
theorem newpar {R : RD} {V : Int → Int → UInt8} (h : RS0 R V) {r : Int} (hr : 0 ≤ r ∧ r < R.rw) {ks : List Int} (gw : Int → UInt8) (hw : WOk R.n r ks) {l : List Int} (hN : NeedR R.n R.f r ks l) (hp : R.f (par R.n r) = true) :
    xall (ks.map gw ++ l.map fun m => R.D m r) = xall ((dats R.n r).map (newV ks gw fun m => V m r)) := by
  have hl := need_on h hw hN
  have h1 : (l.map fun m => R.D m r) = l.map fun m => V m r := List.map_congr_left fun q hq => by
    have := hl.2 q hq
    exact h.dsk q r this.1 this.2.1 hr.1 hr.2 this.2.2
  rw [h1, xall_perm ((dats_cut h.G hw).map (newV ks gw fun m => V m r)), List.map_append, xall_append, xall_append]
  have h2 : ks.map (newV ks gw fun m => V m r) = ks.map gw := List.map_congr_left fun q hq => if_pos hq
  have h3 : ((dats R.n r).filter (· ∉ ks)).map (newV ks gw fun m => V m r) = ((dats R.n r).filter (· ∉ ks)).map fun m => V m r := List.map_congr_left fun q hq => if_neg (by simpa using (List.mem_filter.1 hq).2)
  rw [h2, h3]
  refine congrArg (xall (ks.map gw) ^^^ ·) ?_
  cases hN with
  | out hpf => rw [hp] at hpf; cases hpf
  | rest _ _ _ hl' => exact xall_perm (hl'.map _)
  | old _ _ _ hl' =>
    have hb := h.bal r hr.1 hr.2
    rw [xall_perm ((mems_perm h.G r).map _), List.map_cons, xall_cons, xall_perm ((dats_cut h.G hw).map _), List.map_append, xall_append] at hb
    have hv := xor_eq_of hb
    rw [xall_perm (hl'.map _), List.map_append, xall_append, List.map_cons, List.map_nil, xall_cons]
    have h0 : xall ([] : List UInt8) = 0 := rfl
    rw [h0, UInt8.xor_zero, ← hv, ← UInt8.xor_assoc, UInt8.xor_self, UInt8.zero_xor]

theorem hp_congr (R : RD) {F F' : Hp} (h : F.Perm F') : (R.hp F).Perm (R.hp F') := List.Perm.cons _ (List.Perm.cons _ (List.Perm.cons _ (List.Perm.append_left _ h)))
theorem rneeds_spec (R : RD) (hG : R.G) (ho : OneOut R.n R.f) (F : Hp) (r : Int) (hr : 0 ≤ r ∧ r < R.rw) (b : Nat) (ks : List Int) (g : Int → UInt8) (hw : WOk R.n r ks) :
    Ctr Try.prog 94 [.agg ⟨geo R.lv R.n R.rw⟩, int r, .agg ⟨ins R.f⟩, .map (some b)] (R.hp ((b, mrow int (wmap ks g)) :: F)) (fun v L' => ∃ u l fr, v = .tuple #[u, int 0] ∧ NeedR R.n R.f r ks l ∧ SlF 3 1 u l.length (l.map int) fr ∧ L' = R.hp (fr ++ ((b, mrow int (wmap ks g)) :: F))) :=
  Ctr.re (hp_in R _ _) (needs_spec (R.hp F) hG R.f ho r hr b ks g hw) (by
    rintro v _ ⟨u, l, fr, hv, hN, hS, rfl⟩
    exact ⟨_, ⟨u, l, fr, hv, hN, hS, rfl⟩, (List.Perm.append_left fr (hp_in R _ _).symm).trans (hp_inL R _ _).symm⟩)
theorem rmakes_spec (R : RD) (hG : R.G) (ho : OneOut R.n R.f) (F fr : Hp) (r : Int) (hr : 0 ≤ r ∧ r < R.rw) (b bg : Nat) (ks : List Int) (gw gg : Int → UInt8) (lg : List (Int × Value)) (hw : WOk R.n r ks) (hg : ∀ l, NeedR R.n R.f r ks l → Got lg l gg) :
    Ctr Try.prog 95 [.agg ⟨geo R.lv R.n R.rw⟩, int r, .agg ⟨ins R.f⟩, .map (some b), .map (some bg)] (R.hp ((bg, mrow int lg) :: (fr ++ ((b, mrow int (wmap ks gw)) :: F))))
      (fun v L' => ∃ bo ko go l, v = .tuple #[.map (some bo), int 0] ∧ NeedR R.n R.f r ks l ∧ MkR R.n R.f r ks gw (xall (ks.map gw ++ l.map gg)) ko go ∧ L' = R.hp ((bo, mrow int (wmap ko go)) :: (b, mrow int (wmap ks gw)) :: (bg, mrow int lg) :: (fr ++ F))) :=
  Ctr.re ((hp_in R _ _).trans ((List.Perm.cons _ ((hp_congr R perm_mid).trans (hp_in R _ _))).trans Go.SL.p1)) (makes_spec (R.hp (fr ++ F)) hG R.f ho r hr b bg ks gw gg lg hw hg) (by
    rintro v _ ⟨bo, ko, go, l, hv, hN, hM, rfl⟩
    exact ⟨_, ⟨bo, ko, go, l, hv, hN, hM, rfl⟩, ((hp_in R _ _).trans (List.Perm.cons _ ((hp_in R _ _).trans (List.Perm.cons _ (hp_in R _ _))))).symm⟩)

theorem makes'_spec (R : RD) (V : Int → Int → UInt8) (h : RS0 R V) (F : Hp) (r : Int) (hr : 0 ≤ r ∧ r < R.rw) (b : Nat) (ks : List Int) (gw : Int → UInt8) (hw : WOk R.n r ks) :
    Ctr Try.prog 43 [ptr R.bx 0, int r, .map (some b)] (R.hp ((b, mrow int (wmap ks gw)) :: F))
      (fun v L' => ∃ bo ko go, v = .tuple #[.map (some bo), .bool true] ∧ MkR R.n R.f r ks gw (xall ((dats R.n r).map (newV ks gw fun m => V m r))) ko go ∧ L' = R.hp ((bo, mrow int (wmap ko go)) :: F)) := by
  have hG := h.G
  have hn := hG.mem3
  have hK : ∀ {bo : Nat} {ko : List Int} {go : Int → UInt8} {l : List Int}, NeedR R.n R.f r ks l → MkR R.n R.f r ks gw (xall (ks.map gw ++ l.map fun m => R.D m r)) ko go → MkR R.n R.f r ks gw (xall ((dats R.n r).map (newV ks gw fun m => V m r))) ko go := fun {_ ko go l} hN hM =>
    ⟨hM.nodup, hM.mem, hM.dat_, fun hp => by rw [← newpar h hr gw hw hN hp]; exact hM.par_ hp⟩
  refine spec_body Try.func43 Try.ntmps43 rfl rfl ?_
  refine wc_seq ?_
  refine wc_region ?_
  refine wl_pu (y_assign rfl) rfl ?_
  refine wl_pu (y_assign rfl) rfl ?_
  refine wl_nil ?_
  refine at_then ?_
  refine wc_join (σ := Value × List Int × Hp) (fun s => NeedR R.n R.f r ks s.2.1 ∧ SlF 3 1 s.1 s.2.1.length (s.2.1.map int) s.2.2) (fun s => [(0, ptr R.bx 0), (1, int r), (2, .map (some b)), (8, s.1), (9, int 0)]) (fun s => R.hp (s.2.2 ++ ((b, mrow int (wmap ks gw)) :: F))) ?_ ?_
  · skip
    refine wc_anyN (by kernel_rfl) ?_
    refine wy_pu (i := 0) rfl (by kernel_rfl) (y_move rfl) rfl ?_
    refine wy_pu (i := 1) rfl (by kernel_rfl) (y_nil rfl) rfl ?_
    first | refine wy_pu (i := 2) rfl (by kernel_rfl) (y_fieldAddr0 0 Try.underlying98 rfl rfl (by kernel_rfl) rfl) rfl ?_ | refine wy_pu (i := 2) rfl (by kernel_rfl) (y_fieldAddr 0 Try.underlying98 rfl rfl (by kernel_rfl) rfl) rfl ?_
    refine wy_pu (i := 4) rfl (by kernel_rfl) (y_move rfl) rfl ?_
    refine wy_pu (i := 5) rfl (by kernel_rfl) (y_move rfl) rfl ?_
    refine wy_pu (i := 6) rfl (by kernel_rfl) (y_nil rfl) rfl ?_
    first | refine wy_pu (i := 7) rfl (by kernel_rfl) (y_fieldAddr0 4 Try.underlying98 rfl rfl (by kernel_rfl) rfl) rfl ?_ | refine wy_pu (i := 7) rfl (by kernel_rfl) (y_fieldAddr 4 Try.underlying98 rfl rfl (by kernel_rfl) rfl) rfl ?_
    refine wy_pu (i := 9) rfl (by kernel_rfl) (y_move rfl) rfl ?_
    refine wy_2 (i := 3) (j := 8) (by kernel_rfl) ?_ ?_
    · skip
      refine wo_rd rfl (y_loadAgg (k := 3) (vs := geo R.lv R.n R.rw) 0 rfl rfl rfl rfl (by kernel_rfl) (by kernel_rfl)) rfl ?_
      refine wy_1 (i := 8) (by kernel_rfl) ?_
      refine wo_rd rfl (y_loadAgg (k := 4) (vs := ins R.f) 0 rfl rfl rfl rfl (by kernel_rfl) (by kernel_rfl)) rfl ?_
      refine wy_1 (i := 10) (by kernel_rfl) ?_
      refine wo_do rfl (d_call (by kernel_rfl) rfl (rneeds_spec R hG h.one F r hr b ks gw hw)) rfl ?_
      rintro _ _ ⟨u, l, fr, rfl, hN, hS, rfl⟩
      refine wy_pu (i := 11) rfl (by kernel_rfl) (y_move rfl) rfl ?_
      refine wy_pu (i := 12) rfl (by kernel_rfl) (y_extract rfl rfl) rfl ?_
      refine wy_pu (i := 13) rfl (by kernel_rfl) (y_extract rfl rfl) rfl ?_
      refine wy_pu (i := 14) rfl (by kernel_rfl) (y_assign rfl) rfl ?_
      refine wy_pu (i := 15) rfl (by kernel_rfl) (y_assign rfl) rfl ?_
      refine wy_nil (by kernel_rfl) ?_
      refine at_nq ?_
      exact at_join (u, l, fr) ⟨hN, hS⟩ ⟨rfl, rfl, rfl, rfl, rfl, trivial⟩ rfl
    · skip
      refine wo_rd rfl (y_loadAgg (k := 4) (vs := ins R.f) 0 rfl rfl rfl rfl (by kernel_rfl) (by kernel_rfl)) rfl ?_
      refine wy_1 (i := 3) (by kernel_rfl) ?_
      refine wo_rd rfl (y_loadAgg (k := 3) (vs := geo R.lv R.n R.rw) 0 rfl rfl rfl rfl (by kernel_rfl) (by kernel_rfl)) rfl ?_
      refine wy_1 (i := 10) (by kernel_rfl) ?_
      refine wo_do rfl (d_call (by kernel_rfl) rfl (rneeds_spec R hG h.one F r hr b ks gw hw)) rfl ?_
      rintro _ _ ⟨u, l, fr, rfl, hN, hS, rfl⟩
      refine wy_pu (i := 11) rfl (by kernel_rfl) (y_move rfl) rfl ?_
      refine wy_pu (i := 12) rfl (by kernel_rfl) (y_extract rfl rfl) rfl ?_
      refine wy_pu (i := 13) rfl (by kernel_rfl) (y_extract rfl rfl) rfl ?_
      refine wy_pu (i := 14) rfl (by kernel_rfl) (y_assign rfl) rfl ?_
      refine wy_pu (i := 15) rfl (by kernel_rfl) (y_assign rfl) rfl ?_
      refine wy_nil (by kernel_rfl) ?_
      refine at_nq ?_
      exact at_join (u, l, fr) ⟨hN, hS⟩ ⟨rfl, rfl, rfl, rfl, rfl, trivial⟩ rfl
  · skip
    rintro ⟨u, l, fr⟩ ⟨hN, hS⟩
    simp only [] at hN hS
    show WC _ _ _ _ [(0, ptr R.bx 0), (1, int r), (2, .map (some b)), (8, u), (9, int 0)] (R.hp (fr ++ ((b, mrow int (wmap ks gw)) :: F)))
    have hon := need_on h hw hN
    have hgot : ∀ l', NeedR R.n R.f r ks l' → Got (wmap l fun m => R.D m r) l' (fun m => R.D m r) := fun l' hN' => by
      have h4 : ∀ x ∈ l', x ∈ l := by
        cases hN with
        | out hp1 => cases hN' with
          | out => simp
          | rest hp2 => rw [hp1] at hp2; cases hp2
          | old hp2 => rw [hp1] at hp2; cases hp2
        | rest hp1 ha _ hl => cases hN' with
          | out => simp
          | rest _ _ _ hl' => exact fun x hx => hl.mem_iff.2 (hl'.mem_iff.1 hx)
          | old _ ha' =>
            obtain ⟨m, hm, hmk, hmf⟩ := ha'
            rw [ha m hm hmk] at hmf; cases hmf
        | old hp1 ha _ hl => cases hN' with
          | out => simp
          | rest _ ha' =>
            obtain ⟨m, hm, hmk, hmf⟩ := ha
            rw [ha' m hm hmk] at hmf; cases hmf
          | old _ _ _ hl' => exact fun x hx => hl.mem_iff.2 (hl'.mem_iff.1 hx)
      exact ⟨wmap_ok _ hon.1 (fun k hk => by have := hon.2 k hk; omega), fun k hk => wmap_mem (h4 k hk), fun k hk => by have := hon.2 k (h4 k hk); omega⟩
    refine wc_seq ?_
    -- at: draw
    refine wc_anyN (by kernel_rfl) ?_
    refine wy_pu (i := 0) rfl (by kernel_rfl) (y_move rfl) rfl ?_
    refine wy_pu (i := 1) rfl (by kernel_rfl) (y_nil rfl) rfl ?_
    first | refine wy_pu (i := 2) rfl (by kernel_rfl) (y_fieldAddr0 0 Try.underlying98 rfl rfl (by kernel_rfl) rfl) rfl ?_ | refine wy_pu (i := 2) rfl (by kernel_rfl) (y_fieldAddr 0 Try.underlying98 rfl rfl (by kernel_rfl) rfl) rfl ?_
    refine wy_pu (i := 4) rfl (by kernel_rfl) (y_move rfl) rfl ?_
    refine wy_pu (i := 5) rfl (by kernel_rfl) (y_move rfl) rfl ?_
    refine wy_pu (i := 6) rfl (by kernel_rfl) (y_nil rfl) rfl ?_
    first | refine wy_pu (i := 7) rfl (by kernel_rfl) (y_fieldAddr0 4 Try.underlying98 rfl rfl (by kernel_rfl) rfl) rfl ?_ | refine wy_pu (i := 7) rfl (by kernel_rfl) (y_fieldAddr 4 Try.underlying98 rfl rfl (by kernel_rfl) rfl) rfl ?_
    refine wy_pu (i := 9) rfl (by kernel_rfl) (y_move rfl) rfl ?_
    refine wy_pu (i := 10) rfl (by kernel_rfl) (y_move rfl) rfl ?_
    refine wy_pu (i := 11) rfl (by kernel_rfl) (y_move rfl) rfl ?_
    refine wy_pu (i := 12) rfl (by kernel_rfl) (y_move rfl) rfl ?_
    refine wy_3 (i := 3) (j := 8) (k := 13) (by kernel_rfl) ?_ ?_ ?_
    · skip
      refine wo_rd rfl (y_loadAgg (k := 3) (vs := geo R.lv R.n R.rw) 0 rfl rfl rfl rfl (by kernel_rfl) (by kernel_rfl)) rfl ?_
      refine wy_2 (i := 8) (j := 13) (by kernel_rfl) ?_ ?_
      · skip
        refine wo_rd rfl (y_loadAgg (k := 4) (vs := ins R.f) 0 rfl rfl rfl rfl (by kernel_rfl) (by kernel_rfl)) rfl ?_
        refine wy_1 (i := 13) (by kernel_rfl) ?_
        refine wo_do rfl (d_call (by kernel_rfl) rfl (rgot_spec R hG ((b, mrow int (wmap ks gw)) :: F) r hr hS hon.1 hon.2)) rfl ?_
        rintro _ _ ⟨bg, rfl, rfl⟩
        refine wy_1 (i := 14) (by kernel_rfl) ?_
        refine wo_do rfl (d_call (by kernel_rfl) rfl (rmakes_spec R hG h.one F fr r hr b bg ks gw (fun m => R.D m r) _ hw hgot)) rfl ?_
        rintro _ _ ⟨bo, ko, go, l', rfl, hN', hM, rfl⟩
        refine wy_pu (i := 15) rfl (by kernel_rfl) (y_move rfl) rfl ?_
        refine wy_pu (i := 16) rfl (by kernel_rfl) (y_extract rfl rfl) rfl ?_
        refine wy_pu (i := 17) rfl (by kernel_rfl) (y_extract rfl rfl) rfl ?_
        refine wy_pu (i := 18) rfl (by kernel_rfl) (y_assign rfl) rfl ?_
        refine wy_pu (i := 19) rfl (by kernel_rfl) (y_assign rfl) rfl ?_
        refine wy_nil (by kernel_rfl) ?_
        refine at_nq ?_
        refine at_then ?_
        refine wc_seq ?_
        refine wc_region ?_
        refine wl_pu (y_move rfl) rfl ?_
        refine wl_pu (y_move rfl) rfl ?_
        refine wl_pu (y_eql rfl rfl) rfl ?_
        refine wl_pu (y_move rfl) rfl ?_
        refine wl_splitD 47 rfl (fun _ => ?_) (fun hc => absurd ((by omega)) hc)
        refine wl_gon rfl rfl ?_
        refine wl_pu (y_move rfl) rfl ?_
        refine wl_gon rfl rfl ?_
        refine wl_pu (y_eql rfl rfl) rfl ?_
        first | refine wl_pu (y_pickT rfl rfl) rfl ?_ | refine wl_pu (y_pickF rfl rfl) rfl ?_
        refine wl_pu (y_assign rfl) rfl ?_
        refine wl_pu (y_assign rfl) rfl ?_
        refine wl_nil ?_
        refine at_then ?_
        refine wc_ret ?_
        -- at: ret
        refine at_perm (hp_congr R (Go.SL.p2.symm)) (at_hpdrop (at_hpdrop ?_))
        refine at_perm (hp_congr R perm_mid.symm) (at_hpdropL ?_)
        refine at_ret2 rfl rfl rfl ?_
        exact ⟨bo, ko, go, rfl, hK (bo := bo) hN' hM, rfl⟩
      · skip
        refine wo_do rfl (d_call (by kernel_rfl) rfl (rgot_spec R hG ((b, mrow int (wmap ks gw)) :: F) r hr hS hon.1 hon.2)) rfl ?_
        rintro _ _ ⟨bg, rfl, rfl⟩
        refine wy_1 (i := 8) (by kernel_rfl) ?_
        refine wo_rd rfl (y_loadAgg (k := 4) (vs := ins R.f) 0 rfl rfl rfl rfl (by kernel_rfl) (by kernel_rfl)) rfl ?_
        refine wy_1 (i := 14) (by kernel_rfl) ?_
        refine wo_do rfl (d_call (by kernel_rfl) rfl (rmakes_spec R hG h.one F fr r hr b bg ks gw (fun m => R.D m r) _ hw hgot)) rfl ?_
        rintro _ _ ⟨bo, ko, go, l', rfl, hN', hM, rfl⟩
        refine wy_pu (i := 15) rfl (by kernel_rfl) (y_move rfl) rfl ?_
        refine wy_pu (i := 16) rfl (by kernel_rfl) (y_extract rfl rfl) rfl ?_
        refine wy_pu (i := 17) rfl (by kernel_rfl) (y_extract rfl rfl) rfl ?_
        refine wy_pu (i := 18) rfl (by kernel_rfl) (y_assign rfl) rfl ?_
        refine wy_pu (i := 19) rfl (by kernel_rfl) (y_assign rfl) rfl ?_
        refine wy_nil (by kernel_rfl) ?_
        refine at_nq ?_
        refine at_then ?_
        refine wc_seq ?_
        refine wc_region ?_
        refine wl_pu (y_move rfl) rfl ?_
        refine wl_pu (y_move rfl) rfl ?_
        refine wl_pu (y_eql rfl rfl) rfl ?_
        refine wl_pu (y_move rfl) rfl ?_
        refine wl_splitD 47 rfl (fun _ => ?_) (fun hc => absurd ((by omega)) hc)
        refine wl_gon rfl rfl ?_
        refine wl_pu (y_move rfl) rfl ?_
        refine wl_gon rfl rfl ?_
        refine wl_pu (y_eql rfl rfl) rfl ?_
        first | refine wl_pu (y_pickT rfl rfl) rfl ?_ | refine wl_pu (y_pickF rfl rfl) rfl ?_
        refine wl_pu (y_assign rfl) rfl ?_
        refine wl_pu (y_assign rfl) rfl ?_
        refine wl_nil ?_
        refine at_then ?_
        refine wc_ret ?_
        -- at: ret
        refine at_perm (hp_congr R (Go.SL.p2.symm)) (at_hpdrop (at_hpdrop ?_))
        refine at_perm (hp_congr R perm_mid.symm) (at_hpdropL ?_)
        refine at_ret2 rfl rfl rfl ?_
        exact ⟨bo, ko, go, rfl, hK (bo := bo) hN' hM, rfl⟩
    · skip
      refine wo_rd rfl (y_loadAgg (k := 4) (vs := ins R.f) 0 rfl rfl rfl rfl (by kernel_rfl) (by kernel_rfl)) rfl ?_
      refine wy_2 (i := 3) (j := 13) (by kernel_rfl) ?_ ?_
      · skip
        refine wo_rd rfl (y_loadAgg (k := 3) (vs := geo R.lv R.n R.rw) 0 rfl rfl rfl rfl (by kernel_rfl) (by kernel_rfl)) rfl ?_
        refine wy_1 (i := 13) (by kernel_rfl) ?_
        refine wo_do rfl (d_call (by kernel_rfl) rfl (rgot_spec R hG ((b, mrow int (wmap ks gw)) :: F) r hr hS hon.1 hon.2)) rfl ?_
        rintro _ _ ⟨bg, rfl, rfl⟩
        refine wy_1 (i := 14) (by kernel_rfl) ?_
        refine wo_do rfl (d_call (by kernel_rfl) rfl (rmakes_spec R hG h.one F fr r hr b bg ks gw (fun m => R.D m r) _ hw hgot)) rfl ?_
        rintro _ _ ⟨bo, ko, go, l', rfl, hN', hM, rfl⟩
        refine wy_pu (i := 15) rfl (by kernel_rfl) (y_move rfl) rfl ?_
        refine wy_pu (i := 16) rfl (by kernel_rfl) (y_extract rfl rfl) rfl ?_
        refine wy_pu (i := 17) rfl (by kernel_rfl) (y_extract rfl rfl) rfl ?_
        refine wy_pu (i := 18) rfl (by kernel_rfl) (y_assign rfl) rfl ?_
        refine wy_pu (i := 19) rfl (by kernel_rfl) (y_assign rfl) rfl ?_
        refine wy_nil (by kernel_rfl) ?_
        refine at_nq ?_
        refine at_then ?_
        refine wc_seq ?_
        refine wc_region ?_
        refine wl_pu (y_move rfl) rfl ?_
        refine wl_pu (y_move rfl) rfl ?_
        refine wl_pu (y_eql rfl rfl) rfl ?_
        refine wl_pu (y_move rfl) rfl ?_
        refine wl_splitD 47 rfl (fun _ => ?_) (fun hc => absurd ((by omega)) hc)
        refine wl_gon rfl rfl ?_
        refine wl_pu (y_move rfl) rfl ?_
        refine wl_gon rfl rfl ?_
        refine wl_pu (y_eql rfl rfl) rfl ?_
        first | refine wl_pu (y_pickT rfl rfl) rfl ?_ | refine wl_pu (y_pickF rfl rfl) rfl ?_
        refine wl_pu (y_assign rfl) rfl ?_
        refine wl_pu (y_assign rfl) rfl ?_
        refine wl_nil ?_
        refine at_then ?_
        refine wc_ret ?_
        -- at: ret
        refine at_perm (hp_congr R (Go.SL.p2.symm)) (at_hpdrop (at_hpdrop ?_))
        refine at_perm (hp_congr R perm_mid.symm) (at_hpdropL ?_)
        refine at_ret2 rfl rfl rfl ?_
        exact ⟨bo, ko, go, rfl, hK (bo := bo) hN' hM, rfl⟩
      · skip
        refine wo_do rfl (d_call (by kernel_rfl) rfl (rgot_spec R hG ((b, mrow int (wmap ks gw)) :: F) r hr hS hon.1 hon.2)) rfl ?_
        rintro _ _ ⟨bg, rfl, rfl⟩
        refine wy_1 (i := 3) (by kernel_rfl) ?_
        refine wo_rd rfl (y_loadAgg (k := 3) (vs := geo R.lv R.n R.rw) 0 rfl rfl rfl rfl (by kernel_rfl) (by kernel_rfl)) rfl ?_
        refine wy_1 (i := 14) (by kernel_rfl) ?_
        refine wo_do rfl (d_call (by kernel_rfl) rfl (rmakes_spec R hG h.one F fr r hr b bg ks gw (fun m => R.D m r) _ hw hgot)) rfl ?_
        rintro _ _ ⟨bo, ko, go, l', rfl, hN', hM, rfl⟩
        refine wy_pu (i := 15) rfl (by kernel_rfl) (y_move rfl) rfl ?_
        refine wy_pu (i := 16) rfl (by kernel_rfl) (y_extract rfl rfl) rfl ?_
        refine wy_pu (i := 17) rfl (by kernel_rfl) (y_extract rfl rfl) rfl ?_
        refine wy_pu (i := 18) rfl (by kernel_rfl) (y_assign rfl) rfl ?_
        refine wy_pu (i := 19) rfl (by kernel_rfl) (y_assign rfl) rfl ?_
        refine wy_nil (by kernel_rfl) ?_
        refine at_nq ?_
        refine at_then ?_
        refine wc_seq ?_
        refine wc_region ?_
        refine wl_pu (y_move rfl) rfl ?_
        refine wl_pu (y_move rfl) rfl ?_
        refine wl_pu (y_eql rfl rfl) rfl ?_
        refine wl_pu (y_move rfl) rfl ?_
        refine wl_splitD 47 rfl (fun _ => ?_) (fun hc => absurd ((by omega)) hc)
        refine wl_gon rfl rfl ?_
        refine wl_pu (y_move rfl) rfl ?_
        refine wl_gon rfl rfl ?_
        refine wl_pu (y_eql rfl rfl) rfl ?_
        first | refine wl_pu (y_pickT rfl rfl) rfl ?_ | refine wl_pu (y_pickF rfl rfl) rfl ?_
        refine wl_pu (y_assign rfl) rfl ?_
        refine wl_pu (y_assign rfl) rfl ?_
        refine wl_nil ?_
        refine at_then ?_
        refine wc_ret ?_
        -- at: ret
        refine at_perm (hp_congr R (Go.SL.p2.symm)) (at_hpdrop (at_hpdrop ?_))
        refine at_perm (hp_congr R perm_mid.symm) (at_hpdropL ?_)
        refine at_ret2 rfl rfl rfl ?_
        exact ⟨bo, ko, go, rfl, hK (bo := bo) hN' hM, rfl⟩
    · skip
      refine wo_do rfl (d_call (by kernel_rfl) rfl (rgot_spec R hG ((b, mrow int (wmap ks gw)) :: F) r hr hS hon.1 hon.2)) rfl ?_
      rintro _ _ ⟨bg, rfl, rfl⟩
      refine wy_2 (i := 3) (j := 8) (by kernel_rfl) ?_ ?_
      · skip
        refine wo_rd rfl (y_loadAgg (k := 3) (vs := geo R.lv R.n R.rw) 0 rfl rfl rfl rfl (by kernel_rfl) (by kernel_rfl)) rfl ?_
        refine wy_1 (i := 8) (by kernel_rfl) ?_
        refine wo_rd rfl (y_loadAgg (k := 4) (vs := ins R.f) 0 rfl rfl rfl rfl (by kernel_rfl) (by kernel_rfl)) rfl ?_
        refine wy_1 (i := 14) (by kernel_rfl) ?_
        refine wo_do rfl (d_call (by kernel_rfl) rfl (rmakes_spec R hG h.one F fr r hr b bg ks gw (fun m => R.D m r) _ hw hgot)) rfl ?_
        rintro _ _ ⟨bo, ko, go, l', rfl, hN', hM, rfl⟩
        refine wy_pu (i := 15) rfl (by kernel_rfl) (y_move rfl) rfl ?_
        refine wy_pu (i := 16) rfl (by kernel_rfl) (y_extract rfl rfl) rfl ?_
        refine wy_pu (i := 17) rfl (by kernel_rfl) (y_extract rfl rfl) rfl ?_
        refine wy_pu (i := 18) rfl (by kernel_rfl) (y_assign rfl) rfl ?_
        refine wy_pu (i := 19) rfl (by kernel_rfl) (y_assign rfl) rfl ?_
        refine wy_nil (by kernel_rfl) ?_
        refine at_nq ?_
        refine at_then ?_
        refine wc_seq ?_
        refine wc_region ?_
        refine wl_pu (y_move rfl) rfl ?_
        refine wl_pu (y_move rfl) rfl ?_
        refine wl_pu (y_eql rfl rfl) rfl ?_
        refine wl_pu (y_move rfl) rfl ?_
        refine wl_splitD 47 rfl (fun _ => ?_) (fun hc => absurd ((by omega)) hc)
        refine wl_gon rfl rfl ?_
        refine wl_pu (y_move rfl) rfl ?_
        refine wl_gon rfl rfl ?_
        refine wl_pu (y_eql rfl rfl) rfl ?_
        first | refine wl_pu (y_pickT rfl rfl) rfl ?_ | refine wl_pu (y_pickF rfl rfl) rfl ?_
        refine wl_pu (y_assign rfl) rfl ?_
        refine wl_pu (y_assign rfl) rfl ?_
        refine wl_nil ?_
        refine at_then ?_
        refine wc_ret ?_
        -- at: ret
        refine at_perm (hp_congr R (Go.SL.p2.symm)) (at_hpdrop (at_hpdrop ?_))
        refine at_perm (hp_congr R perm_mid.symm) (at_hpdropL ?_)
        refine at_ret2 rfl rfl rfl ?_
        exact ⟨bo, ko, go, rfl, hK (bo := bo) hN' hM, rfl⟩
      · skip
        refine wo_rd rfl (y_loadAgg (k := 4) (vs := ins R.f) 0 rfl rfl rfl rfl (by kernel_rfl) (by kernel_rfl)) rfl ?_
        refine wy_1 (i := 3) (by kernel_rfl) ?_
        refine wo_rd rfl (y_loadAgg (k := 3) (vs := geo R.lv R.n R.rw) 0 rfl rfl rfl rfl (by kernel_rfl) (by kernel_rfl)) rfl ?_
        refine wy_1 (i := 14) (by kernel_rfl) ?_
        refine wo_do rfl (d_call (by kernel_rfl) rfl (rmakes_spec R hG h.one F fr r hr b bg ks gw (fun m => R.D m r) _ hw hgot)) rfl ?_
        rintro _ _ ⟨bo, ko, go, l', rfl, hN', hM, rfl⟩
        refine wy_pu (i := 15) rfl (by kernel_rfl) (y_move rfl) rfl ?_
        refine wy_pu (i := 16) rfl (by kernel_rfl) (y_extract rfl rfl) rfl ?_
        refine wy_pu (i := 17) rfl (by kernel_rfl) (y_extract rfl rfl) rfl ?_
        refine wy_pu (i := 18) rfl (by kernel_rfl) (y_assign rfl) rfl ?_
        refine wy_pu (i := 19) rfl (by kernel_rfl) (y_assign rfl) rfl ?_
        refine wy_nil (by kernel_rfl) ?_
        refine at_nq ?_
        refine at_then ?_
        refine wc_seq ?_
        refine wc_region ?_
        refine wl_pu (y_move rfl) rfl ?_
        refine wl_pu (y_move rfl) rfl ?_
        refine wl_pu (y_eql rfl rfl) rfl ?_
        refine wl_pu (y_move rfl) rfl ?_
        refine wl_splitD 47 rfl (fun _ => ?_) (fun hc => absurd ((by omega)) hc)
        refine wl_gon rfl rfl ?_
        refine wl_pu (y_move rfl) rfl ?_
        refine wl_gon rfl rfl ?_
        refine wl_pu (y_eql rfl rfl) rfl ?_
        first | refine wl_pu (y_pickT rfl rfl) rfl ?_ | refine wl_pu (y_pickF rfl rfl) rfl ?_
        refine wl_pu (y_assign rfl) rfl ?_
        refine wl_pu (y_assign rfl) rfl ?_
        refine wl_nil ?_
        refine at_then ?_
        refine wc_ret ?_
        -- at: ret
        refine at_perm (hp_congr R (Go.SL.p2.symm)) (at_hpdrop (at_hpdrop ?_))
        refine at_perm (hp_congr R perm_mid.symm) (at_hpdropL ?_)
        refine at_ret2 rfl rfl rfl ?_
        exact ⟨bo, ko, go, rfl, hK (bo := bo) hN' hM, rfl⟩
end Go.Proofs.Ytkpndnjhfocheaa
