/- A raid in memory; what it has of a row. -/
import Derived.Test.YtkpndnjhfocheaaRaidI
namespace Go.Proofs.Ytkpndnjhfocheaa
open Go.SL
variable {X : Inhabited SL.Outside}

/-- A raid, and its blocks. -/
structure RD where
  lv : Int
  n : Nat
  rw : Nat
  bx : Nat
  bd : Nat
  bp : Nat
  cd : Nat
  spd : List Value
  bk : Nat → Nat
  f : Int → Bool
  D : Int → Int → UInt8
  P : Int → UInt8
def drow (k : Nat) (d : Int → UInt8) : List Value := frow k fun r => S (rep (d r))
theorem drow_at {k : Nat} (d : Int → UInt8) {r : Nat} (h : r < k) : nth (drow k d) r = some (S (rep (d r))) := frow_at (fun r => S (rep (d r))) h
theorem drow_len (k : Nat) (d : Int → UInt8) : (drow k d).length = k := frow_len _ _
def RD.sz (R : RD) : Nat := R.rw * (R.n - 1)
abbrev RD.rec_ (R : RD) : List Value := [int R.lv, int R.n, int R.rw, sl R.bd 0 R.n R.cd, .bool (R.f 0), .bool (R.f 1), .bool (R.f 2), .bool (R.f 3), sl R.bp 0 R.sz R.sz]
def RD.disks (R : RD) : List Value := frow R.n (fun m => sl (R.bk m) 0 R.rw R.rw) ++ R.spd
def RD.dks (R : RD) : Hp := (List.range R.n).map fun m : Nat => (R.bk m, row 9 (drow R.rw (R.D m)))
abbrev RD.hp (R : RD) (F : Hp) : Hp := (R.bx, row 98 R.rec_) :: (R.bd, row 36 R.disks) :: (R.bp, row 9 (drow R.sz R.P)) :: (R.dks ++ F)

theorem RD.in_nth (R : RD) {m : Int} (h : 0 ≤ m ∧ m < 4) : nth R.rec_ (4 + m.toNat * 1) = some (.bool (R.f m)) := by
  have : m = 0 ∨ m = 1 ∨ m = 2 ∨ m = 3 := by omega
  rcases this with rfl | rfl | rfl | rfl <;> rfl
theorem RD.disk_nth (R : RD) {m : Nat} (h : m < R.n) : nth R.disks m = some (sl (R.bk m) 0 R.rw R.rw) := by
  rw [nth_eq, RD.disks, List.getElem?_append_left (by rw [frow_len]; exact h), ← nth_eq]
  exact frow_at (fun m => sl (R.bk m) 0 R.rw R.rw) h
theorem RD.dk_nth (R : RD) {m : Nat} (h : m < R.n) (F : Hp) : nth (R.dks ++ F) m = some (R.bk m, row 9 (drow R.rw (R.D m))) := by
  rw [nth_eq, List.getElem?_append_left (by simpa [RD.dks] using h)]
  simp [RD.dks, h]
theorem setAt_eq : ∀ {L : Hp} {i b : Nat} {o0 : Obj} (o : Obj), nth L i = some (b, o0) → setAt L i o = L.set i (b, o)
  | [], _, _, _, _, h => by simp [nth] at h
  | (c, u) :: r, 0, b, o0, o, h => by
    simp only [nth, Option.some.injEq, Prod.mk.injEq] at h
    obtain ⟨rfl, rfl⟩ := h
    rfl
  | x :: r, i + 1, b, o0, o, h => by
    show x :: setAt r i o = x :: r.set i (b, o)
    rw [setAt_eq o (by simpa [nth] using h)]
theorem rmap_set {α : Type} {n : Nat} (g : Nat → α) {i : Nat} (x : α) : ((List.range n).map g).set i x = (List.range n).map (upf g i x) := by
  apply List.ext_getElem?
  intro q
  rw [List.getElem?_set]
  by_cases hq : q < n
  · by_cases e : i = q
    · subst e; simp [hq, upf]
    · simp [hq, upf, e, Ne.symm e]
  · simp [hq]
    omega
/-- Another sector there. -/
def RD.put (R : RD) (m r : Int) (x : UInt8) : RD := { R with D := fun a c => if a = m ∧ c = r then x else R.D a c }
theorem drow_set {k : Nat} (d : Int → UInt8) {r : Nat} (x : UInt8) : (drow k d).set r (S (rep x)) = drow k fun c => if c = r then x else d c := by
  unfold drow
  rw [frow_set]
  refine frow_congr fun q _ => ?_
  by_cases e : q = r
  · subst e; simp [upf_self]
  · have : ¬ ((q : Int) = (r : Int)) := by omega
    simp [upf_ne _ _ e, this]
theorem RD.dk_set (R : RD) {m r : Nat} (h : m < R.n) (F : Hp) (x : UInt8) : setAt (R.dks ++ F) m (row 9 ((drow R.rw (R.D m)).set r (S (rep x)))) = (R.put m r x).dks ++ F := by
  rw [setAt_eq _ (R.dk_nth h F), List.set_append_left _ _ (by simpa [RD.dks] using h)]
  refine congrArg (· ++ F) ?_
  unfold RD.dks
  rw [rmap_set]
  refine List.map_congr_left fun q _ => ?_
  by_cases e : q = m
  · subst e
    rw [upf_self, drow_set]
    show (R.bk q, row 9 _) = (R.bk q, row 9 _)
    refine congrArg (fun z => (R.bk q, row 9 (drow R.rw z))) ?_
    funext c
    simp [RD.put]
  · rw [upf_ne _ _ e]
    show (R.bk q, row 9 _) = (R.bk q, row 9 _)
    refine congrArg (fun z => (R.bk q, row 9 (drow R.rw z))) ?_
    funext c
    have : ¬ ((q : Int) = (m : Int)) := by omega
    simp [RD.put, this]

theorem frR {fr A F : Hp} {x y z : Nat × Obj} : (fr ++ (x :: y :: z :: (A ++ F))).Perm (x :: y :: z :: (A ++ (fr ++ F))) :=
  perm_mid.trans (List.Perm.cons _ (perm_mid.trans (List.Perm.cons _ (perm_mid.trans (List.Perm.cons _ (List.perm_append_comm_assoc _ _ _))))))

/-- The shape is right. -/
abbrev RD.G (R : RD) : Prop := GOk R.lv R.n R.rw

theorem got_spec (R : RD) (hG : R.G) (F : Hp) (r : Int) (hr : 0 ≤ r ∧ r < R.rw) {v : Value} {xs : List Int} {fr : Hp} (hS : SlF 3 1 v xs.length (xs.map int) fr) (hnd : xs.Nodup) (hx : ∀ x ∈ xs, 0 ≤ x ∧ x < R.n ∧ R.f x = true) :
    Ctr Try.prog 89 [ptr R.bx 0, int r, v] (fr ++ R.hp F) (fun u L' => ∃ bo, u = .map (some bo) ∧ L' = (bo, mrow int (wmap xs fun m => R.D m r)) :: (fr ++ R.hp F)) := by
  have hn := hG.mem3
  have hhi := hG.hi
  have hxl : xs.length ≤ 4 := by
    have := nodup_len (l := (List.range R.n).map fun q : Nat => (q : Int)) hnd (fun k hk => by
      have := hx k hk
      exact List.mem_map.2 ⟨k.toNat, List.mem_range.2 (by omega), by omega⟩)
    simp at this
    omega
  generalize hk : xs.length = k at hS
  generalize hc : xs.map int = cs at hS
  cases hS with
  | nil =>
    have hx : xs = [] := List.map_eq_nil_iff.1 hc
    subst hx
    refine spec_body Try.func89 Try.ntmps89 rfl rfl ?_
    refine wc_seq ?_
    refine wc_region ?_
    refine wl_pu (y_assign rfl) rfl ?_
    refine wl_nil ?_
    refine at_then ?_
    refine wc_seq ?_
    refine wc_region ?_
    refine wl_do d_makeMap rfl ?_
    rintro _ _ ⟨bo, rfl, rfl⟩
    refine wl_heap ((bo, mrow int (wmap [] fun m => R.D m r)) :: R.hp F) rfl ?_
    refine wl_pu (y_assign rfl) rfl ?_
    refine wl_nil ?_
    refine at_then ?_
    refine wc_seq ?_
    refine wc_seq ?_
    refine wc_region ?_
    refine wl_pu (y_move rfl) rfl ?_
    refine wl_pu (y_lenL Try.underlying74 rfl) rfl ?_
    refine wl_pu (y_move rfl) rfl ?_
    refine wl_nil ?_
    refine at_then ?_
    refine wc_block ?_
    -- at: loop
    refine wc_loop (σ := Unit) (fun i => True) (fun i => 0) (fun i => [(7, .map (some bo)), (12, int ((0 : Nat) : Int)), (13, int 0)]) (fun i => (bo, mrow int (wmap [] fun m => R.D m r)) :: R.hp F) () trivial ⟨rfl, rfl, rfl, trivial⟩ rfl ?_
    intro _ _
    show WC _ _ _ _ [(7, .map (some bo)), (12, int ((0 : Nat) : Int)), (13, int 0)] _
    refine wc_seq ?_
    refine wc_region ?_
    refine wl_pu (y_lss rfl rfl) rfl ?_
    refine wl_nil ?_
    refine at_then ?_
    refine wc_seq ?_
    -- at: cond
    refine wc_condD rfl (fun hc => absurd hc ((by omega))) (fun _ => ?_)
    refine wc_exit ?_
    refine at_then_exit ?_
    refine at_then_exit ?_
    refine at_block_same ?_
    refine at_then ?_
    refine wc_seq ?_
    refine wc_region ?_
    refine wl_pu (y_move rfl) rfl ?_
    refine wl_pu (y_assign rfl) rfl ?_
    refine wl_nil ?_
    refine at_then ?_
    refine wc_ret ?_
    -- at: ret
    refine at_ret1 rfl rfl ?_
    exact ⟨bo, rfl, rfl⟩
  | own b _ cap _ sp hx' hcap hs =>
    subst hk
    subst hc
    refine spec_body Try.func89 Try.ntmps89 rfl rfl ?_
    refine wc_seq ?_
    refine wc_region ?_
    refine wl_pu (y_assign rfl) rfl ?_
    refine wl_nil ?_
    refine at_then ?_
    refine wc_seq ?_
    refine wc_region ?_
    refine wl_do d_makeMap rfl ?_
    rintro _ _ ⟨bo, rfl, rfl⟩
    refine wl_heap ((bo, mrow int (wmap [] fun m => R.D m r)) :: (b, row 3 (xs.map int ++ sp)) :: R.hp F) rfl ?_
    refine wl_pu (y_assign rfl) rfl ?_
    refine wl_nil ?_
    refine at_then ?_
    refine wc_seq ?_
    refine wc_seq ?_
    refine wc_region ?_
    refine wl_pu (y_move rfl) rfl ?_
    refine wl_pu (y_lenL Try.underlying74 rfl) rfl ?_
    refine wl_pu (y_move rfl) rfl ?_
    refine wl_nil ?_
    refine at_then ?_
    refine wc_block ?_
    -- at: loop
    refine wc_loop (σ := Nat) (fun i => i ≤ xs.length) (fun i => xs.length - i) (fun i => [(0, ptr R.bx 0), (1, int r), (7, .map (some bo)), (11, sl b 0 xs.length cap), (12, int (xs.length : Int)), (13, int (i : Int))]) (fun i => (bo, mrow int (wmap (xs.take i) fun m => R.D m r)) :: (b, row 3 (xs.map int ++ sp)) :: R.hp F) 0 (Nat.zero_le _) ⟨rfl, rfl, rfl, rfl, rfl, rfl, trivial⟩ rfl ?_
    intro i hi
    show WC _ _ _ _ [(0, ptr R.bx 0), (1, int r), (7, .map (some bo)), (11, sl b 0 xs.length cap), (12, int (xs.length : Int)), (13, int (i : Int))] _
    refine wc_seq ?_
    refine wc_region ?_
    refine wl_pu (y_lss rfl rfl) rfl ?_
    refine wl_nil ?_
    refine at_then ?_
    refine wc_seq ?_
    -- at: cond
    refine wc_condD rfl (fun h => ?_) (fun h => ?_)
    · skip
      have hi' : i < xs.length := by omega
      have hm := hx _ (List.getElem_mem hi')
      have hst : xs.take (i + 1) = xs.take i ++ [xs[i]] := List.take_succ_eq_append_getElem hi'
      have hnt : (xs.take (i + 1)).Nodup := List.Nodup.sublist (List.take_sublist _ _) hnd
      rw [hst] at hnt
      have hni : xs[i] ∉ xs.take i := fun hc => (List.nodup_append.1 hnt).2.2 _ hc _ (by simp) rfl
      refine wc_skip ?_
      refine at_then ?_
      refine wc_seq ?_
      refine wc_block ?_
      refine wc_seq ?_
      refine wc_region ?_
      first | refine wl_pu (y_ix1 Try.underlying74 (by kernel_rfl) rfl rfl (by omega)) rfl ?_ | refine wl_pu (y_ix 1 Try.underlying74 (by kernel_rfl) rfl rfl (by omega)) rfl ?_
      refine wl_rd (y_load 1 rfl rfl (v := int xs[i]) (by rw [Int.toNat_natCast]; exact ints_at hi') (by kernel_rfl)) rfl ?_
      generalize hxm : xs[i] = m at hm hst hni
      refine wl_pu (y_assign rfl) rfl ?_
      refine wl_nil ?_
      refine at_then ?_
      refine wc_seq ?_
      refine wc_seq ?_
      refine wc_region ?_
      refine wl_pu (y_move rfl) rfl ?_
      refine wl_pu (y_lss rfl rfl) rfl ?_
      refine wl_pu (y_move rfl) rfl ?_
      -- at: guard 2
      refine wl_splitD 19 rfl (fun hc => absurd hc ((by omega))) (fun _ => ?_)
      refine wl_gon rfl rfl ?_
      refine wl_pu (y_move rfl) rfl ?_
      refine wl_gon rfl rfl ?_
      refine wl_pu (y_move rfl) rfl ?_
      refine wl_gon rfl rfl ?_
      refine wl_pu (y_nil rfl) rfl ?_
      refine wl_gon rfl rfl ?_
      first | refine wl_pu (y_fieldAddr0 3 Try.underlying98 rfl rfl (by kernel_rfl) rfl) rfl ?_ | refine wl_pu (y_fieldAddr 3 Try.underlying98 rfl rfl (by kernel_rfl) rfl) rfl ?_
      refine wl_gon rfl rfl ?_
      first | refine wl_rd (y_load 0 rfl rfl rfl (by kernel_rfl)) rfl ?_ | refine wl_rd (y_load 1 rfl rfl rfl (by kernel_rfl)) rfl ?_ | refine wl_rd (y_load 2 rfl rfl rfl (by kernel_rfl)) rfl ?_ | refine wl_rd (y_load 3 rfl rfl rfl (by kernel_rfl)) rfl ?_ | refine wl_rd (y_load 4 rfl rfl rfl (by kernel_rfl)) rfl ?_ | refine wl_rd (y_load 5 rfl rfl rfl (by kernel_rfl)) rfl ?_
      refine wl_gon rfl rfl ?_
      refine wl_pu (y_lenL Try.underlying96 rfl) rfl ?_
      refine wl_gon rfl rfl ?_
      refine wl_pu (y_geq rfl rfl) rfl ?_
      first | refine wl_pu (y_pickT rfl rfl) rfl ?_ | refine wl_pu (y_pickF rfl rfl) rfl ?_
      refine wl_pu (y_move rfl) rfl ?_
      -- at: guard 11
      refine wl_splitD 28 rfl (fun hc => absurd hc ((by omega))) (fun _ => ?_)
      refine wl_gon rfl rfl ?_
      refine wl_pu (y_move rfl) rfl ?_
      refine wl_gon rfl rfl ?_
      refine wl_pu (y_move rfl) rfl ?_
      refine wl_gon rfl rfl ?_
      refine wl_pu (y_nil rfl) rfl ?_
      refine wl_gon rfl rfl ?_
      first | refine wl_pu (y_fieldAddr0 4 Try.underlying98 rfl rfl (by kernel_rfl) rfl) rfl ?_ | refine wl_pu (y_fieldAddr 4 Try.underlying98 rfl rfl (by kernel_rfl) rfl) rfl ?_
      refine wl_gon rfl rfl ?_
      refine wl_pu (y_ixA 1 Try.underlying84 (by kernel_rfl) rfl rfl (by omega)) rfl ?_
      refine wl_gon rfl rfl ?_
      refine wl_rd (y_load 2 rfl rfl (v := .bool true) (by rw [← hm.2.2]; exact R.in_nth (by omega)) (by kernel_rfl)) rfl ?_
      refine wl_gon rfl rfl ?_
      first | refine wl_pu (y_notT rfl) rfl ?_ | refine wl_pu (y_notF rfl) rfl ?_ | refine wl_pu (y_not rfl) rfl ?_ | refine wl_pu (y_notB rfl) rfl ?_
      first | refine wl_pu (y_pickT rfl rfl) rfl ?_ | refine wl_pu (y_pickF rfl rfl) rfl ?_
      refine wl_pu (y_move rfl) rfl ?_
      -- at: guard 20
      refine wl_gon rfl rfl ?_
      refine wl_pu (y_move rfl) rfl ?_
      refine wl_gon rfl rfl ?_
      refine wl_pu (y_lss rfl rfl) rfl ?_
      first | refine wl_pu (y_pickT rfl rfl) rfl ?_ | refine wl_pu (y_pickF rfl rfl) rfl ?_
      refine wl_pu (y_move rfl) rfl ?_
      -- at: guard 24
      refine wl_splitD 41 rfl (fun hc => absurd hc ((by omega))) (fun _ => ?_)
      refine wl_gon rfl rfl ?_
      refine wl_pu (y_move rfl) rfl ?_
      refine wl_gon rfl rfl ?_
      refine wl_pu (y_move rfl) rfl ?_
      refine wl_gon rfl rfl ?_
      refine wl_pu (y_nil rfl) rfl ?_
      refine wl_gon rfl rfl ?_
      first | refine wl_pu (y_fieldAddr0 0 Try.underlying98 rfl rfl (by kernel_rfl) rfl) rfl ?_ | refine wl_pu (y_fieldAddr 0 Try.underlying98 rfl rfl (by kernel_rfl) rfl) rfl ?_
      refine wl_gon rfl rfl ?_
      first | refine wl_pu (y_fieldAddr0 2 Try.underlying72 rfl rfl (by kernel_rfl) rfl) rfl ?_ | refine wl_pu (y_fieldAddr 2 Try.underlying72 rfl rfl (by kernel_rfl) rfl) rfl ?_
      refine wl_gon rfl rfl ?_
      first | refine wl_rd (y_load 0 rfl rfl rfl (by kernel_rfl)) rfl ?_ | refine wl_rd (y_load 1 rfl rfl rfl (by kernel_rfl)) rfl ?_ | refine wl_rd (y_load 2 rfl rfl rfl (by kernel_rfl)) rfl ?_ | refine wl_rd (y_load 3 rfl rfl rfl (by kernel_rfl)) rfl ?_ | refine wl_rd (y_load 4 rfl rfl rfl (by kernel_rfl)) rfl ?_ | refine wl_rd (y_load 5 rfl rfl rfl (by kernel_rfl)) rfl ?_
      refine wl_gon rfl rfl ?_
      refine wl_pu (y_geq rfl rfl) rfl ?_
      first | refine wl_pu (y_pickT rfl rfl) rfl ?_ | refine wl_pu (y_pickF rfl rfl) rfl ?_
      refine wl_nil ?_
      refine at_then ?_
      -- at: cond
      refine wc_condD rfl (fun hc => absurd hc ((by omega))) (fun _ => ?_)
      refine wc_skip ?_
      refine at_then ?_
      refine wc_region ?_
      refine wl_pu (y_move rfl) rfl ?_
      refine wl_pu (y_move rfl) rfl ?_
      refine wl_pu (y_move rfl) rfl ?_
      refine wl_pu (y_nil rfl) rfl ?_
      first | refine wl_pu (y_fieldAddr0 3 Try.underlying98 rfl rfl (by kernel_rfl) rfl) rfl ?_ | refine wl_pu (y_fieldAddr 3 Try.underlying98 rfl rfl (by kernel_rfl) rfl) rfl ?_
      first | refine wl_rd (y_load 0 rfl rfl rfl (by kernel_rfl)) rfl ?_ | refine wl_rd (y_load 1 rfl rfl rfl (by kernel_rfl)) rfl ?_ | refine wl_rd (y_load 2 rfl rfl rfl (by kernel_rfl)) rfl ?_ | refine wl_rd (y_load 3 rfl rfl rfl (by kernel_rfl)) rfl ?_ | refine wl_rd (y_load 4 rfl rfl rfl (by kernel_rfl)) rfl ?_ | refine wl_rd (y_load 5 rfl rfl rfl (by kernel_rfl)) rfl ?_
      refine wl_pu (y_move rfl) rfl ?_
      first | refine wl_pu (y_ix1 Try.underlying96 (by kernel_rfl) rfl rfl (by omega)) rfl ?_ | refine wl_pu (y_ix 1 Try.underlying96 (by kernel_rfl) rfl rfl (by omega)) rfl ?_
      refine wl_rd (y_load 3 rfl rfl (v := sl (R.bk m.toNat) 0 R.rw R.rw) (R.disk_nth (by omega)) (by kernel_rfl)) rfl ?_
      refine wl_pu (y_move rfl) rfl ?_
      first | refine wl_pu (y_ix1 Try.underlying36 (by kernel_rfl) rfl rfl (by omega)) rfl ?_ | refine wl_pu (y_ix 1 Try.underlying36 (by kernel_rfl) rfl rfl (by omega)) rfl ?_
      refine wl_rd (y_load (m.toNat + 5) rfl (R.dk_nth (by omega) F) (v := S (rep (R.D m r))) (by rw [Int.toNat_of_nonneg hm.1]; have := drow_at (k := R.rw) (R.D m) (r := r.toNat) (by omega); rwa [Int.toNat_of_nonneg hr.1] at this) (by kernel_rfl)) rfl ?_
      refine wl_do0 (d_mapUpdate (k := m) 0 rkey Try.underlying102 ⟨by omega, by omega⟩ (wmap_ok _ (List.nodup_append.1 hnt).1 (fun x hx0 => by have := hx x (List.mem_of_mem_take hx0); omega)) rfl rfl rfl rfl) (fun _ _ hL => ?_)
      subst hL
      refine wl_nil ?_
      refine at_block_normal ?_
      refine at_then ?_
      refine wc_region ?_
      refine wl_pu (y_add rfl rfl (by omega)) rfl ?_
      refine wl_pu (y_move rfl) rfl ?_
      refine wl_nil ?_
      -- at: round
      refine at_again (i + 1) hi' (by omega) ⟨rfl, rfl, rfl, rfl, rfl, rfl, trivial⟩ ?_
      show (bo, mrow int _) :: _ = (bo, mrow int _) :: _
      rw [hst]
      have hmp := mput_new (g := fun m => R.D m r) hni
      rw [← hmp]
    · skip
      have hil : i = xs.length := by omega
      subst hil
      refine wc_exit ?_
      refine at_then_exit ?_
      refine at_then_exit ?_
      refine at_block_same ?_
      refine at_then ?_
      refine wc_seq ?_
      refine wc_region ?_
      refine wl_pu (y_move rfl) rfl ?_
      refine wl_pu (y_assign rfl) rfl ?_
      refine wl_nil ?_
      refine at_then ?_
      refine wc_ret ?_
      -- at: ret
      refine at_ret1 rfl rfl ?_
      exact ⟨bo, rfl, by rw [List.take_length]; rfl⟩
end Go.Proofs.Ytkpndnjhfocheaa
