/- A part of the proofs of this seat: Write, Link, MapI, Ma2, CaI, TgI, SpI, ProtI, MaI, CpS, Cp6, McI, PpI, CaS, SpS, L3F. -/
import Derived.Test.YtnaagdmaggdbmaaGreatDoorKA
import Derived.Deep.RegionHeldLaw
set_option linter.unusedVariables false
set_option linter.unusedSimpArgs false
namespace Go.Proofs.YtnaagdmaggdbmaaGreatDoor
open Go.RowKit
set_option maxRecDepth 1000000

/-! ### writing one element of a row of the call's own -/
theorem Enc.cells_split {α : Type} (E : Enc α) : ∀ {l : List α} {i : Nat} {u : Value}, (E.cells l)[i]? = some u → ∃ q r a, i = q * E.sz + r ∧ r < E.sz ∧ l[q]? = some a ∧ (E.cs a)[r]? = some u := by
  intro l
  induction l with
  | nil => intro i u h; simp [Enc.cells] at h
  | cons x l ih =>
    intro i u h
    rw [E.cells_cons] at h
    by_cases hi : i < E.sz
    · rw [List.getElem?_append_left (by rw [E.len]; exact hi)] at h
      exact ⟨0, i, x, by omega, hi, rfl, h⟩
    · rw [List.getElem?_append_right (by rw [E.len]; omega), E.len] at h
      obtain ⟨q, r, a, h1, h2, h3, h4⟩ := ih h
      exact ⟨q + 1, r, a, by rw [Nat.add_mul]; omega, h2, by simpa using h3, h4⟩
theorem MineE.write {α : Type} {E : Enc α} {e : TypeId} {B : Nat} {w w' : World} {g : Nat} {l : List α} (h : MineE E e B w (some ⟨g, 0, none⟩) l) {cs cs' : Array Value} (ho : Own w g e cs) (ho' : Own w' g e cs')
    (hsz : cs'.size = cs.size) {k : Nat} (hk : k < l.length) (a : α) (hin : ∀ j u, (E.cs a)[j]? = some u → cs'[k * E.sz + j]? = some u) (hout : ∀ i, ¬ (k * E.sz ≤ i ∧ i < k * E.sz + E.sz) → cs'[i]? = cs[i]?) : MineE E e B w' (some ⟨g, 0, none⟩) (l.set k a) := by
  obtain ⟨g2, cs2, e1, hB, ho2, hs2⟩ := h.own (by omega)
  injection e1 with e1
  injection e1 with e1
  subst e1
  have hcs : cs2 = cs := by
    unfold Own at ho ho2
    rw [ho] at ho2
    injection ho2 with ho2
    injection ho2 with ho2
    exact ho2.symm
  subst hcs
  obtain ⟨b, o, e2, hb, hc⟩ := h.is.at_ (by omega)
  injection e2 with e2
  injection e2 with e3 e4
  subst e3 e4
  refine ⟨⟨by rw [E.cells_length], fun _ => ⟨g, 0, rfl, ho'.lt, fun i u hu => ?_⟩⟩, fun _ => ⟨g, cs', rfl, hB, ho', by rw [List.length_set, hsz]; exact hs2⟩⟩
  rw [Nat.zero_add, ho'.cell i]
  obtain ⟨q, r, x, rfl, hr, hq, hx⟩ := E.cells_split hu
  rw [List.getElem?_set] at hq
  by_cases hqk : k = q
  · subst hqk
    rw [if_pos rfl, if_pos hk] at hq
    injection hq with hq
    subst hq
    exact hin r u hx
  · rw [if_neg hqk] at hq
    have h1 := hc _ u (E.cells_get hq hx)
    rw [Nat.zero_add, ho.cell] at h1
    rw [hout, h1]
    rintro ⟨h2, h3⟩
    rcases Nat.lt_or_gt_of_ne hqk with h4 | h4
    · have := Nat.mul_le_mul_right E.sz (show k + 1 ≤ q from h4)
      rw [Nat.add_mul] at this
      omega
    · have := Nat.mul_le_mul_right E.sz (show q + 1 ≤ k from h4)
      rw [Nat.add_mul] at this
      omega
/-- one element of a row of integers -/
theorem MineE.wint {e : TypeId} {B : Nat} {w : World} {g : Nat} {l : List Int} (h : MineE intE e B w (some ⟨g, 0, none⟩) l) {k : Nat} (hk : k < l.length) (x : Int) :
    MineE intE e B (w.setCell ⟨g, k, none⟩ (.int .i64 x)) (some ⟨g, 0, none⟩) (l.set k x) := by
  obtain ⟨g2, cs, e1, hB, ho, hs⟩ := h.own (by omega)
  injection e1 with e1
  injection e1 with e1
  subst e1
  have hs2 : l.length ≤ cs.size := by simpa [intE] using hs
  refine h.write ho (ho.set_ k (.int .i64 x)) (by simp) hk x (fun j u hj => ?_) (fun i hi => ?_)
  · match j, hj with
    | 0, hj =>
      simp [intE] at hj
      subst hj
      simp [intE, Array.getElem?_setIfInBounds]
      omega
    | j + 1, hj => simp [intE] at hj
  · simp only [intE] at hi
    rw [Array.getElem?_setIfInBounds, if_neg (by omega)]
theorem MineE.wfr {e : TypeId} {B : Nat} {w : World} {g : Nat} {l : List Fr} (h : MineE frE e B w (some ⟨g, 0, none⟩) l) {k : Nat} (hk : k < l.length) (x : Fr) :
    MineE frE e B (((((w.setCell ⟨g, k * 5, none⟩ (.bool x.used)).setCell ⟨g, k * 5 + 1, none⟩ (.int .i64 x.s)).setCell ⟨g, k * 5 + 2, none⟩ (.int .i64 x.p)).setCell ⟨g, k * 5 + 3, none⟩ (.int .i64 x.r)).setCell ⟨g, k * 5 + 4, none⟩ (.int .i64 x.n)) (some ⟨g, 0, none⟩) (l.set k x) := by
  obtain ⟨g2, cs, e1, hB, ho, hs⟩ := h.own (by omega)
  injection e1 with e1
  injection e1 with e1
  subst e1
  have hs2 : l.length * 5 ≤ cs.size := by simpa [frE] using hs
  refine h.write ho (((((ho.set_ (k * 5) _).set_ (k * 5 + 1) _).set_ (k * 5 + 2) _).set_ (k * 5 + 3) _).set_ (k * 5 + 4) _) (by simp) hk x (fun j u hj => ?_) (fun i hi => ?_)
  · simp only [frE] at hj ⊢
    match j, hj with
    | 0, hj => simp at hj; subst hj; simp [Array.getElem?_setIfInBounds]; omega
    | 1, hj => simp at hj; subst hj; simp [Array.getElem?_setIfInBounds]; omega
    | 2, hj => simp at hj; subst hj; simp [Array.getElem?_setIfInBounds]; omega
    | 3, hj => simp at hj; subst hj; simp [Array.getElem?_setIfInBounds]; omega
    | 4, hj => simp at hj; subst hj; simp [Array.getElem?_setIfInBounds]; omega
    | j + 5, hj => simp at hj
  · simp only [frE] at hi
    rw [Array.getElem?_setIfInBounds, if_neg (by omega), Array.getElem?_setIfInBounds, if_neg (by omega), Array.getElem?_setIfInBounds, if_neg (by omega), Array.getElem?_setIfInBounds, if_neg (by omega), Array.getElem?_setIfInBounds, if_neg (by omega)]
/-- one cell of one element -/
theorem MineE.wcell {α : Type} {E : Enc α} {e : TypeId} {B : Nat} {w : World} {g : Nat} {l : List α} (h : MineE E e B w (some ⟨g, 0, none⟩) l) {k : Nat} {a : α} (hk : l[k]? = some a) (b : α) (j0 : Nat) (v : Value) (hj : j0 < E.sz)
    (hb : ∀ j u, (E.cs b)[j]? = some u → (j = j0 ∧ u = v) ∨ (j ≠ j0 ∧ (E.cs a)[j]? = some u)) : MineE E e B (w.setCell ⟨g, k * E.sz + j0, none⟩ v) (some ⟨g, 0, none⟩) (l.set k b) := by
  obtain ⟨hlt, _⟩ := List.getElem?_eq_some_iff.1 hk
  obtain ⟨g2, cs, e1, hB, ho, hs⟩ := h.own (by omega)
  injection e1 with e1
  injection e1 with e1
  subst e1
  obtain ⟨b', o', e2, _, hc⟩ := h.is.el hk
  injection e2 with e2
  injection e2 with e3 e4
  subst e3 e4
  have hs2 := Nat.mul_le_mul_right E.sz (show k + 1 ≤ l.length from hlt)
  rw [Nat.add_mul] at hs2
  refine h.write ho (ho.set_ (k * E.sz + j0) v) (by simp) hlt b (fun j u hj2 => ?_) (fun i hi => ?_)
  · rcases hb j u hj2 with ⟨rfl, rfl⟩ | ⟨hne, hu⟩
    · rw [Array.getElem?_setIfInBounds, if_pos rfl, if_pos (by omega)]
    · rw [Array.getElem?_setIfInBounds, if_neg (by omega)]
      have := hc j u hu
      rw [Nat.zero_add, ho.cell] at this
      exact this
  · rw [Array.getElem?_setIfInBounds, if_neg (by omega)]
theorem MineE.wrights {e : TypeId} {B : Nat} {w : World} {g : Nat} {l : List Fr} (h : MineE frE e B w (some ⟨g, 0, none⟩) l) {k : Nat} {f : Fr} (hk : l[k]? = some f) (r : Int) :
    MineE frE e B (w.setCell ⟨g, k * 5 + 3, none⟩ (.int .i64 r)) (some ⟨g, 0, none⟩) (l.set k { f with r := r }) := by
  refine h.wcell hk { f with r := r } 3 (.int .i64 r) (by decide) (fun j u hj => ?_)
  simp only [frE] at hj ⊢
  match j, hj with
  | 0, hj => exact .inr ⟨by decide, hj⟩
  | 1, hj => exact .inr ⟨by decide, hj⟩
  | 2, hj => exact .inr ⟨by decide, hj⟩
  | 3, hj => simp at hj; exact .inl ⟨rfl, hj.symm⟩
  | 4, hj => exact .inr ⟨by decide, hj⟩
  | j + 5, hj => simp at hj
theorem MineE.wnext {e : TypeId} {B : Nat} {w : World} {g : Nat} {l : List Fr} (h : MineE frE e B w (some ⟨g, 0, none⟩) l) {k : Nat} {f : Fr} (hk : l[k]? = some f) (n : Int) :
    MineE frE e B (w.setCell ⟨g, k * 5 + 4, none⟩ (.int .i64 n)) (some ⟨g, 0, none⟩) (l.set k { f with n := n }) := by
  refine h.wcell hk { f with n := n } 4 (.int .i64 n) (by decide) (fun j u hj => ?_)
  simp only [frE] at hj ⊢
  match j, hj with
  | 0, hj => exact .inr ⟨by decide, hj⟩
  | 1, hj => exact .inr ⟨by decide, hj⟩
  | 2, hj => exact .inr ⟨by decide, hj⟩
  | 3, hj => exact .inr ⟨by decide, hj⟩
  | 4, hj => simp at hj; exact .inl ⟨rfl, hj.symm⟩
  | j + 5, hj => simp at hj
/-- a row that is written elsewhere -/
theorem MineE.other {α : Type} {E : Enc α} {e : TypeId} {B : Nat} {w : World} {g : Nat} {l : List α} (h : MineE E e B w (some ⟨g, 0, none⟩) l) {p : Addr} (hp : p.block ≠ g) {u : Value} : MineE E e B (w.setCell p u) (some ⟨g, 0, none⟩) l := by
  have hsz : (w.setCell p u).heap.size = w.heap.size := by simp
  refine ⟨⟨h.is.len, fun hn => ?_⟩, fun hl => ?_⟩
  · obtain ⟨b, o, e2, hb, hc⟩ := h.is.at_ hn
    refine ⟨b, o, e2, by rw [hsz]; exact hb, fun j v hv => ?_⟩
    injection e2 with e2
    injection e2 with e3 e4
    have hne : b ≠ p.block := by omega
    rw [← hc j v hv]
    simp only [World.cell?, Below.heap_setCell w p u b hne]
  · obtain ⟨g2, cs, e1, hB, ho, hs⟩ := h.own hl
    injection e1 with e1
    injection e1 with e1
    subst e1
    exact ⟨g, cs, rfl, hB, ho.far (fun h => hp h.symm), hs⟩
end Go.Proofs.YtnaagdmaggdbmaaGreatDoor
namespace Go.Proofs.YtnaagdmaggdbmaaGreatDoor
open Go.RowKit
set_option maxRecDepth 1000000

/-- both rows of a table of the call's own, opened -/
theorem TaM.open_ {base : Nat} {w : World} {vb vf : Value} {t : Tab} (h : TaM base w vb vf t) (h1 : 1 ≤ t.bs.length) (h2 : 1 ≤ t.fs.length) :
    ∃ g1 c1 g2 c2, vb = .slice (some ⟨g1, 0, none⟩) t.bs.length c1 ∧ vf = .slice (some ⟨g2, 0, none⟩) t.fs.length c2 ∧ base ≤ g1 ∧ base ≤ g2 ∧ g1 < w.heap.size ∧ g2 < w.heap.size ∧ g1 ≠ g2
      ∧ t.bs.length ≤ c1 ∧ c1 ≤ maxLen ∧ t.fs.length ≤ c2 ∧ c2 ≤ maxLen ∧ MineE intE 3 base w (some ⟨g1, 0, none⟩) t.bs ∧ MineE frE 48 base w (some ⟨g2, 0, none⟩) t.fs := by
  obtain ⟨A1, c1, rfl, a1, a2, m1⟩ := h.b
  obtain ⟨A2, c2, rfl, b1, b2, m2⟩ := h.f
  obtain ⟨g1, cs1, rfl, e1, o1, s1⟩ := m1.own (by omega)
  obtain ⟨g2, cs2, rfl, e2, o2, s2⟩ := m2.own (by omega)
  refine ⟨g1, c1, g2, c2, rfl, rfl, e1, e2, o1.lt, o2.lt, ?_, a1, a2, b1, b2, m1, m2⟩
  intro hg
  subst hg
  unfold Own at o1 o2
  rw [o1] at o2
  injection o2 with o2
  injection o2 with _ o2
  exact absurd o2 (by decide)
set_option maxHeartbeats 2000000 in
theorem link_any (base : Nat) (vb vf : Value) (t : Tab) (s p : Int) (fr : Nat) (r : Int) (w : World) (hT : TaM base w vb vf t) (hb : base ≤ w.heap.size) (hk : kval (s, p) = true) (h1 : 1 ≤ t.bs.length) (h16 : t.bs.length ≤ 16) (hf : fr < t.fs.length) :
    Calls Tryz.prog 182 #[.agg #[vb, vf], .agg #[.int .i64 s, .int .i64 p], .int .i64 fr, .int .i64 r] w (Post2 fun _ w' => TaM base w' vb vf (mapT t s p fr r) ∧ Below base w w' ∧ ∀ g ty cs, Own w g ty cs → ty ≠ 3 → ty ≠ 48 → Own w' g ty cs) := by
  obtain ⟨g1, c1, g2, c2, rfl, rfl, e1, e2, l1, l2, hne, a1, a2, b1, b2, m1, m2⟩ := hT.open_ h1 (by omega)
  obtain ⟨hbk, heq⟩ := bkt_in hk h1
  have hbx := (Own.new_ w 26 #[.slice (some ⟨g1, 0, none⟩) t.bs.length c1, .slice (some ⟨g2, 0, none⟩) t.fs.length c2]).alloc (o := .cells #[.int .i64 s, .int .i64 p] 36)
  have hbk2 := Own.new_ (w.alloc (.cells #[.slice (some ⟨g1, 0, none⟩) t.bs.length c1, .slice (some ⟨g2, 0, none⟩) t.fs.length c2] 26)) 36 #[.int .i64 s, .int .i64 p]
  have hb0 : Below w.heap.size w ((w.alloc (.cells #[.slice (some ⟨g1, 0, none⟩) t.bs.length c1, .slice (some ⟨g2, 0, none⟩) t.fs.length c2] 26)).alloc (.cells #[.int .i64 s, .int .i64 p] 36)) := bA (bA bR)
  have hs0 : ((w.alloc (.cells #[.slice (some ⟨g1, 0, none⟩) t.bs.length c1, .slice (some ⟨g2, 0, none⟩) t.fs.length c2] 26)).alloc (.cells #[.int .i64 s, .int .i64 p] 36)).heap.size = w.heap.size + 2 := by simp
  rw [show (w.alloc (.cells #[.slice (some ⟨g1, 0, none⟩) t.bs.length c1, .slice (some ⟨g2, 0, none⟩) t.fs.length c2] 26)).heap.size = w.heap.size + 1 by simp] at hbk2
  generalize hW : (w.alloc (.cells #[.slice (some ⟨g1, 0, none⟩) t.bs.length c1, .slice (some ⟨g2, 0, none⟩) t.fs.length c2] 26)).alloc (.cells #[.int .i64 s, .int .i64 p] 36) = W0 at hbx hbk2 hb0 hs0
  have q0 := hbx.cell_ 0 (v := .slice (some ⟨g1, 0, none⟩) t.bs.length c1) rfl
  have q1 := hbx.cell_ 1 (v := .slice (some ⟨g2, 0, none⟩) t.fs.length c2) rfl
  have k0 := hbk2.cell_ 0 (v := .int .i64 s) rfl
  have k1 := hbk2.cell_ 1 (v := .int .i64 p) rfl
  go_enter Tryz.func182, Tryz.ntmps182
  go_wp2_with fail
  refine (hash_any s p t.bs.length _ hk ⟨by omega, by omega⟩).mono ?_
  rintro e w1 ⟨rfl, hb1⟩
  rw [heq]
  generalize hbb : bkt t s p = b at *
  have hbx1 := hbx.below hb1
  have hbk1 := hbk2.below hb1
  have x0 := hbx1.cell_ 0 (v := .slice (some ⟨g1, 0, none⟩) t.bs.length c1) rfl
  have x1 := hbx1.cell_ 1 (v := .slice (some ⟨g2, 0, none⟩) t.fs.length c2) rfl
  have z0 := hbk1.cell_ 0 (v := .int .i64 s) rfl
  have z1 := hbk1.cell_ 1 (v := .int .i64 p) rfl
  have hbt := bT hb0 hb1
  have M1 := m1.below hbt
  have M2 := m2.below hbt
  obtain ⟨n, en⟩ : ∃ n, t.bs[b]? = some n := ⟨_, List.getElem?_eq_getElem hbk⟩
  obtain ⟨b', o', e3, _, d0⟩ := M1.is.i1 en
  injection e3 with e3
  injection e3 with e3 e4
  subst e3 e4
  rw [Nat.zero_add] at d0
  obtain ⟨f, ef⟩ : ∃ f, t.fs[fr]? = some f := ⟨_, List.getElem?_eq_getElem hf⟩
  obtain ⟨b', o', e3, _, y0, y1, y2, y3, y4⟩ := M2.is.fr ef
  injection e3 with e3
  injection e3 with e3 e4
  subst e3 e4
  rw [Nat.zero_add] at y0 y1 y2 y3 y4
  obtain ⟨_, cs1, u1, _, O1, S1⟩ := M1.own (by omega)
  injection u1 with u1
  injection u1 with u1
  subst u1
  obtain ⟨_, cs2, u2, _, O2, S2⟩ := M2.own (by omega)
  injection u2 with u2
  injection u2 with u2
  subst u2
  have z2 := O1.free b
  have z3 := O2.free (fr * 5)
  have z4 := O2.free (fr * 5 + 1)
  have z5 := O2.free (fr * 5 + 2)
  have z6 := O2.free (fr * 5 + 3)
  have z7 := O2.free (fr * 5 + 4)
  have hfar1 : Hid (∀ g ty cs, Own w1 g ty cs → ty ≠ 3 → g ≠ g1) := by
    intro g ty cs h hty hg
    subst hg
    unfold Own at h O1
    rw [h] at O1
    injection O1 with O1
    injection O1 with _ O1
    exact hty O1
  have hfar2 : Hid (∀ g ty cs, Own w1 g ty cs → ty ≠ 48 → g ≠ g2) := by
    intro g ty cs h hty hg
    subst hg
    unfold Own at h O2
    rw [h] at O2
    injection O2 with O2
    injection O2 with _ O2
    exact hty O2
  have HM1 := Lib.hid M1
  have HM2 := Lib.hid M2
  have HBT := Lib.hid hbt
  have HX1 := Lib.hid hbx1
  have hmt : mapT t s p fr r = ⟨t.bs.set b fr, t.fs.set fr ⟨true, s, p, r, n⟩⟩ := by
    unfold mapT
    rw [hbb, Int.toNat_natCast, List.getD_eq_getElem?_getD, en]
    rfl
  clear M1 M2 O1 O2 S1 S2 m1 m2 hT hbx hbk2 hb0 hbt hbx1 hbk1 hb1 en ef
  go_wp2
  go_region_law (fail)
  all_goals
    clear z3 z4 z5 z6 z7 y0 y1 y2 y3 y4
    go_wp2
    have M3 := (HM2.out.wfr hf ⟨true, s, p, r, n⟩).other (p := ⟨g1, b, none⟩) (u := .int .i64 fr) hne
    have M4 := (((((HM1.out.other (p := ⟨g2, fr * 5, none⟩) (u := .bool true) hne.symm).other (p := ⟨g2, fr * 5 + 1, none⟩) (u := .int .i64 s) hne.symm).other (p := ⟨g2, fr * 5 + 2, none⟩) (u := .int .i64 p) hne.symm).other (p := ⟨g2, fr * 5 + 3, none⟩) (u := .int .i64 r) hne.symm).other (p := ⟨g2, fr * 5 + 4, none⟩) (u := .int .i64 n) hne.symm).wint hbk fr
    have hbz : Below base w w1 := Below.mono HBT.out hb
    go_end0
    refine ⟨_, rfl, ⟨?_, ?_⟩, ?_, ?_⟩
    · rw [hmt]
      exact slm_of (by simp) (by simpa using a1) a2 (M4.below (bD bR))
    · rw [hmt]
      exact slm_of (by simp) (by simpa using b1) b2 (M3.below (bD bR))
    · exact ((((((hbz.setCell e2 _).setCell e2 _).setCell e2 _).setCell e2 _).setCell e2 _).setCell e1 _).drew
    · intro g ty cs ho h3 h4
      have ho1 := ho.below HBT.out
      have n1 := hfar1.out _ _ _ ho1 h3
      have n2 := hfar2.out _ _ _ ho1 h4
      exact ((((((ho1.far n2).far n2).far n2).far n2).far n2).far n1).drew
end Go.Proofs.YtnaagdmaggdbmaaGreatDoor
namespace Go.Proofs.YtnaagdmaggdbmaaGreatDoor
open Go.RowKit
set_option maxRecDepth 1000000

theorem mapOK_false {t : Tab} {s p fr r : Int} (h : mapOK t s p fr r = false) : mapV t s p fr r = tabz := by unfold mapV; rw [h]; rfl
theorem SlM.far {α : Type} {E : Enc α} {e : TypeId} {B : Nat} {w : World} {v : Value} {l : List α} (h : SlM E e B w v l) {p : Addr} (hp : p.block < B) {u : Value} : SlM E e B (w.setCell p u) v l := by
  obtain ⟨A, c, h1, h2, h3, h4⟩ := h
  exact ⟨A, c, h1, h2, h3, h4.far hp⟩
theorem TaM.far {B : Nat} {w : World} {vb vf : Value} {t : Tab} (h : TaM B w vb vf t) {p : Addr} (hp : p.block < B) {u : Value} : TaM B (w.setCell p u) vb vf t := ⟨h.b.far hp, h.f.far hp⟩
theorem TaM.mono {B B' : Nat} {w : World} {vb vf : Value} {t : Tab} (h : TaM B w vb vf t) (hb : B' ≤ B) : TaM B' w vb vf t := ⟨h.b.mono hb, h.f.mono hb⟩
theorem tam_z {base : Nat} {w : World} : TaM base w (.slice none 0 0) (.slice none 0 0) tabz := ⟨SlM.nil_ _, SlM.nil_ _⟩
set_option maxHeartbeats 4000000 in
theorem MapPage_any (vb vf : Value) (t : Tab) (s p fr r : Int) (w : World) (hT : TaR w vb vf t) (hfree : Free w) :
    Calls Tryz.prog 111 #[.agg #[vb, vf], .agg #[.int .i64 s, .int .i64 p], .int .i64 fr, .int .i64 r] w (Post2 fun v w' => ∃ v1 v2, v = .tuple #[.agg #[v1, v2], .bool (mapOK t s p fr r)] ∧ TaM w.heap.size w' v1 v2 (mapV t s p fr r) ∧ Below w.heap.size w w') := by
  have ht0 := ((Own.new_ w 26 #[vb, vf]).alloc (o := .cells #[.int .i64 s, .int .i64 p] 36)).alloc (o := .cells #[.slice none 0 0, .slice none 0 0] 26)
  have hk0 := (Own.new_ (w.alloc (.cells #[vb, vf] 26)) 36 #[.int .i64 s, .int .i64 p]).alloc (o := .cells #[.slice none 0 0, .slice none 0 0] 26)
  have hr0 := Own.new_ ((w.alloc (.cells #[vb, vf] 26)).alloc (.cells #[.int .i64 s, .int .i64 p] 36)) 26 #[.slice none 0 0, .slice none 0 0]
  have hb0 : Below w.heap.size w (((w.alloc (.cells #[vb, vf] 26)).alloc (.cells #[.int .i64 s, .int .i64 p] 36)).alloc (.cells #[.slice none 0 0, .slice none 0 0] 26)) := bA (bA (bA bR))
  rw [show (w.alloc (.cells #[vb, vf] 26)).heap.size = w.heap.size + 1 by simp] at hk0
  rw [show ((w.alloc (.cells #[vb, vf] 26)).alloc (.cells #[.int .i64 s, .int .i64 p] 36)).heap.size = w.heap.size + 1 + 1 by simp] at hr0
  have hs0 : (((w.alloc (.cells #[vb, vf] 26)).alloc (.cells #[.int .i64 s, .int .i64 p] 36)).alloc (.cells #[.slice none 0 0, .slice none 0 0] 26)).heap.size = w.heap.size + 3 := by simp
  generalize hW : ((w.alloc (.cells #[vb, vf] 26)).alloc (.cells #[.int .i64 s, .int .i64 p] 36)).alloc (.cells #[.slice none 0 0, .slice none 0 0] 26) = W0 at ht0 hk0 hr0 hb0 hs0
  have HT0 := Lib.hid ht0
  have HK0 := Lib.hid hk0
  have HR0 := Lib.hid hr0
  have HB0 := Lib.hid hb0
  clear ht0 hk0 hr0 hb0
  have t00 := HT0.out.cell_ 0 (v := vb) rfl
  have t10 := HT0.out.cell_ 1 (v := vf) rfl
  have k00 := HK0.out.cell_ 0 (v := .int .i64 s) rfl
  have k10 := HK0.out.cell_ 1 (v := .int .i64 p) rfl
  have HTR := Lib.hid hT
  have HF := Lib.hid hfree
  clear hT hfree
  go_enter Tryz.func111, Tryz.ntmps111
  go_wp2_with fail
  refine (TableValid_any vb vf t _ (HTR.out.now HB0.out) (HF.out.now HB0.out)).mono ?_
  rintro e w1 ⟨rfl, hb1⟩
  have HT1 := Lib.hid (HT0.out.below hb1)
  have HK1 := Lib.hid (HK0.out.below hb1)
  have HR1 := Lib.hid (HR0.out.below hb1)
  have HB1 := Lib.hid (bT HB0.out hb1)
  clear hb1
  have t01 := HT1.out.cell_ 0 rfl
  have t11 := HT1.out.cell_ 1 rfl
  have k01 := HK1.out.cell_ 0 (v := .int .i64 s) rfl
  have k11 := HK1.out.cell_ 1 (v := .int .i64 p) rfl
  have r01 := HR1.out.cell_ 0 (v := .slice none 0 0) rfl
  have r11 := HR1.out.cell_ 1 (v := .slice none 0 0) rfl
  have fr01 := HR1.out.free 0
  have fr11 := HR1.out.free 1
  clear t00 t10 k00 k10
  try clear r00 r10 fr00 fr10
  cases h1 : tv t with
  | false =>
    have HA : Hid (mapOK t s p fr r = false) := by show _ = _; unfold mapOK; rw [h1]; rfl
    have HV := Lib.hid (mapOK_false HA.out)
    go_wp2
    have o3 := (HR1.out.set_ 0 (.slice none 0 0)).set_ 1 (.slice none 0 0)
    have e0 := o3.cell_ 0 (v := .slice none 0 0) rfl
    have e1 := o3.cell_ 1 (v := .slice none 0 0) rfl
    refine bodyPost_ret (v := .tuple #[.agg #[.slice none 0 0, .slice none 0 0], .bool false]) (by simp [results, Tryz.results111, go_sem, e0, e1]) rfl ⟨_, rfl, _, _, by rw [HA.out], ?_, bS (bS HB1.out (by simp; omega)) (by simp; omega)⟩
    rw [HV.out]
    exact tam_z
  | true =>
    go_wp2_with fail
    refine (keyValid_any _ _ _).mono ?_
    rintro e w2 ⟨rfl, hb2⟩
    have HT2 := Lib.hid (HT1.out.below hb2)
    have HK2 := Lib.hid (HK1.out.below hb2)
    have HR2 := Lib.hid (HR1.out.below hb2)
    have HB2 := Lib.hid (bT HB1.out hb2)
    clear hb2
    have t02 := HT2.out.cell_ 0 rfl
    have t12 := HT2.out.cell_ 1 rfl
    have k02 := HK2.out.cell_ 0 (v := .int .i64 s) rfl
    have k12 := HK2.out.cell_ 1 (v := .int .i64 p) rfl
    have r02 := HR2.out.cell_ 0 (v := .slice none 0 0) rfl
    have r12 := HR2.out.cell_ 1 (v := .slice none 0 0) rfl
    have fr02 := HR2.out.free 0
    have fr12 := HR2.out.free 1
    clear t01 t11 k01 k11
    try clear r01 r11 fr01 fr11
    cases h2 : kval (s, p) with
    | false =>
      have HA : Hid (mapOK t s p fr r = false) := by show _ = _; unfold mapOK; rw [h1, h2]; rfl
      have HV := Lib.hid (mapOK_false HA.out)
      go_wp2
      have o3 := (HR2.out.set_ 0 (.slice none 0 0)).set_ 1 (.slice none 0 0)
      have e0 := o3.cell_ 0 (v := .slice none 0 0) rfl
      have e1 := o3.cell_ 1 (v := .slice none 0 0) rfl
      refine bodyPost_ret (v := .tuple #[.agg #[.slice none 0 0, .slice none 0 0], .bool false]) (by simp [results, Tryz.results111, go_sem, e0, e1]) rfl ⟨_, rfl, _, _, by rw [HA.out], ?_, bS (bS HB2.out (by simp; omega)) (by simp; omega)⟩
      rw [HV.out]
      exact tam_z
    | true =>
      go_wp2_with fail
      refine (find_any vb vf t s p _ (HTR.out.now HB2.out)).mono ?_
      rintro e w3 ⟨rfl, hb3⟩
      have HT3 := Lib.hid (HT2.out.below hb3)
      have HK3 := Lib.hid (HK2.out.below hb3)
      have HR3 := Lib.hid (HR2.out.below hb3)
      have HB3 := Lib.hid (bT HB2.out hb3)
      clear hb3
      have t03 := HT3.out.cell_ 0 rfl
      have t13 := HT3.out.cell_ 1 rfl
      have k03 := HK3.out.cell_ 0 (v := .int .i64 s) rfl
      have k13 := HK3.out.cell_ 1 (v := .int .i64 p) rfl
      have r03 := HR3.out.cell_ 0 (v := .slice none 0 0) rfl
      have r13 := HR3.out.cell_ 1 (v := .slice none 0 0) rfl
      have fr03 := HR3.out.free 0
      have fr13 := HR3.out.free 1
      clear t02 t12 k02 k12
      try clear r02 r12 fr02 fr12
      by_cases h3 : 0 ≤ fndI t.fs s p
      · have HA : Hid (mapOK t s p fr r = false) := by show _ = _; unfold mapOK; rw [h1, h2, decide_eq_true h3]; rfl
        have HV := Lib.hid (mapOK_false HA.out)
        go_wp2
        have o3 := (HR3.out.set_ 0 (.slice none 0 0)).set_ 1 (.slice none 0 0)
        have e0 := o3.cell_ 0 (v := .slice none 0 0) rfl
        have e1 := o3.cell_ 1 (v := .slice none 0 0) rfl
        refine bodyPost_ret (v := .tuple #[.agg #[.slice none 0 0, .slice none 0 0], .bool false]) (by simp [results, Tryz.results111, go_sem, e0, e1]) rfl ⟨_, rfl, _, _, by rw [HA.out], ?_, bS (bS HB3.out (by simp; omega)) (by simp; omega)⟩
        rw [HV.out]
        exact tam_z
      · obtain ⟨Af, cf, rfl, hfc, hfm, hF⟩ := HTR.out.f
        obtain ⟨⟨_, hlen, hb1', hlen2⟩, _⟩ := tv_parts h1
        have h3f : decide (0 ≤ fndI t.fs s p) = false := decide_eq_false h3
        have HN3 := Lib.hid h3f
        clear h3f
        cases h4 : inR fr t.fs.length with
        | false =>
          have HA : Hid (mapOK t s p fr r = false) := by show _ = _; unfold mapOK; rw [h1, h2, HN3.out, h4]; rfl
          have HV := Lib.hid (mapOK_false HA.out)
          go_wp2_with fail
          refine (within_any _ _ _).mono ?_
          rintro e w4 ⟨rfl, rfl⟩
          rw [h4]
          go_wp2
          have o3 := (HR3.out.set_ 0 (.slice none 0 0)).set_ 1 (.slice none 0 0)
          have e0 := o3.cell_ 0 (v := .slice none 0 0) rfl
          have e1 := o3.cell_ 1 (v := .slice none 0 0) rfl
          refine bodyPost_ret (v := .tuple #[.agg #[.slice none 0 0, .slice none 0 0], .bool false]) (by simp [results, Tryz.results111, go_sem, e0, e1]) rfl ⟨_, rfl, _, _, by rw [HA.out], ?_, bS (bS HB3.out (by simp; omega)) (by simp; omega)⟩
          rw [HV.out]
          exact tam_z
        | true =>
          obtain ⟨h5, h6⟩ : 0 ≤ fr ∧ fr < t.fs.length := by unfold inR at h4; simpa using h4
          obtain ⟨k, rfl⟩ := Int.eq_ofNat_of_zero_le h5
          have hk : k < t.fs.length := by omega
          obtain ⟨f, ef⟩ : ∃ f, t.fs[k]? = some f := ⟨_, List.getElem?_eq_getElem hk⟩
          obtain ⟨b4, o4, rfl, hb4, d0, d1, d2, d3, d4⟩ := (hF.now (Nat.le_refl _) HB3.out).fr ef
          clear d1 d2 d3 d4
          cases h7 : f.used with
          | true =>
            rw [h7] at d0
            have HA : Hid (mapOK t s p k r = false) := by show _ = _; unfold mapOK; rw [h1, h2, HN3.out, h4, Int.toNat_natCast, ef]; simp [h7]
            have HV := Lib.hid (mapOK_false HA.out)
            go_wp2_with fail
            refine (within_any _ _ _).mono ?_
            rintro e w4 ⟨rfl, rfl⟩
            rw [h4]
            clear ef h4
            go_wp2
            have o3 := (HR3.out.set_ 0 (.slice none 0 0)).set_ 1 (.slice none 0 0)
            have e0 := o3.cell_ 0 (v := .slice none 0 0) rfl
            have e1 := o3.cell_ 1 (v := .slice none 0 0) rfl
            refine bodyPost_ret (v := .tuple #[.agg #[.slice none 0 0, .slice none 0 0], .bool false]) (by simp [results, Tryz.results111, go_sem, e0, e1]) rfl ⟨_, rfl, _, _, by rw [HA.out], ?_, bS (bS HB3.out (by simp; omega)) (by simp; omega)⟩
            rw [HV.out]
            exact tam_z
          | false =>
            rw [h7] at d0
            cases h8 : inR r 8 with
            | false =>
              have HA : Hid (mapOK t s p k r = false) := by show _ = _; unfold mapOK; rw [h8]; simp
              have HV := Lib.hid (mapOK_false HA.out)
              go_wp2_with fail
              refine (within_any _ _ _).mono ?_
              rintro e w4 ⟨rfl, rfl⟩
              rw [h4]
              clear ef h4
              go_wp2_with fail
              refine (RightsValid_any _ _).mono ?_
              rintro e w4 ⟨rfl, rfl⟩
              rw [h8]
              go_wp2
              have o3 := (HR3.out.set_ 0 (.slice none 0 0)).set_ 1 (.slice none 0 0)
              have e0 := o3.cell_ 0 (v := .slice none 0 0) rfl
              have e1 := o3.cell_ 1 (v := .slice none 0 0) rfl
              refine bodyPost_ret (v := .tuple #[.agg #[.slice none 0 0, .slice none 0 0], .bool false]) (by simp [results, Tryz.results111, go_sem, e0, e1]) rfl ⟨_, rfl, _, _, by rw [HA.out], ?_, bS (bS HB3.out (by simp; omega)) (by simp; omega)⟩
              rw [HV.out]
              exact tam_z
            | true =>
              have HA : Hid (mapOK t s p k r = true) := by show _ = _; unfold mapOK; rw [h1, h2, HN3.out, h4, Int.toNat_natCast, ef, h8]; simp [h7]
              have HV : Hid (mapV t s p k r = mapT t s p k r) := by show _ = _; unfold mapV; rw [HA.out]; rfl
              go_wp2_with fail
              refine (within_any _ _ _).mono ?_
              rintro e w4 ⟨rfl, rfl⟩
              rw [h4]
              clear ef h4
              go_wp2_with fail
              refine (RightsValid_any _ _).mono ?_
              rintro e w4 ⟨rfl, rfl⟩
              rw [h8]
              go_wp2_with fail
              refine (tclone_any vb _ t _ (HTR.out.now HB3.out) (by omega) (by omega)).mono ?_
              rintro e w4 ⟨v1, v2, rfl, hM4, hb4⟩
              have HM4S : Hid (w3.heap.size ≤ w4.heap.size) := hb4.size
              have HT4 := Lib.hid (HT3.out.below hb4)
              have HK4 := Lib.hid (HK3.out.below hb4)
              have HR4 := Lib.hid (HR3.out.below hb4)
              have HB4 := Lib.hid (bT HB3.out hb4)
              clear hb4
              have t04 := HT4.out.cell_ 0 rfl
              have t14 := HT4.out.cell_ 1 rfl
              have k04 := HK4.out.cell_ 0 (v := .int .i64 s) rfl
              have k14 := HK4.out.cell_ 1 (v := .int .i64 p) rfl
              have r04 := HR4.out.cell_ 0 (v := .slice none 0 0) rfl
              have r14 := HR4.out.cell_ 1 (v := .slice none 0 0) rfl
              have fr04 := HR4.out.free 0
              have fr14 := HR4.out.free 1
              clear t03 t13 k03 k13
              try clear r03 r13 fr03 fr13
              obtain ⟨A1, c1, rfl, _⟩ := hM4.b
              obtain ⟨A2, c2, rfl, _⟩ := hM4.f
              have ho5 := Own.new_ w4 26 #[.slice A1 t.bs.length c1, .slice A2 t.fs.length c2]
              have hb5 : Below w4.heap.size w4 (w4.alloc (.cells #[.slice A1 t.bs.length c1, .slice A2 t.fs.length c2] 26)) := bA bR
              generalize hW5 : w4.alloc (.cells #[.slice A1 t.bs.length c1, .slice A2 t.fs.length c2] 26) = w5 at ho5 hb5
              have HM5 := Lib.hid (hM4.now hb5)
              have HT5 := Lib.hid (HT4.out.below hb5)
              have HK5 := Lib.hid (HK4.out.below hb5)
              have HR5 := Lib.hid (HR4.out.below hb5)
              have HB5 := Lib.hid (bT HB4.out hb5)
              clear hb5
              have t05 := HT5.out.cell_ 0 rfl
              have t15 := HT5.out.cell_ 1 rfl
              have k05 := HK5.out.cell_ 0 (v := .int .i64 s) rfl
              have k15 := HK5.out.cell_ 1 (v := .int .i64 p) rfl
              have r05 := HR5.out.cell_ 0 (v := .slice none 0 0) rfl
              have r15 := HR5.out.cell_ 1 (v := .slice none 0 0) rfl
              have fr05 := HR5.out.free 0
              have fr15 := HR5.out.free 1
              clear t04 t14 k04 k14
              try clear r04 r14 fr04 fr14
              have o50 := ho5.cell_ 0 rfl
              have o51 := ho5.cell_ 1 rfl
              have HO5 := Lib.hid ho5
              have hsz3 := HB3.out.size
              have hsz5 : w3.heap.size ≤ w5.heap.size := by have := ho5.lt; have := HM4S.out; omega
              clear hM4 ho5
              go_wp2_with fail
              refine (link_any w3.heap.size _ _ t s p k r _ HM5.out hsz5 h2 hb1' hlen2 hk).mono ?_
              rintro e w6 ⟨v6, rfl, hM6, hb6, hkeep⟩
              have hR6 := hkeep _ _ _ HR5.out (by decide) (by decide)
              have hO6 := hkeep _ _ _ HO5.out (by decide) (by decide)
              have HB6 : Hid (Below w.heap.size w w6) := HB5.out.trans (hb6.mono hsz3)
              have HM6 := Lib.hid hM6
              have r06 := hR6.cell_ 0 (v := .slice none 0 0) rfl
              have r16 := hR6.cell_ 1 (v := .slice none 0 0) rfl
              have fr06 := hR6.free 0
              have fr16 := hR6.free 1
              have o60 := hO6.cell_ 0 (v := .slice A1 t.bs.length c1) rfl
              have o61 := hO6.cell_ 1 (v := .slice A2 t.fs.length c2) rfl
              have HR6 := Lib.hid hR6
              have hlt3 := HR3.out.lt
              clear hM6 hb6 hkeep hR6 hO6
              go_wp2
              have o3 := (HR6.out.set_ 0 (.slice A1 t.bs.length c1)).set_ 1 (.slice A2 t.fs.length c2)
              have e0 := o3.cell_ 0 (v := .slice A1 t.bs.length c1) rfl
              have e1 := o3.cell_ 1 (v := .slice A2 t.fs.length c2) rfl
              have M7 := ((HM6.out.far (p := ⟨w.heap.size + 1 + 1, 0, none⟩) (u := .slice A1 t.bs.length c1) hlt3).far (p := ⟨w.heap.size + 1 + 1, 1, none⟩) (u := .slice A2 t.fs.length c2) hlt3).mono hsz3
              refine bodyPost_ret (v := .tuple #[.agg #[.slice A1 t.bs.length c1, .slice A2 t.fs.length c2], .bool true]) (by simp [results, Tryz.results111, go_sem, e0, e1]) rfl ⟨_, rfl, _, _, by rw [HA.out], ?_, bS (bS HB6.out (by simp; omega)) (by simp; omega)⟩
              rw [HV.out]
              exact M7
end Go.Proofs.YtnaagdmaggdbmaaGreatDoor
namespace Go.Proofs.YtnaagdmaggdbmaaGreatDoor
open Go.RowKit
theorem MaM.far {B : Nat} {w : World} {vb vf vl vo : Value} {m : Ma} (h : MaM B w vb vf vl vo m) {p : Addr} (hp : p.block < B) {u : Value} : MaM B (w.setCell p u) vb vf vl vo m := ⟨h.t.far hp, h.l.far hp, h.o.far hp⟩
theorem MaM.mono {B B' : Nat} {w : World} {vb vf vl vo : Value} {m : Ma} (h : MaM B w vb vf vl vo m) (hb : B' ≤ B) : MaM B' w vb vf vl vo m := ⟨h.t.mono hb, h.l.mono hb, h.o.mono hb⟩
theorem mam_z {base : Nat} {w : World} : MaM base w (.slice none 0 0) (.slice none 0 0) (.slice none 0 0) (.slice none 0 0) maz := ⟨tam_z, SlM.nil_ _, SlM.nil_ _⟩
end Go.Proofs.YtnaagdmaggdbmaaGreatDoor
namespace Go.Proofs.YtnaagdmaggdbmaaGreatDoor
open Go.RowKit
set_option maxRecDepth 1000000

theorem tagValid_any (n : Int) (w : World) : Calls Tryz.prog 197 #[.int .i64 n] w fun r w' => r = .returned (.bool (tagv n)) ∧ w = w' := by
  by_cases h0 : -1 ≤ n
  · have H : Hid (tagv n = decide (n < 8)) := by show _ = _; unfold tagv; rw [decide_eq_true h0]; rfl
    go_enter Tryz.func197, Tryz.ntmps197
    go_wp2
    go_ret
    exact ⟨by rw [H.out]; rfl, rfl⟩
  · have H : Hid (tagv n = false) := by show _ = _; unfold tagv; rw [decide_eq_false h0]; rfl
    go_enter Tryz.func197, Tryz.ntmps197
    go_wp2
    go_ret
    exact ⟨by rw [H.out]; rfl, rfl⟩
set_option maxHeartbeats 1000000 in
theorem lineValid_any (x : Ln) (w : World) : Calls Tryz.prog 130 #[lnV x] w fun r w' => r = .returned (.bool (lnok x)) ∧ Below w.heap.size w w' := by
  obtain ⟨v, t, p, f, r, wi⟩ := x
  cases v with
  | false =>
    have he : ∀ W, (binOp .eql 106 (.agg #[.bool false, .int .i64 t, .int .i64 p, .int .i64 f, .int .i64 r, .bool wi]) (.agg #[.bool false, .int .i64 0, .int .i64 0, .int .i64 0, .int .i64 0, .bool false])).run Tryz.prog W = .ok (.bool (lnok ⟨false, t, p, f, r, wi⟩)) W := fun W => eql_ln ⟨false, t, p, f, r, wi⟩ lnz W
    simp only [lnV]
    generalize lnok ⟨false, t, p, f, r, wi⟩ = B at he ⊢
    go_enter Tryz.func130, Tryz.ntmps130
    go_wp2
    go_ret
    exact ⟨rfl, by repeat first | exact bR | refine bA ?_⟩
  | true =>
    have H : Hid (lnok ⟨true, t, p, f, r, wi⟩ = (tagv t && inR p 256 && inR f 16 && inR r 8)) := rfl
    simp only [lnV]
    cases h1 : tagv t with
    | false =>
      go_enter Tryz.func130, Tryz.ntmps130
      go_wp2_with (first | (go_at_call 197; refine (tagValid_any _ _).mono ?_; rintro e w' ⟨rfl, rfl⟩) | (go_at_call 77; refine (within_any _ _ _).mono ?_; rintro e w' ⟨rfl, rfl⟩) | (go_at_call 95; refine (RightsValid_any _ _).mono ?_; rintro e w' ⟨rfl, rfl⟩))
      go_ret
      exact ⟨by rw [H.out, h1]; rfl, bA bR⟩
    | true =>
      cases h2 : inR p 256 with
      | false =>
        go_enter Tryz.func130, Tryz.ntmps130
        go_wp2_with (first | (go_at_call 197; refine (tagValid_any _ _).mono ?_; rintro e w' ⟨rfl, rfl⟩) | (go_at_call 77; refine (within_any _ _ _).mono ?_; rintro e w' ⟨rfl, rfl⟩) | (go_at_call 95; refine (RightsValid_any _ _).mono ?_; rintro e w' ⟨rfl, rfl⟩))
        go_ret
        exact ⟨by rw [H.out, h1, h2]; rfl, bA bR⟩
      | true =>
        cases h3 : inR f 16 with
        | false =>
          go_enter Tryz.func130, Tryz.ntmps130
          go_wp2_with (first | (go_at_call 197; refine (tagValid_any _ _).mono ?_; rintro e w' ⟨rfl, rfl⟩) | (go_at_call 77; refine (within_any _ _ _).mono ?_; rintro e w' ⟨rfl, rfl⟩) | (go_at_call 95; refine (RightsValid_any _ _).mono ?_; rintro e w' ⟨rfl, rfl⟩))
          go_ret
          exact ⟨by rw [H.out, h1, h2, h3]; rfl, bA bR⟩
        | true =>
          go_enter Tryz.func130, Tryz.ntmps130
          go_wp2_with (first | (go_at_call 197; refine (tagValid_any _ _).mono ?_; rintro e w' ⟨rfl, rfl⟩) | (go_at_call 77; refine (within_any _ _ _).mono ?_; rintro e w' ⟨rfl, rfl⟩) | (go_at_call 95; refine (RightsValid_any _ _).mono ?_; rintro e w' ⟨rfl, rfl⟩))
          go_ret
          exact ⟨by rw [H.out, h1, h2, h3]; rfl, bA bR⟩
set_option maxHeartbeats 1000000 in
theorem clash_any (x y : Ln) (w : World) : Calls Tryz.prog 131 #[lnV x, lnV y] w fun r w' => r = .returned (.bool (clash x y)) ∧ Below w.heap.size w w' := by
  obtain ⟨xv, xt, xp, xf, xr, xw⟩ := x
  obtain ⟨yv, yt, yp, yf, yr, yw⟩ := y
  simp only [lnV]
  cases xv with
  | false =>
    have H : Hid (clash ⟨false, xt, xp, xf, xr, xw⟩ ⟨yv, yt, yp, yf, yr, yw⟩ = false) := rfl
    go_enter Tryz.func131, Tryz.ntmps131
    go_wp2
    go_ret
    exact ⟨by rw [H.out]; rfl, by repeat first | exact bR | refine bA ?_⟩
  | true =>
    cases yv with
    | false =>
      have H : Hid (clash ⟨true, xt, xp, xf, xr, xw⟩ ⟨false, yt, yp, yf, yr, yw⟩ = false) := rfl
      go_enter Tryz.func131, Tryz.ntmps131
      go_wp2
      go_ret
      exact ⟨by rw [H.out]; rfl, by repeat first | exact bR | refine bA ?_⟩
    | true =>
      by_cases hp : xp = yp
      case neg =>
        have H : Hid (clash ⟨true, xt, xp, xf, xr, xw⟩ ⟨true, yt, yp, yf, yr, yw⟩ = false) := by simp [Hid, clash, hp]
        go_enter Tryz.func131, Tryz.ntmps131
        go_wp2
        go_ret
        exact ⟨by rw [H.out]; rfl, by repeat first | exact bR | refine bA ?_⟩
      case pos =>
        by_cases ht : xt = yt
        · have H : Hid (clash ⟨true, xt, xp, xf, xr, xw⟩ ⟨true, yt, yp, yf, yr, yw⟩ = true) := by simp [Hid, clash, hp, ht]
          go_enter Tryz.func131, Tryz.ntmps131
          go_wp2
          go_ret
          exact ⟨by rw [H.out]; rfl, by repeat first | exact bR | refine bA ?_⟩
        by_cases h1 : xt = -1
        · have H : Hid (clash ⟨true, xt, xp, xf, xr, xw⟩ ⟨true, yt, yp, yf, yr, yw⟩ = true) := by simp [Hid, clash, hp, h1]
          go_enter Tryz.func131, Tryz.ntmps131
          go_wp2
          go_ret
          exact ⟨by rw [H.out]; rfl, by repeat first | exact bR | refine bA ?_⟩
        · have H : Hid (clash ⟨true, xt, xp, xf, xr, xw⟩ ⟨true, yt, yp, yf, yr, yw⟩ = (xt == yt || xt == -1 || yt == -1)) := by show _ = _; unfold clash; rw [decide_eq_true hp]; rfl
          go_enter Tryz.func131, Tryz.ntmps131
          go_wp2
          go_ret
          exact ⟨by rw [H.out]; rfl, by repeat first | exact bR | refine bA ?_⟩
theorem slice_lines {w : World} (A : Option Addr) (n c : Nat) (h : Int) (h0 : 0 ≤ h) (h1 : h ≤ c) :
    (Instr.slice 27 (.slice A n c) none (some (.int .i64 h)) none).run Tryz.prog w = .ok (.slice (cutA A c 0 6) (h.toNat - 0) (c - 0)) w := by
  obtain ⟨i, hi, _, hz, _⟩ := info_parts ln_info
  exact slice_hi w _ _ i 6 A n c Tryz.underlying27 hi h h0 h1
theorem cutA_zero (A : Option Addr) (c sz : Nat) : cutA A c 0 sz = A := by
  unfold cutA
  split
  · rfl
  · cases A with
    | none => rfl
    | some a => cases a with | mk b o p => cases p <;> simp [Addr.add]
set_option maxHeartbeats 4000000 in
theorem CacheValid_any (vl : Value) (c : Ca) (w : World) (hT : SlR lnE w vl c.ls) :
    Calls Tryz.prog 64 #[.agg #[vl, .int .i64 c.hand]] w fun r w' => r = .returned (.bool (cav c)) ∧ Below w.heap.size w w' := by
  obtain ⟨A, cc, rfl, hbc, hbm, hL⟩ := hT
  have hfm2 : c.ls.length ≤ 9223372036854775807 := by unfold maxLen at hbm; omega
  have HL := Lib.hid hL
  have hbx := Own.new_ w 29 #[.slice A c.ls.length cc, .int .i64 c.hand]
  have hbz : Below w.heap.size w (w.alloc (.cells #[.slice A c.ls.length cc, .int .i64 c.hand] 29)) := bA bR
  generalize hW : w.alloc (.cells #[.slice A c.ls.length cc, .int .i64 c.hand] 29) = W0 at hbx hbz
  have q0 := hbx.cell_ 0 (v := .slice A c.ls.length cc) rfl
  have q1 := hbx.cell_ 1 (v := .int .i64 c.hand) rfl
  have HBX := Lib.hid hbx
  clear hL hbx hbm
  by_cases h1 : c.ls.length < 1
  · have g1 : (c.ls.length : Int) < 1 := by omega
    go_enter Tryz.func64, Tryz.ntmps64
    have HE : Hid (cav c = false) := cav_no fun h => by have := (cav_parts h).1; omega
    go_wp2
    go_ret
    exact ⟨by rw [HE.out]; rfl, hbz⟩
  · have g1 : ¬ (c.ls.length : Int) < 1 := by omega
    by_cases h2 : 8 < c.ls.length
    · have g2 : (8 : Int) < (c.ls.length : Int) := by omega
      go_enter Tryz.func64, Tryz.ntmps64
      have HE : Hid (cav c = false) := cav_no fun h => by have := (cav_parts h).2.1; omega
      go_wp2
      go_ret
      exact ⟨by rw [HE.out]; rfl, hbz⟩
    · have g2 : ¬ (8 : Int) < (c.ls.length : Int) := by omega
      cases h3 : inR c.hand c.ls.length with
      | false =>
        go_enter Tryz.func64, Tryz.ntmps64
        go_wp2_with fail
        refine (within_any _ _ _).mono ?_
        rintro e w1 ⟨rfl, rfl⟩
        rw [h3]
        have HE : Hid (cav c = false) := cav_no fun h => by have := (cav_parts h).2.2.1; rw [h3] at this; cases this
        go_wp2
        go_ret
        exact ⟨by rw [HE.out]; rfl, hbz⟩
      | true =>
        go_enter Tryz.func64, Tryz.ntmps64
        go_wp2_with fail
        refine (within_any _ _ _).mono ?_
        rintro e w1 ⟨rfl, rfl⟩
        rw [h3]
        go_wp2
        clear q0 q1
        go_loopw [4, 28] (fun sv u wr => ∃ k : Nat, k ≤ c.ls.length ∧ u = .int .i64 k ∧ sv = .bool (loose c.ls k) ∧ Hid (lok c.ls k = true) ∧ Own wr w.heap.size 29 #[.slice A c.ls.length cc, .int .i64 c.hand] ∧ Below w.heap.size w wr) (fun _ u _ => c.ls.length - (intOf u).toNat)
        case atStart => exact ⟨0, by omega, rfl, rfl, rfl, HBX.out, hbz⟩
        case round =>
          clear hbz
          obtain ⟨k, hk, rfl, rfl, hlok, hbox, hbz⟩ := hrel
          have HBOX := Lib.hid hbox
          have hbl := hbox.lt
          clear hbox
          by_cases hlt : k < c.ls.length
          · obtain ⟨x, ex⟩ : ∃ x, c.ls[k]? = some x := ⟨_, List.getElem?_eq_getElem hlt⟩
            obtain ⟨b, o, rfl, hbb, d0, d1, d2, d3, d4, d5⟩ := (HL.out.below hbz).ln ex
            go_wp2_with fail
            refine (lineValid_any x _).mono ?_
            rintro e w3 ⟨rfl, hb3'⟩
            obtain ⟨ob, hb3⟩ := one_box hb3'
            have HBOX3 := Lib.hid (HBOX.out.below hb3)
            have HX := Lib.hid ob
            have EX := Lib.hid ex
            have hbz3 := bT hbz hb3
            have hxl : w.heap.size < wr.heap.size := hbl
            generalize hgx : wr.heap.size = gx at *
            clear hb3' hb3 d0 d1 d2 d3 d4 d5 hbz hbl ob
            have hbz := hbz3
            clear hbz3
            cases hx : lnok x with
            | false =>
              have HE : Hid (cav c = false) := cav_ln ex hx
              go_wp2
              go_ret
              exact ⟨by rw [HE.out]; rfl, hbz⟩
            | true =>
              have q0 := HBOX3.out.cell_ 0 (v := .slice (some ⟨b, o, none⟩) c.ls.length cc) rfl
              have hsl := slice_lines (w := w3) (some ⟨b, o, none⟩) c.ls.length cc k (by omega) (by omega)
              have HN := Lib.hid (loose_step ex)
              rw [cutA_zero, Nat.sub_zero, Nat.sub_zero, Int.toNat_natCast] at hsl
              go_wp2
              clear q0 hsl
              go_loopw [41] (fun u wi => ∃ r : Nat, r ≤ k ∧ u = .int .i64 r ∧ Hid (∀ (m : Nat) (y : Ln), m < r → c.ls[m]? = some y → clash x y = false) ∧ Below w3.heap.size w3 wi) (fun u _ => k - (intOf u).toNat)
              case atStart => exact ⟨0, by omega, rfl, (fun m j h => absurd h (by omega)), bR⟩
              case round =>
                obtain ⟨r, hr, rfl, hacc, hbi⟩ := hrel
                have HBI := Lib.hid (HBOX3.out.below hbi)
                have HXI := Lib.hid (HX.out.below hbi)
                have hgl := HXI.out.lt
                by_cases hlr : r < k
                · obtain ⟨y, ey⟩ : ∃ y, c.ls[r]? = some y := ⟨_, List.getElem?_eq_getElem (by omega)⟩
                  obtain ⟨b', o', e', hbb', d0, d1, d2, d3, d4, d5⟩ := (HL.out.below (bT hbz hbi)).ln ey
                  injection e' with e'
                  injection e' with e' e2'
                  subst e' e2'
                  have x0 := HXI.out.cell_ 0 (v := .bool x.v) rfl
                  have x1 := HXI.out.cell_ 1 (v := .int .i64 x.t) rfl
                  have x2 := HXI.out.cell_ 2 (v := .int .i64 x.p) rfl
                  have x3 := HXI.out.cell_ 3 (v := .int .i64 x.f) rfl
                  have x4 := HXI.out.cell_ 4 (v := .int .i64 x.r) rfl
                  have x5 := HXI.out.cell_ 5 (v := .bool x.w) rfl
                  have EY := Lib.hid ey
                  clear ey
                  go_wp2_with fail
                  refine (clash_any x y _).mono ?_
                  rintro e w4 ⟨rfl, hb4⟩
                  have hbi4 := bT (bA hbi) hb4
                  clear hb4 hbi d0 d1 d2 d3 d4 d5 x0 x1 x2 x3 x4 x5
                  cases hc : clash x y with
                  | true =>
                    have HE : Hid (cav c = false) := cav_clash EX.out hlr EY.out hc
                    go_wp2
                    go_ret
                    exact ⟨by rw [HE.out]; rfl, bT hbz hbi4⟩
                  | false =>
                    have HACC : Hid (∀ (m : Nat) (y : Ln), m < r + 1 → c.ls[m]? = some y → clash x y = false) := fun m z hm ez => by
                      rcases Nat.lt_or_ge m r with h | h
                      · exact hacc.out m z h ez
                      · obtain rfl : m = r := by omega
                        rw [EY.out] at ez
                        injection ez with ez
                        rw [← ez]
                        exact hc
                    go_wp2
                    go_roundw
                    case rel => exact ⟨r + 1, by omega, by go_num, HACC, hbi4⟩
                    case measure => simp [intOf]; omega
                · obtain rfl : r = k := by omega
                  have HLOK : Hid (lok c.ls (r + 1) = true) := lok_step hlok.out EX.out hx hacc.out
                  have x5 := HXI.out.cell_ 5 (v := .bool x.w) rfl
                  generalize loose c.ls r = L at *
                  cases L with
                  | true =>
                    go_wp2
                    go_roundw
                    case rel => exact ⟨r + 1, by omega, by go_num, by rw [HN.out]; rfl, HLOK, HBI.out, bT hbz hbi⟩
                    case measure => simp [intOf]; omega
                  | false =>
                    go_wp2
                    go_roundw
                    case rel => exact ⟨r + 1, by omega, by go_num, by rw [HN.out]; rfl, HLOK, HBI.out, bT hbz hbi⟩
                    case measure => simp [intOf]; omega
          · obtain rfl : k = c.ls.length := by omega
            have HE : Hid (cav c = loose c.ls c.ls.length) := by show _ = _; rw [cav_end (by omega) (by omega) h3 hlok.out, loose_all]
            go_wp2
            go_ret
            exact ⟨by rw [HE.out]; rfl, hbz⟩
end Go.Proofs.YtnaagdmaggdbmaaGreatDoor
namespace Go.Proofs.YtnaagdmaggdbmaaGreatDoor
open Go.RowKit Go.Maps Go.WideMaps
set_option maxRecDepth 1000000

/-- the spaces of the first owners -/
def OSt (os : List (Int × Int)) (k : Nat) (S : List Int) : Prop := S.length = k ∧ ∀ a, a ∈ S ↔ ∃ (r : Nat) (q : Int × Int), r < k ∧ os[r]? = some q ∧ q.1 = a
theorem ost_zero (os : List (Int × Int)) : OSt os 0 [] := ⟨rfl, fun a => ⟨fun h => (by cases h), fun ⟨r, q, h, _⟩ => absurd h (by omega)⟩⟩
theorem ost_step {os : List (Int × Int)} {k : Nat} {S : List Int} {o : Int × Int} (h : OSt os k S) (e : os[k]? = some o) : OSt os (k + 1) (S ++ [o.1]) := by
  refine ⟨by rw [List.length_append, h.1]; rfl, fun a => ?_⟩
  rw [List.mem_append, List.mem_singleton, h.2 a]
  constructor
  · rintro (⟨r, g, h1, h2⟩ | rfl)
    · exact ⟨r, g, by omega, h2⟩
    · exact ⟨k, o, by omega, e, rfl⟩
  · rintro ⟨r, g, h1, h2, h3⟩
    rcases Nat.lt_or_ge r k with h4 | h4
    · exact .inl ⟨r, g, h4, h2, h3⟩
    · obtain rfl : r = k := by omega
      rw [e] at h2
      injection h2 with h2
      exact .inr (by rw [← h3, ← h2])
set_option maxHeartbeats 4000000 in
theorem TagsValid_any (vo : Value) (g : Tg) (w : World) (hT : SlR owE w vo g.os) :
    Calls Tryz.prog 65 #[.agg #[.int .i64 g.count, .int .i64 g.next, .int .i64 g.round, vo]] w fun r w' => r = .returned (.bool (tgv g)) ∧ Below w.heap.size w w' := by
  obtain ⟨A, cc, rfl, hbc, hbm, hL⟩ := hT
  have hfm2 : g.os.length ≤ 9223372036854775807 := by unfold maxLen at hbm; omega
  have HL := Lib.hid hL
  have hmm := @run_makeMap Tryz.prog
  have hbx := Own.new_ w 32 #[.int .i64 g.count, .int .i64 g.next, .int .i64 g.round, .slice A g.os.length cc]
  have hbz : Below w.heap.size w (w.alloc (.cells #[.int .i64 g.count, .int .i64 g.next, .int .i64 g.round, .slice A g.os.length cc] 32)) := bA bR
  have hsz0 : (w.alloc (.cells #[.int .i64 g.count, .int .i64 g.next, .int .i64 g.round, .slice A g.os.length cc] 32)).heap.size = w.heap.size + 1 := by simp
  generalize hW : w.alloc (.cells #[.int .i64 g.count, .int .i64 g.next, .int .i64 g.round, .slice A g.os.length cc] 32) = W0 at hbx hbz hsz0
  have q0 := hbx.cell_ 0 (v := .int .i64 g.count) rfl
  have q1 := hbx.cell_ 1 (v := .int .i64 g.next) rfl
  have q2 := hbx.cell_ 2 (v := .int .i64 g.round) rfl
  have q3 := hbx.cell_ 3 (v := .slice A g.os.length cc) rfl
  have HBX := Lib.hid hbx
  clear hL hbx
  by_cases h1 : g.count < 1
  · go_enter Tryz.func65, Tryz.ntmps65
    have HE : Hid (tgv g = false) := tgv_no fun h => by have := (tgv_parts h).1; omega
    go_wp2
    go_ret
    exact ⟨by rw [HE.out]; rfl, hbz⟩
  by_cases h2 : 8 < g.count
  · go_enter Tryz.func65, Tryz.ntmps65
    have HE : Hid (tgv g = false) := tgv_no fun h => by have := (tgv_parts h).1; omega
    go_wp2
    go_ret
    exact ⟨by rw [HE.out]; rfl, hbz⟩
  by_cases h3 : g.next < 0
  · go_enter Tryz.func65, Tryz.ntmps65
    have HE : Hid (tgv g = false) := tgv_no fun h => by have := (tgv_parts h).1; omega
    go_wp2
    go_ret
    exact ⟨by rw [HE.out]; rfl, hbz⟩
  by_cases h4 : g.count < g.next
  · go_enter Tryz.func65, Tryz.ntmps65
    have HE : Hid (tgv g = false) := tgv_no fun h => by have := (tgv_parts h).1; omega
    go_wp2
    go_ret
    exact ⟨by rw [HE.out]; rfl, hbz⟩
  by_cases h5 : g.round < 0
  · go_enter Tryz.func65, Tryz.ntmps65
    have HE : Hid (tgv g = false) := tgv_no fun h => by have := (tgv_parts h).1; omega
    go_wp2
    go_ret
    exact ⟨by rw [HE.out]; rfl, hbz⟩
  by_cases h6 : 1000000 < g.round
  · go_enter Tryz.func65, Tryz.ntmps65
    have HE : Hid (tgv g = false) := tgv_no fun h => by have := (tgv_parts h).1; omega
    go_wp2
    go_ret
    exact ⟨by rw [HE.out]; rfl, hbz⟩
  have HGB : Hid (tgb g = true) := tgb_iff.2 (by omega)
  go_enter Tryz.func65, Tryz.ntmps65
  go_wp2
  clear q0 q2 q3
  go_loopw [4, 41] (fun sv u wr => ∃ (k : Nat) (S : List Int) (D : DataW Unit), k ≤ g.os.length ∧ u = .int .i64 k ∧ sv = .int .i64 (tlast g.os k) ∧ Hid (tok g.os g.next k = true) ∧ Hid (OSt g.os k S) ∧ SetI S D ∧ wr.ownsMap Tryz.prog 3 (plainElem Tryz.prog 4) (w.heap.size + 1) k D ∧ Own wr w.heap.size 32 #[.int .i64 g.count, .int .i64 g.next, .int .i64 g.round, .slice A g.os.length cc] ∧ Below w.heap.size w wr) (fun _ u _ => g.os.length - (intOf u).toNat)
  case atStart => exact ⟨0, [], _, by omega, rfl, rfl, rfl, ost_zero _, SetD.nil_, (by rw [← hsz0]; exact World.ownsMap_made _ _ _ _), HBX.out.alloc, bA hbz⟩
  case round =>
    clear hbz
    obtain ⟨k, S, D, hk, rfl, rfl, htok, hst, hsd, hmap, hbox, hbz⟩ := hrel
    have q1 := hbox.cell_ 1 (v := .int .i64 g.next) rfl
    have HBOX := Lib.hid hbox
    have HMAP := Lib.hid hmap
    have hbl := hbox.lt
    clear hbox hmap
    by_cases hlt : k < g.os.length
    · obtain ⟨o, eo⟩ : ∃ o, g.os[k]? = some o := ⟨_, List.getElem?_eq_getElem hlt⟩
      obtain ⟨b, ob, rfl, hbb, d0, d1⟩ := (HL.out.below hbz).ow eo
      have EO := Lib.hid eo
      generalize htl : tlast g.os k = tl at *
      clear eo
      by_cases g1 : o.2 ≤ tl
      case pos =>
        have HE : Hid (tgv g = false) := tgv_ob EO.out (.inr (.inr (.inl (by omega))))
        go_wp2
        go_ret
        exact ⟨by rw [HE.out]; rfl, bA hbz⟩
      case neg =>
      by_cases g2 : g.next ≤ o.2
      case pos =>
        have HE : Hid (tgv g = false) := tgv_ob EO.out (.inr (.inl (by omega)))
        go_wp2
        go_ret
        exact ⟨by rw [HE.out]; rfl, bA hbz⟩
      case neg =>
      cases g3 : inR o.1 16 with
      | false =>
        have HE : Hid (tgv g = false) := tgv_ob EO.out (.inl g3)
        go_wp2_with (go_at_call 77; refine (within_any _ _ _).mono ?_; rintro e w' ⟨rfl, rfl⟩)
        go_ret
        exact ⟨by rw [HE.out]; rfl, bA hbz⟩
      | true =>
      have hr := inR_iff.1 g3
      have hiok : iok o.1 := WalkArith.wf_i64 (by omega)
      have HMAP2 := Lib.hid (HMAP.out.alloc (.cells #[.int .i64 o.1, .int .i64 o.2] 155))
      have hlook := seti_look HMAP2.out hsd hiok
      by_cases g4 : o.1 ∈ S
      case pos =>
        rw [decide_eq_true g4] at hlook
        have HE : Hid (tgv g = false) := tgv_ob EO.out (.inr (.inr (.inr (by
          obtain ⟨r, q, h1, h2, h3⟩ := (hst.out.2 _).1 g4
          exact ⟨r, q, h1, h2, h3⟩))))
        go_wp2_with (go_at_call 77; refine (within_any _ _ _).mono ?_; rintro e w' ⟨rfl, rfl⟩)
        go_ret
        exact ⟨by rw [HE.out]; rfl, bA hbz⟩
      case neg =>
        rw [decide_eq_false g4] at hlook
        have HTOK : Hid (tok g.os g.next (k + 1) = true) := tok_step htok.out EO.out g3 (by omega) (by omega) (fun r q hr eq hq => g4 ((hst.out.2 _).2 ⟨r, q, hr, eq, hq⟩))
        have HST := Lib.hid (ost_step hst.out EO.out)
        have HSD := Lib.hid (seti_add hsd hiok g4)
        have HKEY := Lib.hid (ikey_of hiok)
        have HTL := Lib.hid (tlast_of EO.out)
        have hkm : k < maxLen := by omega
        clear hsd g4 hst htok
        go_wp2_with (first
          | (go_at_call 77; refine (within_any _ _ _).mono ?_; rintro e w' ⟨rfl, rfl⟩)
          | (at_mapUpdate; refine wpList_mapUpdate_own _ rfl _ _ _ 159 rfl 3 4 ilaw Tryz.underlying159 (plainElem (H := Unit) Tryz.prog 4) (w.heap.size + 1) k _ rfl HMAP2.out hkm _ _ _ rfl rfl HKEY.out _ [] (plainElem_bool Tryz.underlying4 true) ?_; intro w4 hown4 hgrow4)
          | go_in)
        go_roundw
        case rel => exact ⟨k + 1, _, _, by omega, by go_num, by rw [HTL.out], HTOK, HST, HSD.out, hown4, own_other HBOX.out.alloc hgrow4 (by simp), bG (bA hbz) hgrow4 (by intro q hq; injection hq with hq; omega)⟩
        case measure => simp [intOf]; omega
    · obtain rfl : k = g.os.length := by omega
      have HE : Hid (tgv g = true) := tgv_end HGB.out htok.out
      go_wp2
      go_ret
      exact ⟨by rw [HE.out]; rfl, hbz⟩
end Go.Proofs.YtnaagdmaggdbmaaGreatDoor
namespace Go.Proofs.YtnaagdmaggdbmaaGreatDoor
open Go.RowKit
set_option maxRecDepth 1000000

set_option maxHeartbeats 1000000 in
theorem SpaceOf_any (vo : Value) (g : Tg) (tag : Int) (w : World) (hT : SlR owE w vo g.os) :
    Calls Tryz.prog 67 #[.agg #[.int .i64 g.count, .int .i64 g.next, .int .i64 g.round, vo], .int .i64 tag] w fun r w' => r = .returned (.tuple #[.int .i64 (spV g tag), .bool (spO g tag)]) ∧ Below w.heap.size w w' := by
  have HV := Lib.hid hT
  obtain ⟨A, cc, rfl, hbc, hbm, hL⟩ := hT
  have hfm2 : g.os.length ≤ 9223372036854775807 := by unfold maxLen at hbm; omega
  have HL := Lib.hid hL
  have hbx := Own.new_ w 32 #[.int .i64 g.count, .int .i64 g.next, .int .i64 g.round, .slice A g.os.length cc]
  have hbz : Below w.heap.size w (w.alloc (.cells #[.int .i64 g.count, .int .i64 g.next, .int .i64 g.round, .slice A g.os.length cc] 32)) := bA bR
  have hsz0 : (w.alloc (.cells #[.int .i64 g.count, .int .i64 g.next, .int .i64 g.round, .slice A g.os.length cc] 32)).heap.size = w.heap.size + 1 := by simp
  generalize hW : w.alloc (.cells #[.int .i64 g.count, .int .i64 g.next, .int .i64 g.round, .slice A g.os.length cc] 32) = W0 at hbx hbz hsz0
  have q0 := hbx.cell_ 0 (v := .int .i64 g.count) rfl
  have q1 := hbx.cell_ 1 (v := .int .i64 g.next) rfl
  have q2 := hbx.cell_ 2 (v := .int .i64 g.round) rfl
  have q3 := hbx.cell_ 3 (v := .slice A g.os.length cc) rfl
  have HBX := Lib.hid hbx
  clear hL hbx
  go_enter Tryz.func67, Tryz.ntmps67
  go_wp2_with fail
  refine (TagsValid_any _ g _ (HV.out.now hbz)).mono ?_
  rintro e w1 ⟨rfl, hb1⟩
  have HBX1 := Lib.hid (HBX.out.below hb1)
  have HBZ1 := Lib.hid (bT hbz hb1)
  clear hb1 q0 q1 q2 q3
  have q3 := HBX1.out.cell_ 3 (v := .slice A g.os.length cc) rfl
  cases h1 : tgv g with
  | false =>
    obtain ⟨e1, e2⟩ := spO_no (tag := tag) h1
    have E1 := Lib.hid e1
    have E2 := Lib.hid e2
    clear e1 e2
    go_wp2
    go_ret2
    exact ⟨by rw [E1.out, E2.out]; rfl, HBZ1.out⟩
  | true =>
    go_wp2
    clear q3
    go_loopw [14] (fun u wr => ∃ k : Nat, k ≤ g.os.length ∧ u = .int .i64 k ∧ Hid (∀ (j : Nat) (q : Int × Int), j < k → g.os[j]? = some q → ¬ q.2 = tag) ∧ Below w.heap.size w wr) (fun u _ => g.os.length - (intOf u).toNat)
    case atStart => exact ⟨0, by omega, rfl, (fun j q h => absurd h (by omega)), HBZ1.out⟩
    case round =>
      obtain ⟨k, hk, rfl, hacc, hbi⟩ := hrel
      by_cases hlt : k < g.os.length
      · obtain ⟨o, eo⟩ : ∃ o, g.os[k]? = some o := ⟨_, List.getElem?_eq_getElem hlt⟩
        obtain ⟨b, ob, rfl, hbb, d0, d1⟩ := (HL.out.below hbi).ow eo
        by_cases ht : o.2 = tag
        · obtain ⟨e1, e2⟩ := spO_some h1 (spc_at eo hacc.out ht) eo
          have E1 := Lib.hid e1
          have E2 := Lib.hid e2
          clear e1 e2 eo
          go_wp2
          go_ret2
          exact ⟨by rw [E1.out, E2.out]; rfl, bA hbi⟩
        · have HACC := Lib.hid (spc_go eo hacc.out ht)
          clear eo
          go_wp2
          go_roundw
          case rel => exact ⟨k + 1, by omega, by go_num, HACC, bA hbi⟩
          case measure => simp [intOf]; omega
      · obtain ⟨e1, e2⟩ := spO_none h1 (spc_none (Nat.le_of_not_lt hlt) hacc.out)
        have E1 := Lib.hid e1
        have E2 := Lib.hid e2
        clear e1 e2
        go_wp2
        go_ret2
        exact ⟨by rw [E1.out, E2.out]; rfl, hbi⟩
theorem KeyFor_any (s p : Int) (w : World) : Calls Tryz.prog 29 #[.int .i64 s, .int .i64 p] w fun r w' => r = .returned (.agg #[.int .i64 (keyI s p), .int .i64 p]) ∧ Below w.heap.size w w' := by
  by_cases h : 128 ≤ p
  · have H : Hid (keyI s p = 0) := by show _ = _; unfold keyI; rw [if_pos h]
    go_enter Tryz.func29, Tryz.ntmps29
    go_wp2
    refine bodyPost_ret (v := .agg #[.int .i64 (keyI s p), .int .i64 p]) (by simp [results, Tryz.results29, go_sem, H.out]) rfl ⟨rfl, ?_⟩
    repeat first | exact bR | refine bS ?_ (by simp) | refine bA ?_
  · have H : Hid (keyI s p = s) := by show _ = _; unfold keyI; rw [if_neg h]
    go_enter Tryz.func29, Tryz.ntmps29
    go_wp2
    refine bodyPost_ret (v := .agg #[.int .i64 (keyI s p), .int .i64 p]) (by simp [results, Tryz.results29, go_sem, H.out]) rfl ⟨rfl, ?_⟩
    repeat first | exact bR | refine bS ?_ (by simp) | refine bA ?_
end Go.Proofs.YtnaagdmaggdbmaaGreatDoor
namespace Go.Proofs.YtnaagdmaggdbmaaGreatDoor
open Go.RowKit
set_option maxRecDepth 1000000

theorem prOK_false {t : Tab} {s p r : Int} (h : prOK t s p r = false) : prV t s p r = tabz := by unfold prV; rw [h]; rfl
theorem fndI_lt {fs : List Fr} {s p : Int} (h : 0 ≤ fndI fs s p) : ∃ (k : Nat) (f : Fr), fndI fs s p = (k : Int) ∧ fs[k]? = some f ∧ f.used = true ∧ (f.s, f.p) = (s, p) := by
  unfold fndI at h ⊢
  cases e : fnd fs s p with
  | none => rw [e] at h; simp at h
  | some i =>
    obtain ⟨f, h1, h2, h3⟩ := fnd_some e
    exact ⟨i, f, rfl, h1, h2, h3⟩
theorem find_p (vb vf : Value) (t : Tab) (s p : Int) (w : World) (hT : TaR w vb vf t) :
    Calls Tryz.prog 68 #[.agg #[vb, vf], .agg #[.int .i64 s, .int .i64 p]] w (Post2 fun v w' => v = .int .i64 (fndI t.fs s p) ∧ Below w.heap.size w w') := (find_any vb vf t s p w hT).mono fun _ _ h => ⟨_, h.1, rfl, h.2⟩
set_option maxHeartbeats 4000000 in
theorem ProtectPage_any (vb vf : Value) (t : Tab) (s p r : Int) (w : World) (hT : TaR w vb vf t) (hfree : Free w) :
    Calls Tryz.prog 61 #[.agg #[vb, vf], .agg #[.int .i64 s, .int .i64 p], .int .i64 r] w (Post2 fun v w' => ∃ v1 v2, v = .tuple #[.agg #[v1, v2], .bool (prOK t s p r)] ∧ TaM w.heap.size w' v1 v2 (prV t s p r) ∧ Below w.heap.size w w') := by
  have ht0 := ((Own.new_ w 26 #[vb, vf]).alloc (o := .cells #[.int .i64 s, .int .i64 p] 36)).alloc (o := .cells #[.slice none 0 0, .slice none 0 0] 26)
  have hk0 := (Own.new_ (w.alloc (.cells #[vb, vf] 26)) 36 #[.int .i64 s, .int .i64 p]).alloc (o := .cells #[.slice none 0 0, .slice none 0 0] 26)
  have hr0 := Own.new_ ((w.alloc (.cells #[vb, vf] 26)).alloc (.cells #[.int .i64 s, .int .i64 p] 36)) 26 #[.slice none 0 0, .slice none 0 0]
  have hb0 : Below w.heap.size w (((w.alloc (.cells #[vb, vf] 26)).alloc (.cells #[.int .i64 s, .int .i64 p] 36)).alloc (.cells #[.slice none 0 0, .slice none 0 0] 26)) := bA (bA (bA bR))
  rw [show (w.alloc (.cells #[vb, vf] 26)).heap.size = w.heap.size + 1 by simp] at hk0
  rw [show ((w.alloc (.cells #[vb, vf] 26)).alloc (.cells #[.int .i64 s, .int .i64 p] 36)).heap.size = w.heap.size + 1 + 1 by simp] at hr0
  have hs0 : (((w.alloc (.cells #[vb, vf] 26)).alloc (.cells #[.int .i64 s, .int .i64 p] 36)).alloc (.cells #[.slice none 0 0, .slice none 0 0] 26)).heap.size = w.heap.size + 3 := by simp
  generalize hW : ((w.alloc (.cells #[vb, vf] 26)).alloc (.cells #[.int .i64 s, .int .i64 p] 36)).alloc (.cells #[.slice none 0 0, .slice none 0 0] 26) = W0 at ht0 hk0 hr0 hb0 hs0
  have HT0 := Lib.hid ht0
  have HK0 := Lib.hid hk0
  have HR0 := Lib.hid hr0
  have HB0 := Lib.hid hb0
  clear ht0 hk0 hr0 hb0
  have t00 := HT0.out.cell_ 0 (v := vb) rfl
  have t10 := HT0.out.cell_ 1 (v := vf) rfl
  have k00 := HK0.out.cell_ 0 (v := .int .i64 s) rfl
  have k10 := HK0.out.cell_ 1 (v := .int .i64 p) rfl
  have HTR := Lib.hid hT
  have HF := Lib.hid hfree
  clear hT hfree
  go_enter Tryz.func61, Tryz.ntmps61
  go_wp2_with fail
  refine (TableValid_any vb vf t _ (HTR.out.now HB0.out) (HF.out.now HB0.out)).mono ?_
  rintro e w1 ⟨rfl, hb1⟩
  have HT1 := Lib.hid (HT0.out.below hb1)
  have HK1 := Lib.hid (HK0.out.below hb1)
  have HR1 := Lib.hid (HR0.out.below hb1)
  have HB1 := Lib.hid (bT HB0.out hb1)
  clear hb1
  have t01 := HT1.out.cell_ 0 rfl
  have t11 := HT1.out.cell_ 1 rfl
  have k01 := HK1.out.cell_ 0 (v := .int .i64 s) rfl
  have k11 := HK1.out.cell_ 1 (v := .int .i64 p) rfl
  have r01 := HR1.out.cell_ 0 (v := .slice none 0 0) rfl
  have r11 := HR1.out.cell_ 1 (v := .slice none 0 0) rfl
  have fr01 := HR1.out.free 0
  have fr11 := HR1.out.free 1
  clear t00 t10 k00 k10
  try clear r00 r10 fr00 fr10
  cases h1 : tv t with
  | false =>
    have HA : Hid (prOK t s p r = false) := by show _ = _; unfold prOK fOK; rw [h1]; rfl
    have HV := Lib.hid (prOK_false HA.out)
    go_wp2
    have o3 := (HR1.out.set_ 0 (.slice none 0 0)).set_ 1 (.slice none 0 0)
    have e0 := o3.cell_ 0 (v := .slice none 0 0) rfl
    have e1 := o3.cell_ 1 (v := .slice none 0 0) rfl
    refine bodyPost_ret (v := .tuple #[.agg #[.slice none 0 0, .slice none 0 0], .bool false]) (by simp [results, Tryz.results61, go_sem, e0, e1]) rfl ⟨_, rfl, _, _, by rw [HA.out], ?_, bS (bS HB1.out (by simp; omega)) (by simp; omega)⟩
    rw [HV.out]
    exact tam_z
  | true =>
    go_wp2_with fail
    refine (keyValid_any _ _ _).mono ?_
    rintro e w2 ⟨rfl, hb2⟩
    have HT2 := Lib.hid (HT1.out.below hb2)
    have HK2 := Lib.hid (HK1.out.below hb2)
    have HR2 := Lib.hid (HR1.out.below hb2)
    have HB2 := Lib.hid (bT HB1.out hb2)
    clear hb2
    have t02 := HT2.out.cell_ 0 rfl
    have t12 := HT2.out.cell_ 1 rfl
    have k02 := HK2.out.cell_ 0 (v := .int .i64 s) rfl
    have k12 := HK2.out.cell_ 1 (v := .int .i64 p) rfl
    have r02 := HR2.out.cell_ 0 (v := .slice none 0 0) rfl
    have r12 := HR2.out.cell_ 1 (v := .slice none 0 0) rfl
    have fr02 := HR2.out.free 0
    have fr12 := HR2.out.free 1
    clear t01 t11 k01 k11
    try clear r01 r11 fr01 fr11
    cases h2 : kval (s, p) with
    | false =>
      have HA : Hid (prOK t s p r = false) := by show _ = _; unfold prOK fOK; rw [h1, h2]; rfl
      have HV := Lib.hid (prOK_false HA.out)
      go_wp2
      have o3 := (HR2.out.set_ 0 (.slice none 0 0)).set_ 1 (.slice none 0 0)
      have e0 := o3.cell_ 0 (v := .slice none 0 0) rfl
      have e1 := o3.cell_ 1 (v := .slice none 0 0) rfl
      refine bodyPost_ret (v := .tuple #[.agg #[.slice none 0 0, .slice none 0 0], .bool false]) (by simp [results, Tryz.results61, go_sem, e0, e1]) rfl ⟨_, rfl, _, _, by rw [HA.out], ?_, bS (bS HB2.out (by simp; omega)) (by simp; omega)⟩
      rw [HV.out]
      exact tam_z
    | true =>
      go_wp2_with fail
      refine (find_any vb vf t s p _ (HTR.out.now HB2.out)).mono ?_
      rintro e w3 ⟨rfl, hb3⟩
      have HT3 := Lib.hid (HT2.out.below hb3)
      have HK3 := Lib.hid (HK2.out.below hb3)
      have HR3 := Lib.hid (HR2.out.below hb3)
      have HB3 := Lib.hid (bT HB2.out hb3)
      clear hb3
      have t03 := HT3.out.cell_ 0 rfl
      have t13 := HT3.out.cell_ 1 rfl
      have k03 := HK3.out.cell_ 0 (v := .int .i64 s) rfl
      have k13 := HK3.out.cell_ 1 (v := .int .i64 p) rfl
      have r03 := HR3.out.cell_ 0 (v := .slice none 0 0) rfl
      have r13 := HR3.out.cell_ 1 (v := .slice none 0 0) rfl
      have fr03 := HR3.out.free 0
      have fr13 := HR3.out.free 1
      clear t02 t12 k02 k12
      try clear r02 r12 fr02 fr12
      by_cases h3 : 0 ≤ fndI t.fs s p
      case neg =>
        have HA : Hid (prOK t s p r = false) := by show _ = _; unfold prOK fOK; rw [h1, h2, decide_eq_false h3]; rfl
        have HV := Lib.hid (prOK_false HA.out)
        have h3b : fndI t.fs s p < 0 := by omega
        go_wp2
        have o3 := (HR3.out.set_ 0 (.slice none 0 0)).set_ 1 (.slice none 0 0)
        have e0 := o3.cell_ 0 (v := .slice none 0 0) rfl
        have e1 := o3.cell_ 1 (v := .slice none 0 0) rfl
        refine bodyPost_ret (v := .tuple #[.agg #[.slice none 0 0, .slice none 0 0], .bool false]) (by simp [results, Tryz.results61, go_sem, e0, e1]) rfl ⟨_, rfl, _, _, by rw [HA.out], ?_, bS (bS HB3.out (by simp; omega)) (by simp; omega)⟩
        rw [HV.out]
        exact tam_z
      case pos =>
        obtain ⟨⟨_, hlen, hb1', hlen2⟩, _⟩ := tv_parts h1
        obtain ⟨k, f, hk, ef, hfu, hfk⟩ := fndI_lt h3
        have HFK := Lib.hid h3
        have h3b : ¬ fndI t.fs s p < 0 := by omega
        have HN := Lib.hid hk
        rw [hk] at h3 h3b ⊢
        cases h8 : inR r 8 with
        | false =>
          have HA : Hid (prOK t s p r = false) := by show _ = _; unfold prOK; rw [h8]; simp
          have HV := Lib.hid (prOK_false HA.out)
          clear hk ef hfk
          go_wp2_with fail
          refine (RightsValid_any _ _).mono ?_
          rintro e w4 ⟨rfl, rfl⟩
          rw [h8]
          go_wp2
          have o3 := (HR3.out.set_ 0 (.slice none 0 0)).set_ 1 (.slice none 0 0)
          have e0 := o3.cell_ 0 (v := .slice none 0 0) rfl
          have e1 := o3.cell_ 1 (v := .slice none 0 0) rfl
          refine bodyPost_ret (v := .tuple #[.agg #[.slice none 0 0, .slice none 0 0], .bool false]) (by simp [results, Tryz.results61, go_sem, e0, e1]) rfl ⟨_, rfl, _, _, by rw [HA.out], ?_, bS (bS HB3.out (by simp; omega)) (by simp; omega)⟩
          rw [HV.out]
          exact tam_z
        | true =>
          have HA : Hid (prOK t s p r = true) := by show _ = _; unfold prOK fOK; rw [h1, h2, h8, decide_eq_true HFK.out]; rfl
          have HV : Hid (prV t s p r = ⟨t.bs, t.fs.set k { f with r := r }⟩) := by
            show _ = _
            unfold prV
            rw [HA.out, if_pos rfl]
            unfold prT
            rw [HN.out, Int.toNat_natCast]
            simp only [List.getD_eq_getElem?_getD, ef]
            rfl
          have HEF := Lib.hid ef
          clear hk ef hfk
          go_wp2_with fail
          refine (RightsValid_any _ _).mono ?_
          rintro e w4 ⟨rfl, rfl⟩
          rw [h8]
          go_wp2_with fail
          refine (tclone_any vb _ t _ (HTR.out.now HB3.out) (by omega) (by omega)).mono ?_
          rintro e w4 ⟨v1, v2, rfl, hM4, hb4⟩
          have HM4S : Hid (w3.heap.size ≤ w4.heap.size) := hb4.size
          have HT4 := Lib.hid (HT3.out.below hb4)
          have HK4 := Lib.hid (HK3.out.below hb4)
          have HR4 := Lib.hid (HR3.out.below hb4)
          have HB4 := Lib.hid (bT HB3.out hb4)
          clear hb4
          have t04 := HT4.out.cell_ 0 rfl
          have t14 := HT4.out.cell_ 1 rfl
          have k04 := HK4.out.cell_ 0 (v := .int .i64 s) rfl
          have k14 := HK4.out.cell_ 1 (v := .int .i64 p) rfl
          have r04 := HR4.out.cell_ 0 (v := .slice none 0 0) rfl
          have r14 := HR4.out.cell_ 1 (v := .slice none 0 0) rfl
          have fr04 := HR4.out.free 0
          have fr14 := HR4.out.free 1
          clear t03 t13 k03 k13
          try clear r03 r13 fr03 fr13
          have hfl := (List.getElem?_eq_some_iff.1 HEF.out).1
          obtain ⟨g1, c1, g2, c2, rfl, rfl, e1, e2, l1, l2, hne, a1, a2, b1, b2, m1, m2⟩ := hM4.open_ hb1' (by omega)
          have ho5 := Own.new_ w4 26 #[.slice (some ⟨g1, 0, none⟩) t.bs.length c1, .slice (some ⟨g2, 0, none⟩) t.fs.length c2]
          have hb5 : Below w4.heap.size w4 (w4.alloc (.cells #[.slice (some ⟨g1, 0, none⟩) t.bs.length c1, .slice (some ⟨g2, 0, none⟩) t.fs.length c2] 26)) := bA bR
          generalize hW5 : w4.alloc (.cells #[.slice (some ⟨g1, 0, none⟩) t.bs.length c1, .slice (some ⟨g2, 0, none⟩) t.fs.length c2] 26) = w5 at ho5 hb5
          have M1 := Lib.hid (m1.below hb5)
          have M2 := Lib.hid (m2.below hb5)
          have HT5 := Lib.hid (HT4.out.below hb5)
          have HK5 := Lib.hid (HK4.out.below hb5)
          have HR5 := Lib.hid (HR4.out.below hb5)
          have HB5 := Lib.hid (bT HB4.out hb5)
          clear hb5
          have t05 := HT5.out.cell_ 0 rfl
          have t15 := HT5.out.cell_ 1 rfl
          have k05 := HK5.out.cell_ 0 (v := .int .i64 s) rfl
          have k15 := HK5.out.cell_ 1 (v := .int .i64 p) rfl
          have r05 := HR5.out.cell_ 0 (v := .slice none 0 0) rfl
          have r15 := HR5.out.cell_ 1 (v := .slice none 0 0) rfl
          have fr05 := HR5.out.free 0
          have fr15 := HR5.out.free 1
          clear t04 t14 k04 k14
          try clear r04 r14 fr04 fr14
          have o50 := ho5.cell_ 0 (v := .slice (some ⟨g1, 0, none⟩) t.bs.length c1) rfl
          have o51 := ho5.cell_ 1 (v := .slice (some ⟨g2, 0, none⟩) t.fs.length c2) rfl
          have HO5 := Lib.hid ho5
          clear hM4 ho5 m1 m2
          go_wp2
          go_region_law (first
            | (refine step_call rfl ?_ (find_p vb vf t s p _ (HTR.out.now (bD HB5.out))) ?_
               go_simp
               rintro vx w6 ⟨rfl, hb6⟩
               rw [HN.out]
               have hr6 := HR5.out.drew.below hb6
               have ho6 := HO5.out.drew.below hb6
               have o60 := ho6.cell_ 0 (v := .slice (some ⟨g1, 0, none⟩) t.bs.length c1) rfl
               have o61 := ho6.cell_ 1 (v := .slice (some ⟨g2, 0, none⟩) t.fs.length c2) rfl
               have r06 := hr6.cell_ 0 (v := .slice none 0 0) rfl
               have r16 := hr6.cell_ 1 (v := .slice none 0 0) rfl
               have fr06 := hr6.free 0
               have fr16 := hr6.free 1
               have N2 := (M2.out.below (w' := w5.drew) (bD bR)).below hb6
               have N1 := (M1.out.below (w' := w5.drew) (bD bR)).below hb6
               obtain ⟨bq, oq, eq1, _, y0, y1, y2, y3, y4⟩ := N2.is.fr HEF.out
               injection eq1 with eq1
               injection eq1 with eq1 eq2
               subst eq1 eq2
               rw [Nat.zero_add] at y0 y1 y2 y3 y4
               obtain ⟨_, cs2, u2, _, O2, _⟩ := N2.own (by omega)
               injection u2 with u2
               injection u2 with u2
               subst u2
               have fz := O2.free (k * 5 + 3)
               have P1 := Lib.hid N1
               have P2 := Lib.hid N2
               have HR6 := Lib.hid hr6
               have HO6 := Lib.hid ho6
               have HB6 := Lib.hid (bT (bD HB5.out) hb6)
               clear N1 N2 O2 y0 y1 y2 y4 hr6 ho6 hb6))
          all_goals
            have hsz3 := HB3.out.size
            have hsz4 := HM4S.out
            have hlt3 := HR3.out.lt
            have P3 := (P2.out.wrights HEF.out r)
            have P4 := P1.out.other (p := ⟨g2, k * 5 + 3, none⟩) (u := .int .i64 r) hne.symm
            have R7 := HR6.out.far (p := ⟨g2, k * 5 + 3, none⟩) (u := .int .i64 r) (by simp; omega)
            have r07 := R7.cell_ 0 (v := .slice none 0 0) rfl
            have r17 := R7.cell_ 1 (v := .slice none 0 0) rfl
            have fr07 := R7.free 0
            have fr17 := R7.free 1
            have O7 := HO6.out.far (p := ⟨g2, k * 5 + 3, none⟩) (u := .int .i64 r) (by simp; omega)
            have o70 := O7.cell_ 0 (v := .slice (some ⟨g1, 0, none⟩) t.bs.length c1) rfl
            have o71 := O7.cell_ 1 (v := .slice (some ⟨g2, 0, none⟩) t.fs.length c2) rfl
            have RR := Lib.hid R7
            have PP3 := Lib.hid P3
            have PP4 := Lib.hid P4
            have HB7 := Lib.hid (HB6.out.setCell (p := ⟨g2, k * 5 + 3, none⟩) (by show w.heap.size ≤ g2; omega) (.int .i64 r))
            clear R7 P3 P4 O7
            go_wp2
            have o3 := (RR.out.set_ 0 (.slice (some ⟨g1, 0, none⟩) t.bs.length c1)).set_ 1 (.slice (some ⟨g2, 0, none⟩) t.fs.length c2)
            have e0 := o3.cell_ 0 (v := .slice (some ⟨g1, 0, none⟩) t.bs.length c1) rfl
            have e1 := o3.cell_ 1 (v := .slice (some ⟨g2, 0, none⟩) t.fs.length c2) rfl
            have Q3 := (PP3.out.far (p := ⟨w.heap.size + 1 + 1, 0, none⟩) (u := .slice (some ⟨g1, 0, none⟩) t.bs.length c1) hlt3).far (p := ⟨w.heap.size + 1 + 1, 1, none⟩) (u := .slice (some ⟨g2, 0, none⟩) t.fs.length c2) hlt3
            have Q4 := (PP4.out.far (p := ⟨w.heap.size + 1 + 1, 0, none⟩) (u := .slice (some ⟨g1, 0, none⟩) t.bs.length c1) hlt3).far (p := ⟨w.heap.size + 1 + 1, 1, none⟩) (u := .slice (some ⟨g2, 0, none⟩) t.fs.length c2) hlt3
            refine bodyPost_ret (v := .tuple #[.agg #[.slice (some ⟨g1, 0, none⟩) t.bs.length c1, .slice (some ⟨g2, 0, none⟩) t.fs.length c2], .bool true]) (by simp [results, Tryz.results61, go_sem, e0, e1]) rfl ⟨_, rfl, _, _, by rw [HA.out], ?_, bS (bS HB7.out (by simp; omega)) (by simp; omega)⟩
            rw [HV.out]
            exact ⟨slm_of rfl a1 a2 (Q4.mono hsz3), slm_of (by simp) (by simpa using b1) b2 (Q3.mono hsz3)⟩
end Go.Proofs.YtnaagdmaggdbmaaGreatDoor
namespace Go.Proofs.YtnaagdmaggdbmaaGreatDoor
open Go.RowKit
set_option maxRecDepth 1000000

set_option maxHeartbeats 4000000 in
theorem MachineValid_any (vb vf vl vo : Value) (m : Ma) (w : World) (hM : MaR w vb vf vl vo m) (hfree : Free w) :
    Calls Tryz.prog 21 #[.agg #[vb, vf, vl, .int .i64 m.c.hand, .int .i64 m.g.count, .int .i64 m.g.next, .int .i64 m.g.round, vo, .int .i64 m.sp]] w fun r w' => r = .returned (.bool (mav m)) ∧ Below w.heap.size w w' := by
  have HM := Lib.hid hM
  have HF := Lib.hid hfree
  have hbx := Own.new_ w 34 #[vb, vf, vl, .int .i64 m.c.hand, .int .i64 m.g.count, .int .i64 m.g.next, .int .i64 m.g.round, vo, .int .i64 m.sp]
  have hbz : Below w.heap.size w (w.alloc (.cells #[vb, vf, vl, .int .i64 m.c.hand, .int .i64 m.g.count, .int .i64 m.g.next, .int .i64 m.g.round, vo, .int .i64 m.sp] 34)) := bA bR
  generalize hW : w.alloc (.cells #[vb, vf, vl, .int .i64 m.c.hand, .int .i64 m.g.count, .int .i64 m.g.next, .int .i64 m.g.round, vo, .int .i64 m.sp] 34) = W0 at hbx hbz
  have HX0 := Lib.hid hbx
  have HB0 := Lib.hid hbz
  clear hbx hbz
  clear hM hfree
  have m00 := HX0.out.cell_ 0 (v := vb) rfl
  have m10 := HX0.out.cell_ 1 (v := vf) rfl
  have m20 := HX0.out.cell_ 2 (v := vl) rfl
  have m30 := HX0.out.cell_ 3 (v := .int .i64 m.c.hand) rfl
  have m40 := HX0.out.cell_ 4 (v := .int .i64 m.g.count) rfl
  have m50 := HX0.out.cell_ 5 (v := .int .i64 m.g.next) rfl
  have m60 := HX0.out.cell_ 6 (v := .int .i64 m.g.round) rfl
  have m70 := HX0.out.cell_ 7 (v := vo) rfl
  have m80 := HX0.out.cell_ 8 (v := .int .i64 m.sp) rfl
  go_enter Tryz.func21, Tryz.ntmps21
  go_wp2_with fail
  refine (TableValid_any vb vf m.t _ (HM.out.t.now HB0.out) (HF.out.now HB0.out)).mono ?_
  rintro e w1 ⟨rfl, hb1⟩
  have HX1 := Lib.hid (HX0.out.below hb1)
  have HB1 := Lib.hid (bT HB0.out hb1)
  clear hb1
  clear m00 m10 m20 m30 m40 m50 m60 m70 m80
  have m01 := HX1.out.cell_ 0 (v := vb) rfl
  have m11 := HX1.out.cell_ 1 (v := vf) rfl
  have m21 := HX1.out.cell_ 2 (v := vl) rfl
  have m31 := HX1.out.cell_ 3 (v := .int .i64 m.c.hand) rfl
  have m41 := HX1.out.cell_ 4 (v := .int .i64 m.g.count) rfl
  have m51 := HX1.out.cell_ 5 (v := .int .i64 m.g.next) rfl
  have m61 := HX1.out.cell_ 6 (v := .int .i64 m.g.round) rfl
  have m71 := HX1.out.cell_ 7 (v := vo) rfl
  have m81 := HX1.out.cell_ 8 (v := .int .i64 m.sp) rfl
  cases h1 : tv m.t with
  | false =>
    have HE : Hid (mav m = false) := mav_no fun h => by have := (mav_parts h).1; rw [h1] at this; cases this
    go_wp2
    go_ret
    exact ⟨by rw [HE.out]; rfl, HB1.out⟩
  | true =>
  go_wp2_with fail
  refine (CacheValid_any vl m.c _ (HM.out.l.now HB1.out)).mono ?_
  rintro e w2 ⟨rfl, hb2⟩
  have HX2 := Lib.hid (HX1.out.below hb2)
  have HB2 := Lib.hid (bT HB1.out hb2)
  clear hb2
  clear m01 m11 m21 m31 m41 m51 m61 m71 m81
  have m02 := HX2.out.cell_ 0 (v := vb) rfl
  have m12 := HX2.out.cell_ 1 (v := vf) rfl
  have m22 := HX2.out.cell_ 2 (v := vl) rfl
  have m32 := HX2.out.cell_ 3 (v := .int .i64 m.c.hand) rfl
  have m42 := HX2.out.cell_ 4 (v := .int .i64 m.g.count) rfl
  have m52 := HX2.out.cell_ 5 (v := .int .i64 m.g.next) rfl
  have m62 := HX2.out.cell_ 6 (v := .int .i64 m.g.round) rfl
  have m72 := HX2.out.cell_ 7 (v := vo) rfl
  have m82 := HX2.out.cell_ 8 (v := .int .i64 m.sp) rfl
  cases h2 : cav m.c with
  | false =>
    have HE : Hid (mav m = false) := mav_no fun h => by have := (mav_parts h).2.1; rw [h2] at this; cases this
    go_wp2
    go_ret
    exact ⟨by rw [HE.out]; rfl, HB2.out⟩
  | true =>
  go_wp2_with fail
  refine (TagsValid_any vo m.g _ (HM.out.o.now HB2.out)).mono ?_
  rintro e w3 ⟨rfl, hb3⟩
  have HX3 := Lib.hid (HX2.out.below hb3)
  have HB3 := Lib.hid (bT HB2.out hb3)
  clear hb3
  clear m02 m12 m22 m32 m42 m52 m62 m72 m82
  have m03 := HX3.out.cell_ 0 (v := vb) rfl
  have m13 := HX3.out.cell_ 1 (v := vf) rfl
  have m23 := HX3.out.cell_ 2 (v := vl) rfl
  have m33 := HX3.out.cell_ 3 (v := .int .i64 m.c.hand) rfl
  have m43 := HX3.out.cell_ 4 (v := .int .i64 m.g.count) rfl
  have m53 := HX3.out.cell_ 5 (v := .int .i64 m.g.next) rfl
  have m63 := HX3.out.cell_ 6 (v := .int .i64 m.g.round) rfl
  have m73 := HX3.out.cell_ 7 (v := vo) rfl
  have m83 := HX3.out.cell_ 8 (v := .int .i64 m.sp) rfl
  cases h3 : tgv m.g with
  | false =>
    have HE : Hid (mav m = false) := mav_no fun h => by have := (mav_parts h).2.2.1; rw [h3] at this; cases this
    go_wp2
    go_ret
    exact ⟨by rw [HE.out]; rfl, HB3.out⟩
  | true =>
  go_wp2_with fail
  refine (own_any vo m.g m.sp _ (HM.out.o.now HB3.out)).mono ?_
  rintro e w4 ⟨rfl, hb4⟩
  have HX4 := Lib.hid (HX3.out.below hb4)
  have HB4 := Lib.hid (bT HB3.out hb4)
  clear hb4
  clear m03 m13 m23 m33 m43 m53 m63 m73 m83
  have m04 := HX4.out.cell_ 0 (v := vb) rfl
  have m14 := HX4.out.cell_ 1 (v := vf) rfl
  have m24 := HX4.out.cell_ 2 (v := vl) rfl
  have m34 := HX4.out.cell_ 3 (v := .int .i64 m.c.hand) rfl
  have m44 := HX4.out.cell_ 4 (v := .int .i64 m.g.count) rfl
  have m54 := HX4.out.cell_ 5 (v := .int .i64 m.g.next) rfl
  have m64 := HX4.out.cell_ 6 (v := .int .i64 m.g.round) rfl
  have m74 := HX4.out.cell_ 7 (v := vo) rfl
  have m84 := HX4.out.cell_ 8 (v := .int .i64 m.sp) rfl
  by_cases h4 : ownI m.g.os m.sp < 0
  · have HE : Hid (mav m = false) := mav_no fun h => by have := (mav_parts h).2.2.2.1; omega
    go_wp2
    go_ret
    exact ⟨by rw [HE.out]; rfl, HB4.out⟩
  have HV := Lib.hid (And.intro h1 (And.intro h2 (And.intro h3 h4)))
  obtain ⟨Af, cf, rfl, hfc, hfm, hF⟩ := HM.out.t.f
  have hfl : m.t.fs.length ≤ 16 := (tv_parts h1).1.2.1
  have HFS := Lib.hid hF
  clear hF
  go_wp2
  clear m04 m14 m24 m34 m44 m54 m64 m74 m84
  go_loopw [40] (fun u wr => ∃ k : Nat, k ≤ m.t.fs.length ∧ u = .int .i64 k ∧ Hid (All_ frM m.t.fs k) ∧ Below w4.heap.size w4 wr) (fun u _ => m.t.fs.length - (intOf u).toNat)
  case atStart => exact ⟨0, by omega, rfl, all_zero, bR⟩
  case round =>
    obtain ⟨k, hk, rfl, hall, hb5⟩ := hrel
    by_cases hlt : k < m.t.fs.length
    · obtain ⟨f, ef⟩ : ∃ f, m.t.fs[k]? = some f := ⟨_, List.getElem?_eq_getElem hlt⟩
      obtain ⟨b, o, rfl, hbb, d0, d1, d2, d3, d4⟩ := (HFS.out.below (bT HB4.out hb5)).fr ef
      have EF := Lib.hid ef
      clear ef
      cases hu : f.used with
      | false =>
        rw [hu] at d0
        have HA := Lib.hid (all_step hall.out EF.out (by unfold frM; rw [hu]; rfl))
        go_wp2
        go_roundw
        case rel => exact ⟨k + 1, by omega, by go_num, HA, bA hb5⟩
        case measure => simp [intOf]; omega
      | true =>
      rw [hu] at d0
      by_cases hp : 128 ≤ f.p
      case neg =>
        have HA := Lib.hid (all_step hall.out EF.out (by unfold frM; rw [decide_eq_false hp]; simp))
        go_wp2
        go_roundw
        case rel => exact ⟨k + 1, by omega, by go_num, HA, bA hb5⟩
        case measure => simp [intOf]; omega
      case pos =>
      by_cases hs : f.s = 0
      case pos =>
        have HA := Lib.hid (all_step hall.out EF.out (by unfold frM; rw [decide_eq_true hs]; simp))
        go_wp2
        go_roundw
        case rel => exact ⟨k + 1, by omega, by go_num, HA, bA hb5⟩
        case measure => simp [intOf]; omega
      case neg =>
        have HE : Hid (mav m = false) := mav_fr EF.out (by unfold frM; rw [hu, decide_eq_true hp, decide_eq_false hs]; rfl)
        go_wp2
        go_ret
        exact ⟨by rw [HE.out]; rfl, bA (bT HB4.out hb5)⟩
    · obtain rfl : k = m.t.fs.length := by omega
      have HFA := Lib.hid (all_end hall.out)
      clear hall
      obtain ⟨Al, cl, rfl, hlc, hlm, hL⟩ := HM.out.l
      have hll : m.c.ls.length ≤ 8 := (cav_parts h2).2.1
      have HLS := Lib.hid hL
      have HX5 := Lib.hid (HX4.out.below hb5)
      have HB5 := Lib.hid (bT HB4.out hb5)
      clear hL hb5
      have m25 := HX5.out.cell_ 2 (v := .slice Al m.c.ls.length cl) rfl
      go_wp2
      clear m25
      obtain ⟨w5, rfl⟩ : ∃ w5, w5 = wr := ⟨_, rfl⟩
      go_loopw [63] (fun u wi => ∃ k : Nat, k ≤ m.c.ls.length ∧ u = .int .i64 k ∧ Hid (All_ (lnM m) m.c.ls k) ∧ Below w5.heap.size w5 wi) (fun u _ => m.c.ls.length - (intOf u).toNat)
      case atStart => exact ⟨0, by omega, rfl, all_zero, bR⟩
      case round =>
        obtain ⟨k, hk, rfl, hall, hb6⟩ := hrel
        by_cases hlt : k < m.c.ls.length
        · obtain ⟨x, ex⟩ : ∃ x, m.c.ls[k]? = some x := ⟨_, List.getElem?_eq_getElem hlt⟩
          obtain ⟨xv, xt, xp, xf, xr, xw⟩ := x
          obtain ⟨b, o, rfl, hbb, d0, d1, d2, d3, d4, d5⟩ := (HLS.out.below (bT HB5.out hb6)).ln ex
          have EX := Lib.hid ex
          have hx7 := Own.new_ wr 106 #[.bool xv, .int .i64 xt, .int .i64 xp, .int .i64 xf, .int .i64 xr, .bool xw]
          have hx7b := (HX5.out.below hb6).alloc (o := .cells #[.bool xv, .int .i64 xt, .int .i64 xp, .int .i64 xf, .int .i64 xr, .bool xw] 106)
          have hb7 : Below w5.heap.size w5 (wr.alloc (.cells #[.bool xv, .int .i64 xt, .int .i64 xp, .int .i64 xf, .int .i64 xr, .bool xw] 106)) := bA hb6
          generalize hW7 : wr.alloc (.cells #[.bool xv, .int .i64 xt, .int .i64 xp, .int .i64 xf, .int .i64 xr, .bool xw] 106) = w7 at hx7 hx7b hb7
          have HX7 := Lib.hid hx7b
          have HL7 := Lib.hid hx7
          have HB57 := Lib.hid hb7
          clear ex hx7b hb7
          have x0 := hx7.cell_ 0 (v := .bool xv) rfl
          have x1 := hx7.cell_ 1 (v := .int .i64 xt) rfl
          have x2 := hx7.cell_ 2 (v := .int .i64 xp) rfl
          have x5 := hx7.cell_ 5 (v := .bool xw) rfl
          have hxl := hx7.lt
          clear hx7
          cases xv with
          | false =>
            have hv : (⟨false, xt, xp, xf, xr, xw⟩ : Ln).v = false := rfl
            have HA := Lib.hid (all_step hall.out EX.out (lnM_inv hv))
            go_wp2
            go_roundw
            case rel => exact ⟨k + 1, by omega, by go_num, HA, HB57.out⟩
            case measure => simp [intOf]; omega
          | true =>
          by_cases hp : 128 ≤ xp
          case pos =>
            by_cases ht : xt = -1
            case neg =>
              have HE : Hid (mav m = false) := mav_ln EX.out (lnM_sh rfl (fun h => ht (h.1 hp)))
              go_wp2
              go_ret
              exact ⟨by rw [HE.out]; rfl, bT HB5.out HB57.out⟩
            case pos =>
              subst ht
              cases xw with
              | false =>
                subst hW7
                clear x0 x1 x2 x5
                have hbl := (HX5.out.below hb6).lt
                have hm0 := xcell (HX7.out.cell_ 0 (v := vb) rfl) HX7.out.lt
                have hm1 := xcell (HX7.out.cell_ 1 (v := .slice Af m.t.fs.length cf) rfl) HX7.out.lt
                have hl2 := xcell (HL7.out.cell_ 2 (v := .int .i64 xp) rfl) HL7.out.lt
                have HT9 := Lib.hid (HM.out.t.now (bT HB5.out HB57.out))
                have hln := lnM_at1 (m := m) (f := xf) (r := xr) (w := false) (⟨fun _ => rfl, fun _ => hp⟩) (fun _ => hp) (lnSp_sh hp)
                have HK := Lib.hid (KeyFor_any 0 xp)
                have HFN := Lib.hid (fun W (h : TaR W vb (.slice Af m.t.fs.length cf) m.t) => find_any vb (.slice Af m.t.fs.length cf) m.t (keyI 0 xp) xp W h)
                have hidx := @fndI_lt m.t.fs (keyI 0 xp) xp
                generalize keyI 0 xp = ks at *
                generalize hN : fndI m.t.fs ks xp = N at *
                go_wp2
                try clear x0 x1 x2 x5
                refine wp_region_ext (by kernel_rfl) (by kernel_rfl) ?_
                repeat (go_big_quiet_step ((first | (go_at_call 29; exact ext_call (HK.out _)) | (go_at_call 68; exact ext_call (HFN.out _ (HT9.out.now (Ext.ok _)))))))
                refine wpQuiet_nil ?_
                intro _ hw'
                obtain ⟨⟨wq, hq⟩, hw''⟩ := hw'
                subst hw''
                try dsimp only
                have HBQ := Lib.hid (bT HB57.out hq)
                have hl3 := xcell ((HL7.out.below hq).cell_ 3 (v := .int .i64 xf) rfl) (HL7.out.below hq).lt
                have hl4 := xcell ((HL7.out.below hq).cell_ 4 (v := .int .i64 xr) rfl) (HL7.out.below hq).lt
                have hm1 := xcell ((HX7.out.below hq).cell_ 1 (v := .slice Af m.t.fs.length cf) rfl) (HX7.out.below hq).lt
                by_cases hn : 0 ≤ N
                case neg =>
                  have HE : Hid (mav m = false) := mav_ln EX.out (by rw [hln, decide_eq_false hn]; rfl)
                  clear hidx hln
                  go_wp2
                  have hn2 : N < 0 := by omega
                  refine wp_region_ext (by kernel_rfl) (by kernel_rfl) ?_
                  repeat (go_big_quiet_step (fail))
                  refine wpQuiet_nil ?_
                  intro _ hw'
                  obtain ⟨⟨wq, hq⟩, hw''⟩ := hw'
                  subst hw''
                  try dsimp only
                  go_wp2
                  go_ret
                  exact ⟨by rw [HE.out]; rfl, bT HB5.out (bT HBQ.out hq)⟩
                case pos =>
                  obtain ⟨i, f, rfl, ef, _, _⟩ := hidx hn
                  obtain ⟨b', o', eA, hbb', f0, f1, f2, f3, f4⟩ := (HFS.out.below (bT HB5.out HBQ.out)).fr ef
                  subst eA
                  have hfr := xcell f3 (by have := (bT HB5.out HBQ.out).size; show b' < _; omega)
                  rw [decide_eq_true hn, Int.toNat_natCast, List.getD_eq_getElem?_getD, ef, Option.getD_some, Bool.true_and] at hln
                  have hil := (List.getElem?_eq_some_iff.1 ef).1
                  clear f0 f1 f2 f3 f4 ef hidx
                  by_cases hf : (i : Int) = xf
                  case neg =>
                    have HE : Hid (mav m = false) := mav_ln EX.out (by rw [hln, decide_eq_false hf]; rfl)
                    clear hln
                    go_wp2
                    have hf2 : ((i : Int) != xf) = true := by rw [bne_iff_ne]; exact hf
                    have hn2 : ¬ (i : Int) < 0 := by omega
                    refine wp_region_ext (by kernel_rfl) (by kernel_rfl) ?_
                    repeat (go_big_quiet_step (fail))
                    refine wpQuiet_nil ?_
                    intro _ hw'
                    obtain ⟨⟨wq, hq⟩, hw''⟩ := hw'
                    subst hw''
                    try dsimp only
                    go_wp2
                    go_ret
                    exact ⟨by rw [HE.out]; rfl, bT HB5.out (bT HBQ.out hq)⟩
                  case pos =>
                  subst hf
                  by_cases hr : f.r = xr
                  case neg =>
                    have HE : Hid (mav m = false) := mav_ln EX.out (by rw [hln, decide_eq_false hr]; simp)
                    clear hln
                    go_wp2
                    have hf2 : ((i : Int) != (i : Int)) = false := bne_self_eq_false _
                    have hr2 : (f.r != xr) = true := by rw [bne_iff_ne]; exact hr
                    have hn2 : ¬ (i : Int) < 0 := by omega
                    refine wp_region_ext (by kernel_rfl) (by kernel_rfl) ?_
                    repeat (go_big_quiet_step (fail))
                    refine wpQuiet_nil ?_
                    intro _ hw'
                    obtain ⟨⟨wq, hq⟩, hw''⟩ := hw'
                    subst hw''
                    try dsimp only
                    go_wp2
                    go_ret
                    exact ⟨by rw [HE.out]; rfl, bT HB5.out (bT HBQ.out hq)⟩
                  case pos =>
                    subst hr
                    have HA := Lib.hid (all_step hall.out EX.out (by rw [hln, decide_eq_true rfl, decide_eq_true rfl]; rfl))
                    clear hln
                    go_wp2
                    have hf2 : ((i : Int) != (i : Int)) = false := bne_self_eq_false _
                    have hr2 : (f.r != f.r) = false := bne_self_eq_false _
                    have hn2 : ¬ (i : Int) < 0 := by omega
                    refine wp_region_ext (by kernel_rfl) (by kernel_rfl) ?_
                    repeat (go_big_quiet_step (fail))
                    refine wpQuiet_nil ?_
                    intro _ hw'
                    obtain ⟨⟨wq, hq⟩, hw''⟩ := hw'
                    subst hw''
                    try dsimp only
                    go_wp2
                    go_roundw
                    case rel => exact ⟨k + 1, by omega, by go_num, HA, bT HBQ.out hq⟩
                    case measure => simp [intOf]; omega
              | true =>
                have hm0 := xcell (HX7.out.cell_ 0 (v := vb) rfl) HX7.out.lt
                have hm1 := xcell (HX7.out.cell_ 1 (v := .slice Af m.t.fs.length cf) rfl) HX7.out.lt
                have hl2 := xcell (HL7.out.cell_ 2 (v := .int .i64 xp) rfl) HL7.out.lt
                have HT9 := Lib.hid (HM.out.t.now (bT HB5.out HB57.out))
                have hln := lnM_at1 (m := m) (f := xf) (r := xr) (w := true) (⟨fun _ => rfl, fun _ => hp⟩) (fun _ => hp) (lnSp_sh hp)
                have HK := Lib.hid (KeyFor_any 0 xp)
                have HFN := Lib.hid (fun W (h : TaR W vb (.slice Af m.t.fs.length cf) m.t) => find_any vb (.slice Af m.t.fs.length cf) m.t (keyI 0 xp) xp W h)
                have hidx := @fndI_lt m.t.fs (keyI 0 xp) xp
                generalize keyI 0 xp = ks at *
                generalize hN : fndI m.t.fs ks xp = N at *
                go_wp2
                try clear x0 x1 x2 x5
                refine wp_region_ext (by kernel_rfl) (by kernel_rfl) ?_
                repeat (go_big_quiet_step ((first | (go_at_call 29; exact ext_call (HK.out _)) | (go_at_call 68; exact ext_call (HFN.out _ (HT9.out.now (Ext.ok _)))))))
                refine wpQuiet_nil ?_
                intro _ hw'
                obtain ⟨⟨wq, hq⟩, hw''⟩ := hw'
                subst hw''
                try dsimp only
                have HBQ := Lib.hid (bT HB57.out hq)
                have hl3 := xcell ((HL7.out.below hq).cell_ 3 (v := .int .i64 xf) rfl) (HL7.out.below hq).lt
                have hl4 := xcell ((HL7.out.below hq).cell_ 4 (v := .int .i64 xr) rfl) (HL7.out.below hq).lt
                have hm1 := xcell ((HX7.out.below hq).cell_ 1 (v := .slice Af m.t.fs.length cf) rfl) (HX7.out.below hq).lt
                by_cases hn : 0 ≤ N
                case neg =>
                  have HE : Hid (mav m = false) := mav_ln EX.out (by rw [hln, decide_eq_false hn]; rfl)
                  clear hidx hln
                  go_wp2
                  have hn2 : N < 0 := by omega
                  refine wp_region_ext (by kernel_rfl) (by kernel_rfl) ?_
                  repeat (go_big_quiet_step (fail))
                  refine wpQuiet_nil ?_
                  intro _ hw'
                  obtain ⟨⟨wq, hq⟩, hw''⟩ := hw'
                  subst hw''
                  try dsimp only
                  go_wp2
                  go_ret
                  exact ⟨by rw [HE.out]; rfl, bT HB5.out (bT HBQ.out hq)⟩
                case pos =>
                  obtain ⟨i, f, rfl, ef, _, _⟩ := hidx hn
                  obtain ⟨b', o', eA, hbb', f0, f1, f2, f3, f4⟩ := (HFS.out.below (bT HB5.out HBQ.out)).fr ef
                  subst eA
                  have hfr := xcell f3 (by have := (bT HB5.out HBQ.out).size; show b' < _; omega)
                  rw [decide_eq_true hn, Int.toNat_natCast, List.getD_eq_getElem?_getD, ef, Option.getD_some, Bool.true_and] at hln
                  have hil := (List.getElem?_eq_some_iff.1 ef).1
                  clear f0 f1 f2 f3 f4 ef hidx
                  by_cases hf : (i : Int) = xf
                  case neg =>
                    have HE : Hid (mav m = false) := mav_ln EX.out (by rw [hln, decide_eq_false hf]; rfl)
                    clear hln
                    go_wp2
                    have hf2 : ((i : Int) != xf) = true := by rw [bne_iff_ne]; exact hf
                    have hn2 : ¬ (i : Int) < 0 := by omega
                    refine wp_region_ext (by kernel_rfl) (by kernel_rfl) ?_
                    repeat (go_big_quiet_step (fail))
                    refine wpQuiet_nil ?_
                    intro _ hw'
                    obtain ⟨⟨wq, hq⟩, hw''⟩ := hw'
                    subst hw''
                    try dsimp only
                    go_wp2
                    go_ret
                    exact ⟨by rw [HE.out]; rfl, bT HB5.out (bT HBQ.out hq)⟩
                  case pos =>
                  subst hf
                  by_cases hr : f.r = xr
                  case neg =>
                    have HE : Hid (mav m = false) := mav_ln EX.out (by rw [hln, decide_eq_false hr]; simp)
                    clear hln
                    go_wp2
                    have hf2 : ((i : Int) != (i : Int)) = false := bne_self_eq_false _
                    have hr2 : (f.r != xr) = true := by rw [bne_iff_ne]; exact hr
                    have hn2 : ¬ (i : Int) < 0 := by omega
                    refine wp_region_ext (by kernel_rfl) (by kernel_rfl) ?_
                    repeat (go_big_quiet_step (fail))
                    refine wpQuiet_nil ?_
                    intro _ hw'
                    obtain ⟨⟨wq, hq⟩, hw''⟩ := hw'
                    subst hw''
                    try dsimp only
                    go_wp2
                    go_ret
                    exact ⟨by rw [HE.out]; rfl, bT HB5.out (bT HBQ.out hq)⟩
                  case pos =>
                    subst hr
                    have HA := Lib.hid (all_step hall.out EX.out (by rw [hln, decide_eq_true rfl, decide_eq_true rfl]; rfl))
                    clear hln
                    go_wp2
                    have hf2 : ((i : Int) != (i : Int)) = false := bne_self_eq_false _
                    have hr2 : (f.r != f.r) = false := bne_self_eq_false _
                    have hn2 : ¬ (i : Int) < 0 := by omega
                    refine wp_region_ext (by kernel_rfl) (by kernel_rfl) ?_
                    repeat (go_big_quiet_step (fail))
                    refine wpQuiet_nil ?_
                    intro _ hw'
                    obtain ⟨⟨wq, hq⟩, hw''⟩ := hw'
                    subst hw''
                    try dsimp only
                    go_wp2
                    go_roundw
                    case rel => exact ⟨k + 1, by omega, by go_num, HA, bT HBQ.out hq⟩
                    case measure => simp [intOf]; omega
          case neg =>
            by_cases ht : xt = -1
            case pos =>
              subst ht
              have HE : Hid (mav m = false) := mav_ln EX.out (lnM_sh rfl (fun h => hp (h.2 rfl)))
              go_wp2
              go_ret
              exact ⟨by rw [HE.out]; rfl, bT HB5.out HB57.out⟩
            case neg =>
            cases xw with
            | true =>
              have HE : Hid (mav m = false) := mav_ln EX.out (lnM_w rfl rfl hp)
              go_wp2
              go_ret
              exact ⟨by rw [HE.out]; rfl, bT HB5.out HB57.out⟩
            | false =>
            subst hW7
            have c4 := (HX5.out.below hb6).cell_ 4 (v := .int .i64 m.g.count) rfl
            have c5 := (HX5.out.below hb6).cell_ 5 (v := .int .i64 m.g.next) rfl
            have c6 := (HX5.out.below hb6).cell_ 6 (v := .int .i64 m.g.round) rfl
            have c7 := (HX5.out.below hb6).cell_ 7 (v := vo) rfl
            have hbl := (HX5.out.below hb6).lt
            clear x0 x1 x2 x5
            have hop := lnSp_of (m := m) (x := ⟨true, xt, xp, xf, xr, false⟩) h3 hp
            go_wp2_with fail
            refine (SpaceOf_any vo m.g xt _ (HM.out.o.now (bT HB5.out HB57.out))).mono ?_
            rintro e w8 ⟨rfl, hb8⟩
            have HX8 := Lib.hid (HX7.out.below hb8)
            have HL8 := Lib.hid (HL7.out.below hb8)
            have HB58 := Lib.hid (bT HB57.out hb8)
            clear hb8 c4 c5 c6 c7 hxl
            cases hso : spO m.g xt with
            | false =>
              have HE : Hid (mav m = false) := mav_ln EX.out (lnM_sp rfl (hop.2 hso))
              go_wp2
              go_ret
              exact ⟨by rw [HE.out]; rfl, bT HB5.out HB58.out⟩
            | true =>
              have hsp := hop.1 hso
              generalize spV m.g xt = sp at *
              clear hop
              have hm0 := xcell (HX8.out.cell_ 0 (v := vb) rfl) HX8.out.lt
              have hm1 := xcell (HX8.out.cell_ 1 (v := .slice Af m.t.fs.length cf) rfl) HX8.out.lt
              have hl2 := xcell (HL8.out.cell_ 2 (v := .int .i64 xp) rfl) HL8.out.lt
              have HT9 := Lib.hid (HM.out.t.now (bT HB5.out HB58.out))
              have hln := lnM_at1 (m := m) (f := xf) (r := xr) (w := false) (⟨fun h => absurd h (by omega), fun h => absurd h ht⟩) (fun h => absurd h (by decide)) (hsp)
              have HK := Lib.hid (KeyFor_any sp xp)
              have HFN := Lib.hid (fun W (h : TaR W vb (.slice Af m.t.fs.length cf) m.t) => find_any vb (.slice Af m.t.fs.length cf) m.t (keyI sp xp) xp W h)
              have hidx := @fndI_lt m.t.fs (keyI sp xp) xp
              generalize keyI sp xp = ks at *
              generalize hN : fndI m.t.fs ks xp = N at *
              go_wp2
              try clear x0 x1 x2 x5
              refine wp_region_ext (by kernel_rfl) (by kernel_rfl) ?_
              repeat (go_big_quiet_step ((first | (go_at_call 29; exact ext_call (HK.out _)) | (go_at_call 68; exact ext_call (HFN.out _ (HT9.out.now (Ext.ok _)))))))
              refine wpQuiet_nil ?_
              intro _ hw'
              obtain ⟨⟨wq, hq⟩, hw''⟩ := hw'
              subst hw''
              try dsimp only
              have HBQ := Lib.hid (bT HB58.out hq)
              have hl3 := xcell ((HL8.out.below hq).cell_ 3 (v := .int .i64 xf) rfl) (HL8.out.below hq).lt
              have hl4 := xcell ((HL8.out.below hq).cell_ 4 (v := .int .i64 xr) rfl) (HL8.out.below hq).lt
              have hm1 := xcell ((HX8.out.below hq).cell_ 1 (v := .slice Af m.t.fs.length cf) rfl) (HX8.out.below hq).lt
              by_cases hn : 0 ≤ N
              case neg =>
                have HE : Hid (mav m = false) := mav_ln EX.out (by rw [hln, decide_eq_false hn]; rfl)
                clear hidx hln
                go_wp2
                have hn2 : N < 0 := by omega
                refine wp_region_ext (by kernel_rfl) (by kernel_rfl) ?_
                repeat (go_big_quiet_step (fail))
                refine wpQuiet_nil ?_
                intro _ hw'
                obtain ⟨⟨wq, hq⟩, hw''⟩ := hw'
                subst hw''
                try dsimp only
                go_wp2
                go_ret
                exact ⟨by rw [HE.out]; rfl, bT HB5.out (bT HBQ.out hq)⟩
              case pos =>
                obtain ⟨i, f, rfl, ef, _, _⟩ := hidx hn
                obtain ⟨b', o', eA, hbb', f0, f1, f2, f3, f4⟩ := (HFS.out.below (bT HB5.out HBQ.out)).fr ef
                subst eA
                have hfr := xcell f3 (by have := (bT HB5.out HBQ.out).size; show b' < _; omega)
                rw [decide_eq_true hn, Int.toNat_natCast, List.getD_eq_getElem?_getD, ef, Option.getD_some, Bool.true_and] at hln
                have hil := (List.getElem?_eq_some_iff.1 ef).1
                clear f0 f1 f2 f3 f4 ef hidx
                by_cases hf : (i : Int) = xf
                case neg =>
                  have HE : Hid (mav m = false) := mav_ln EX.out (by rw [hln, decide_eq_false hf]; rfl)
                  clear hln
                  go_wp2
                  have hf2 : ((i : Int) != xf) = true := by rw [bne_iff_ne]; exact hf
                  have hn2 : ¬ (i : Int) < 0 := by omega
                  refine wp_region_ext (by kernel_rfl) (by kernel_rfl) ?_
                  repeat (go_big_quiet_step (fail))
                  refine wpQuiet_nil ?_
                  intro _ hw'
                  obtain ⟨⟨wq, hq⟩, hw''⟩ := hw'
                  subst hw''
                  try dsimp only
                  go_wp2
                  go_ret
                  exact ⟨by rw [HE.out]; rfl, bT HB5.out (bT HBQ.out hq)⟩
                case pos =>
                subst hf
                by_cases hr : f.r = xr
                case neg =>
                  have HE : Hid (mav m = false) := mav_ln EX.out (by rw [hln, decide_eq_false hr]; simp)
                  clear hln
                  go_wp2
                  have hf2 : ((i : Int) != (i : Int)) = false := bne_self_eq_false _
                  have hr2 : (f.r != xr) = true := by rw [bne_iff_ne]; exact hr
                  have hn2 : ¬ (i : Int) < 0 := by omega
                  refine wp_region_ext (by kernel_rfl) (by kernel_rfl) ?_
                  repeat (go_big_quiet_step (fail))
                  refine wpQuiet_nil ?_
                  intro _ hw'
                  obtain ⟨⟨wq, hq⟩, hw''⟩ := hw'
                  subst hw''
                  try dsimp only
                  go_wp2
                  go_ret
                  exact ⟨by rw [HE.out]; rfl, bT HB5.out (bT HBQ.out hq)⟩
                case pos =>
                  subst hr
                  have HA := Lib.hid (all_step hall.out EX.out (by rw [hln, decide_eq_true rfl, decide_eq_true rfl]; rfl))
                  clear hln
                  go_wp2
                  have hf2 : ((i : Int) != (i : Int)) = false := bne_self_eq_false _
                  have hr2 : (f.r != f.r) = false := bne_self_eq_false _
                  have hn2 : ¬ (i : Int) < 0 := by omega
                  refine wp_region_ext (by kernel_rfl) (by kernel_rfl) ?_
                  repeat (go_big_quiet_step (fail))
                  refine wpQuiet_nil ?_
                  intro _ hw'
                  obtain ⟨⟨wq, hq⟩, hw''⟩ := hw'
                  subst hw''
                  try dsimp only
                  go_wp2
                  go_roundw
                  case rel => exact ⟨k + 1, by omega, by go_num, HA, bT HBQ.out hq⟩
                  case measure => simp [intOf]; omega
        · obtain rfl : k = m.c.ls.length := by omega
          have HLA := Lib.hid (all_end hall.out)
          have HE : Hid (mav m = true) := mav_end h1 h2 h3 h4 HFA.out HLA.out
          go_wp2
          go_ret
          exact ⟨by rw [HE.out]; rfl, bT HB5.out hb6⟩
end Go.Proofs.YtnaagdmaggdbmaaGreatDoor
namespace Go.Proofs.YtnaagdmaggdbmaaGreatDoor
open Go.RowKit
set_option maxRecDepth 1000000

/-- an append of a row that is read to an empty literal, in a region that draws its order -/
theorem step_copy {α : Type} (E : Enc α) (t ty e : TypeId) (i : TypeInfo) (z : Value) (bytes : Nat) (ht : Tryz.prog.underlying t = some (.slice e)) (hi : Tryz.prog.info? e = some i) (hz : i.zero = some z)
    (hs : i.size = E.sz) (hby : i.bytes = bytes) (hzs : z.cells.size = E.sz) (hbb : bytes ≤ 1000) (base : Nat)
    {ops : Array Oper} {o : Oper} {a : Act} {W : World} {K : Act → World → Prop} {Q : Exit → Act → World → Prop} {E' : Prop} (hgd : o.guard = none) (s x : Operand)
    (ho : o.op = .call { callee := .builtin .append, args := #[s, x], argTypes := #[t, t] }) (hty : o.type = ty) (g : Nat) (A : Option Addr) (c : Nat) (l : List α) (hv : a.eval s = .slice (some ⟨g, 0, none⟩) 0 0) (hx : a.eval x = .slice A l.length c)
    (hown : Own W g e #[]) (hbg : base ≤ g) (B : Nat) (hr : Rs E B W A l) (hl : l.length ≤ 1048576) (hb : base ≤ W.heap.size)
    (h : ∀ v' w', w'.ownsRow base e E.sz v' l.length (E.cells l) → W.grownBy w' (some g) → K (a.put o.dst v') w') : if Region.wanted o (yielded ops a.tmps) = true then Oper.wp Tryz.prog o a W K Q else E' := by
  have hO : W.ownsRow base e E.sz (.slice (some ⟨g, 0, none⟩) 0 0) 0 [] := ⟨by simp, .inr ⟨g, 0, #[], rfl, hbg, hown, Nat.le_refl _, by simp [maxLen], by simp, by simp⟩⟩
  obtain ⟨v', w', hrun, hown', hg', _⟩ := run_copy E t ty e i z bytes ht hi hz hs hby hzs hbb base W _ hO B A c l hr hl hb
  subst hty
  exact step_append_run hgd s x t ho _ _ v' w' hv hx hrun (h v' w' hown' hg')
theorem ownAt {W : World} {g : Nat} {t : TypeId} {cs : Array Value} (hn : g = W.heap.size) : Own (W.alloc (.cells cs t)) g t cs := by subst hn; exact Own.new_ _ _ _
theorem l4Copy_any (vl : Value) (c : Ca) (w : World) (hT : SlR lnE w vl c.ls) (hl : c.ls.length ≤ 1048576) :
    Calls Tryz.prog 118 #[.agg #[vl, .int .i64 c.hand]] w (Post2 fun v w' => ∃ v1, v = .agg #[v1, .int .i64 c.hand] ∧ SlM lnE 106 w.heap.size w' v1 c.ls ∧ Below w.heap.size w w') := by
  obtain ⟨A, cc, rfl, hbc, hbm, hL⟩ := hT
  obtain ⟨i0, hi0, hz0, hz1, hz2⟩ := info_parts ln_info
  have hbx := (Own.new_ w 29 #[.slice A c.ls.length cc, .int .i64 c.hand]).alloc (o := .cells #[.slice none 0 0, .int .i64 0] 29)
  have hbo := ownAt (W := w.alloc (.cells #[.slice A c.ls.length cc, .int .i64 c.hand] 29)) (g := w.heap.size + 1) (t := 29) (cs := #[.slice none 0 0, .int .i64 0]) (by simp)
  have hb0 : Below w.heap.size w ((w.alloc (.cells #[.slice A c.ls.length cc, .int .i64 c.hand] 29)).alloc (.cells #[.slice none 0 0, .int .i64 0] 29)) := bA (bA bR)
  have hs0 : ((w.alloc (.cells #[.slice A c.ls.length cc, .int .i64 c.hand] 29)).alloc (.cells #[.slice none 0 0, .int .i64 0] 29)).heap.size = w.heap.size + 2 := by simp
  generalize hW : (w.alloc (.cells #[.slice A c.ls.length cc, .int .i64 c.hand] 29)).alloc (.cells #[.slice none 0 0, .int .i64 0] 29) = W0 at hbx hbo hb0 hs0
  have q0 := hbx.cell_ 0 (v := .slice A c.ls.length cc) rfl
  have q1 := hbx.cell_ 1 (v := .int .i64 c.hand) rfl
  have HX0 := Lib.hid hbx
  have HO0 := Lib.hid hbo
  have HB0 := Lib.hid hb0
  have HL := Lib.hid hL
  clear hbx hbo hb0 hL
  go_enter Tryz.func118, Tryz.ntmps118
  go_wp2
  go_region_held_law (fun w' => w'.cell? ⟨w.heap.size, 0, none⟩ = some (.slice A c.ls.length cc) ∧ w'.cell? ⟨w.heap.size, 1, none⟩ = some (.int .i64 c.hand)) (go_keep) (first
    | (refine step_copy lnE 27 27 106 i0 _ _ Tryz.underlying27 hi0 hz0 hz1 hz2 rfl (by omega) (w.heap.size + 2) rfl (.tmp 3) (.tmp 5) rfl rfl _ A cc c.ls rfl rfl (ownAt (W := W0) (by simp [hs0])) (by simp <;> omega) w.heap.size (HL.out.below (bA (bD HB0.out))) hl (by simp [hs0] <;> omega) ?_
       intro v1 w1 hown1 hg1
       have hm1 := slm_own rfl hown1
       obtain ⟨A1, c1, rfl, _⟩ := slm_own rfl hown1
       have HB1 : Hid (Below w.heap.size w w1) := bG (bA (bD HB0.out)) hg1 (fun k hk => by injection hk with hk; omega)
       have hx1 := own_other (HX0.out.drew.alloc (o := .cells #[] 106)) hg1 (by simp <;> omega)
       have ho1 := own_other (HO0.out.drew.alloc (o := .cells #[] 106)) hg1 (by simp <;> omega)
       have d0 := hx1.cell_ 0 (v := .slice A c.ls.length cc) rfl
       have d1 := hx1.cell_ 1 (v := .int .i64 c.hand) rfl
       have p0 := ho1.free 0
       have p1 := ho1.free 1
       have p2 := ho1.cell_ 0 (v := .slice none 0 0) rfl
       have p3 := ho1.cell_ 1 (v := .int .i64 0) rfl
       have HO1 := Lib.hid ho1
       have HM1 := Lib.hid hm1
       clear hown1 hg1 hx1 ho1 hm1))
  all_goals
    go_wp2
    have o3 := (HO1.out.set_ 0 (.slice A1 c.ls.length c1)).set_ 1 (.int .i64 c.hand)
    have t0 := o3.cell_ 0 (v := .slice A1 c.ls.length c1) rfl
    have t1 := o3.cell_ 1 (v := .int .i64 c.hand) rfl
    have hM := (HM1.out.far (p := ⟨w.heap.size + 1, 0, none⟩) (u := .slice A1 c.ls.length c1) (by show w.heap.size + 1 < w.heap.size + 2; omega)).far (p := ⟨w.heap.size + 1, 1, none⟩) (u := .int .i64 c.hand) (by show w.heap.size + 1 < w.heap.size + 2; omega)
    refine bodyPost_ret (v := .agg #[.slice A1 c.ls.length c1, .int .i64 c.hand]) (by simp [results, Tryz.results118, go_sem, t0, t1]) rfl ⟨_, rfl, _, rfl, hM.mono (by omega), bS (bS HB1.out (by simp)) (by simp)⟩
theorem l5Copy_any (vo : Value) (g : Tg) (w : World) (hT : SlR owE w vo g.os) (hl : g.os.length ≤ 1048576) :
    Calls Tryz.prog 119 #[.agg #[.int .i64 g.count, .int .i64 g.next, .int .i64 g.round, vo]] w (Post2 fun v w' => ∃ v1, v = .agg #[.int .i64 g.count, .int .i64 g.next, .int .i64 g.round, v1] ∧ SlM owE 155 w.heap.size w' v1 g.os ∧ Below w.heap.size w w') := by
  obtain ⟨A, cc, rfl, hbc, hbm, hL⟩ := hT
  obtain ⟨i0, hi0, hz0, hz1, hz2⟩ := info_parts ow_info
  have hbx := (Own.new_ w 32 #[.int .i64 g.count, .int .i64 g.next, .int .i64 g.round, .slice A g.os.length cc]).alloc (o := .cells #[.int .i64 0, .int .i64 0, .int .i64 0, .slice none 0 0] 32)
  have hbo := ownAt (W := w.alloc (.cells #[.int .i64 g.count, .int .i64 g.next, .int .i64 g.round, .slice A g.os.length cc] 32)) (g := w.heap.size + 1) (t := 32) (cs := #[.int .i64 0, .int .i64 0, .int .i64 0, .slice none 0 0]) (by simp)
  have hb0 : Below w.heap.size w ((w.alloc (.cells #[.int .i64 g.count, .int .i64 g.next, .int .i64 g.round, .slice A g.os.length cc] 32)).alloc (.cells #[.int .i64 0, .int .i64 0, .int .i64 0, .slice none 0 0] 32)) := bA (bA bR)
  have hs0 : ((w.alloc (.cells #[.int .i64 g.count, .int .i64 g.next, .int .i64 g.round, .slice A g.os.length cc] 32)).alloc (.cells #[.int .i64 0, .int .i64 0, .int .i64 0, .slice none 0 0] 32)).heap.size = w.heap.size + 2 := by simp
  generalize hW : (w.alloc (.cells #[.int .i64 g.count, .int .i64 g.next, .int .i64 g.round, .slice A g.os.length cc] 32)).alloc (.cells #[.int .i64 0, .int .i64 0, .int .i64 0, .slice none 0 0] 32) = W0 at hbx hbo hb0 hs0
  have q0 := hbx.cell_ 0 (v := .int .i64 g.count) rfl
  have q1 := hbx.cell_ 1 (v := .int .i64 g.next) rfl
  have q2 := hbx.cell_ 2 (v := .int .i64 g.round) rfl
  have q3 := hbx.cell_ 3 (v := .slice A g.os.length cc) rfl
  have HX0 := Lib.hid hbx
  have HO0 := Lib.hid hbo
  have HB0 := Lib.hid hb0
  have HL := Lib.hid hL
  clear hbx hbo hb0 hL
  go_enter Tryz.func119, Tryz.ntmps119
  go_wp2
  go_region_held_law (fun w' => w'.cell? ⟨w.heap.size, 0, none⟩ = some (.int .i64 g.count) ∧ w'.cell? ⟨w.heap.size, 1, none⟩ = some (.int .i64 g.next) ∧ w'.cell? ⟨w.heap.size, 2, none⟩ = some (.int .i64 g.round) ∧ w'.cell? ⟨w.heap.size, 3, none⟩ = some (.slice A g.os.length cc)) (go_keep) (first
    | (refine step_copy owE 30 30 155 i0 _ _ Tryz.underlying30 hi0 hz0 hz1 hz2 rfl (by omega) (w.heap.size + 2) rfl (.tmp 9) (.tmp 11) rfl rfl _ A cc g.os rfl rfl (ownAt (W := W0) (by simp [hs0])) (by simp <;> omega) w.heap.size (HL.out.below (bA (bD HB0.out))) hl (by simp [hs0] <;> omega) ?_
       intro v1 w1 hown1 hg1
       have hm1 := slm_own rfl hown1
       obtain ⟨A1, c1, rfl, _⟩ := slm_own rfl hown1
       have HB1 : Hid (Below w.heap.size w w1) := bG (bA (bD HB0.out)) hg1 (fun k hk => by injection hk with hk; omega)
       have hx1 := own_other (HX0.out.drew.alloc (o := .cells #[] 155)) hg1 (by simp <;> omega)
       have ho1 := own_other (HO0.out.drew.alloc (o := .cells #[] 155)) hg1 (by simp <;> omega)
       have d0 := hx1.cell_ 0 (v := .int .i64 g.count) rfl
       have d1 := hx1.cell_ 1 (v := .int .i64 g.next) rfl
       have d2 := hx1.cell_ 2 (v := .int .i64 g.round) rfl
       have d3 := hx1.cell_ 3 (v := .slice A g.os.length cc) rfl
       have p0 := ho1.free 0
       have p1 := ho1.free 1
       have p2 := ho1.free 2
       have p3 := ho1.free 3
       have e0 := ho1.cell_ 0 (v := .int .i64 0) rfl
       have e1 := ho1.cell_ 1 (v := .int .i64 0) rfl
       have e2 := ho1.cell_ 2 (v := .int .i64 0) rfl
       have e3 := ho1.cell_ 3 (v := .slice none 0 0) rfl
       have HO1 := Lib.hid ho1
       have HM1 := Lib.hid hm1
       clear hown1 hg1 hx1 ho1 hm1))
  all_goals
    go_wp2
    have o3 := (((HO1.out.set_ 0 (.int .i64 g.count)).set_ 1 (.int .i64 g.next)).set_ 2 (.int .i64 g.round)).set_ 3 (.slice A1 g.os.length c1)
    have t0 := o3.cell_ 0 (v := .int .i64 g.count) rfl
    have t1 := o3.cell_ 1 (v := .int .i64 g.next) rfl
    have t2 := o3.cell_ 2 (v := .int .i64 g.round) rfl
    have t3 := o3.cell_ 3 (v := .slice A1 g.os.length c1) rfl
    have hM := (((HM1.out.far (p := ⟨w.heap.size + 1, 0, none⟩) (u := .int .i64 g.count) (by show w.heap.size + 1 < w.heap.size + 2; omega)).far (p := ⟨w.heap.size + 1, 1, none⟩) (u := .int .i64 g.next) (by show w.heap.size + 1 < w.heap.size + 2; omega)).far (p := ⟨w.heap.size + 1, 2, none⟩) (u := .int .i64 g.round) (by show w.heap.size + 1 < w.heap.size + 2; omega)).far (p := ⟨w.heap.size + 1, 3, none⟩) (u := .slice A1 g.os.length c1) (by show w.heap.size + 1 < w.heap.size + 2; omega)
    refine bodyPost_ret (v := .agg #[.int .i64 g.count, .int .i64 g.next, .int .i64 g.round, .slice A1 g.os.length c1]) (by simp [results, Tryz.results119, go_sem, t0, t1, t2, t3]) rfl ⟨_, rfl, _, rfl, hM.mono (by omega), bS (bS (bS (bS HB1.out (by simp)) (by simp)) (by simp)) (by simp)⟩
theorem own_ne {W : World} {base : Nat} {e e2 : TypeId} {sz n g2 : Nat} {v : Value} {xs : List Value} {cs : Array Value} (h : W.ownsRow base e sz v n xs) (h2 : Own W g2 e2 cs) (hne : e ≠ e2) : v.ownBlock = none ∨ v.ownBlock ≠ some g2 := by
  rcases h.2 with ⟨rfl, _⟩ | ⟨g, cap, cur, rfl, _, hg, _⟩
  · exact .inl rfl
  · refine .inr fun heq => ?_
    injection heq with heq
    replace heq : g = g2 := heq
    subst heq
    unfold Own at h2
    rw [hg] at h2
    injection h2 with h2
    injection h2 with _ h2
    exact hne h2
set_option maxHeartbeats 1000000 in
theorem l3Copy_any (vb vf : Value) (t : Tab) (w : World) (hT : TaR w vb vf t) (h1 : t.bs.length ≤ 1048576) (h2 : t.fs.length ≤ 1048576) :
    Calls Tryz.prog 117 #[.agg #[vb, vf]] w (Post2 fun v w' => ∃ v1 v2, v = .agg #[v1, v2] ∧ TaM w.heap.size w' v1 v2 t ∧ Below w.heap.size w w') := by
  obtain ⟨Ab, cb, rfl, hbc, hbm, hB⟩ := hT.b
  obtain ⟨Af, cf, rfl, hfc, hfm, hF⟩ := hT.f
  obtain ⟨i0, hi0, hz0, hz1, hz2⟩ := info_parts int_info2
  obtain ⟨j0, hj0, hy0, hy1, hy2⟩ := info_parts fr_info
  have hbx := (Own.new_ w 26 #[.slice Ab t.bs.length cb, .slice Af t.fs.length cf]).alloc (o := .cells #[.slice none 0 0, .slice none 0 0] 26)
  have hbo := ownAt (W := w.alloc (.cells #[.slice Ab t.bs.length cb, .slice Af t.fs.length cf] 26)) (g := w.heap.size + 1) (t := 26) (cs := #[.slice none 0 0, .slice none 0 0]) (by simp)
  have hb0 : Below w.heap.size w ((w.alloc (.cells #[.slice Ab t.bs.length cb, .slice Af t.fs.length cf] 26)).alloc (.cells #[.slice none 0 0, .slice none 0 0] 26)) := bA (bA bR)
  have hs0 : ((w.alloc (.cells #[.slice Ab t.bs.length cb, .slice Af t.fs.length cf] 26)).alloc (.cells #[.slice none 0 0, .slice none 0 0] 26)).heap.size = w.heap.size + 2 := by simp
  generalize hW : (w.alloc (.cells #[.slice Ab t.bs.length cb, .slice Af t.fs.length cf] 26)).alloc (.cells #[.slice none 0 0, .slice none 0 0] 26) = W0 at hbx hbo hb0 hs0
  have q0 := hbx.cell_ 0 (v := .slice Ab t.bs.length cb) rfl
  have q1 := hbx.cell_ 1 (v := .slice Af t.fs.length cf) rfl
  have HX0 := Lib.hid hbx
  have HO0 := Lib.hid hbo
  have HB0 := Lib.hid hb0
  have HBR := Lib.hid hB
  have HFR := Lib.hid hF
  clear hbx hbo hb0 hB hF hT
  go_enter Tryz.func117, Tryz.ntmps117
  go_wp2
  go_region_held_law (fun w' => w'.cell? ⟨w.heap.size, 0, none⟩ = some (.slice Ab t.bs.length cb) ∧ w'.cell? ⟨w.heap.size, 1, none⟩ = some (.slice Af t.fs.length cf)) (go_keep) (first
    | (refine step_copy intE 23 23 3 i0 _ _ Tryz.underlying23 hi0 hz0 hz1 hz2 rfl (by omega) (w.heap.size + 2) rfl (.tmp 3) (.tmp 5) rfl rfl _ Ab cb t.bs rfl rfl (ownAt (W := W0) (by simp [hs0])) (by first | omega | (simp [hs0] <;> omega)) w.heap.size (HBR.out.below (by first | exact bA (bD HB0.out) | exact bA (bA (bD HB0.out)))) h1 (by first | omega | (simp [hs0] <;> omega)) ?_
       intro v1 w1 hown1 hg1
       obtain ⟨A1, c1, rfl, _⟩ := slm_own rfl hown1
       have HB1 : Hid (Below w.heap.size w w1) := bG (by first | exact bA (bD HB0.out) | exact bA (bA (bD HB0.out))) hg1 (fun k hk => by injection hk with hk; omega)
       have hx1 := own_other (by first | exact HX0.out.drew.alloc (o := .cells #[] 3) | exact (HX0.out.drew.alloc (o := .cells #[] 3)).alloc (o := .cells #[] 48) | exact (HX0.out.drew.alloc (o := .cells #[] 48)).alloc (o := .cells #[] 3)) hg1 (by first | omega | (simp [hs0] <;> omega))
       have ho1 := own_other (by first | exact HO0.out.drew.alloc (o := .cells #[] 3) | exact (HO0.out.drew.alloc (o := .cells #[] 3)).alloc (o := .cells #[] 48) | exact (HO0.out.drew.alloc (o := .cells #[] 48)).alloc (o := .cells #[] 3)) hg1 (by first | omega | (simp [hs0] <;> omega))
       have d0 := hx1.cell_ 0 (v := .slice Ab t.bs.length cb) rfl
       have d1 := hx1.cell_ 1 (v := .slice Af t.fs.length cf) rfl
       have HX1 := Lib.hid hx1
       have HO1 := Lib.hid ho1
       have HW1 := Lib.hid hown1
       have hs1 : w.heap.size + 3 ≤ w1.heap.size := Nat.le_trans (by first | omega | (simp [hs0] <;> omega)) hg1.size
       skip
       clear hown1 hg1 hx1 ho1)
    | (refine step_copy intE 23 23 3 i0 _ _ Tryz.underlying23 hi0 hz0 hz1 hz2 rfl (by omega) (w.heap.size + 2) rfl (.tmp 3) (.tmp 5) rfl rfl _ Ab cb t.bs rfl rfl (ownAt (W := W0) (by simp [hs0])).alloc (by first | omega | (simp [hs0] <;> omega)) w.heap.size (HBR.out.below (by first | exact bA (bD HB0.out) | exact bA (bA (bD HB0.out)))) h1 (by first | omega | (simp [hs0] <;> omega)) ?_
       intro v1 w1 hown1 hg1
       obtain ⟨A1, c1, rfl, _⟩ := slm_own rfl hown1
       have HB1 : Hid (Below w.heap.size w w1) := bG (by first | exact bA (bD HB0.out) | exact bA (bA (bD HB0.out))) hg1 (fun k hk => by injection hk with hk; omega)
       have hx1 := own_other (by first | exact HX0.out.drew.alloc (o := .cells #[] 3) | exact (HX0.out.drew.alloc (o := .cells #[] 3)).alloc (o := .cells #[] 48) | exact (HX0.out.drew.alloc (o := .cells #[] 48)).alloc (o := .cells #[] 3)) hg1 (by first | omega | (simp [hs0] <;> omega))
       have ho1 := own_other (by first | exact HO0.out.drew.alloc (o := .cells #[] 3) | exact (HO0.out.drew.alloc (o := .cells #[] 3)).alloc (o := .cells #[] 48) | exact (HO0.out.drew.alloc (o := .cells #[] 48)).alloc (o := .cells #[] 3)) hg1 (by first | omega | (simp [hs0] <;> omega))
       have d0 := hx1.cell_ 0 (v := .slice Ab t.bs.length cb) rfl
       have d1 := hx1.cell_ 1 (v := .slice Af t.fs.length cf) rfl
       have HX1 := Lib.hid hx1
       have HO1 := Lib.hid ho1
       have HW1 := Lib.hid hown1
       have hs1 : w.heap.size + 3 ≤ w1.heap.size := Nat.le_trans (by first | omega | (simp [hs0] <;> omega)) hg1.size
       have HF1 := Lib.hid (own_other (ownAt (W := W0.drew.alloc (.cells #[] 3)) (g := w.heap.size + 3) (t := 48) (cs := #[]) (by simp [hs0])) hg1 (by first | omega | (simp [hs0] <;> omega)))
       clear hown1 hg1 hx1 ho1)
    | (refine step_copy intE 23 23 3 i0 _ _ Tryz.underlying23 hi0 hz0 hz1 hz2 rfl (by omega) (w.heap.size + 2) rfl (.tmp 3) (.tmp 5) rfl rfl _ Ab cb t.bs rfl rfl (ownAt (W := W0.alloc (.cells #[] 48)) (by simp [hs0])) (by first | omega | (simp [hs0] <;> omega)) w.heap.size (HBR.out.below (by first | exact bA (bD HB0.out) | exact bA (bA (bD HB0.out)))) h1 (by first | omega | (simp [hs0] <;> omega)) ?_
       intro v1 w1 hown1 hg1
       obtain ⟨A1, c1, rfl, _⟩ := slm_own rfl hown1
       have HB1 : Hid (Below w.heap.size w w1) := bG (by first | exact bA (bD HB0.out) | exact bA (bA (bD HB0.out))) hg1 (fun k hk => by injection hk with hk; omega)
       have hx1 := own_other (by first | exact HX0.out.drew.alloc (o := .cells #[] 3) | exact (HX0.out.drew.alloc (o := .cells #[] 3)).alloc (o := .cells #[] 48) | exact (HX0.out.drew.alloc (o := .cells #[] 48)).alloc (o := .cells #[] 3)) hg1 (by first | omega | (simp [hs0] <;> omega))
       have ho1 := own_other (by first | exact HO0.out.drew.alloc (o := .cells #[] 3) | exact (HO0.out.drew.alloc (o := .cells #[] 3)).alloc (o := .cells #[] 48) | exact (HO0.out.drew.alloc (o := .cells #[] 48)).alloc (o := .cells #[] 3)) hg1 (by first | omega | (simp [hs0] <;> omega))
       have d0 := hx1.cell_ 0 (v := .slice Ab t.bs.length cb) rfl
       have d1 := hx1.cell_ 1 (v := .slice Af t.fs.length cf) rfl
       have HX1 := Lib.hid hx1
       have HO1 := Lib.hid ho1
       have HW1 := Lib.hid hown1
       have hs1 : w.heap.size + 3 ≤ w1.heap.size := Nat.le_trans (by first | omega | (simp [hs0] <;> omega)) hg1.size
       have HF1 := Lib.hid (own_other (ownAt (W := W0.drew) (g := w.heap.size + 2) (t := 48) (cs := #[]) (by simp [hs0])).alloc hg1 (by first | omega | (simp [hs0] <;> omega)))
       clear hown1 hg1 hx1 ho1)
    | (refine step_copy frE 24 24 48 j0 _ _ Tryz.underlying24 hj0 hy0 hy1 hy2 rfl (by omega) (w.heap.size + 2) rfl (.tmp 7) (.tmp 9) rfl rfl _ Af cf t.fs rfl rfl (by first | exact HF1.out | exact Own.new_ _ _ _) (by first | omega | (simp [hs0] <;> omega)) w.heap.size (HFR.out.below (by first | exact HB1.out | exact bA HB1.out)) h2 (by first | omega | (simp [hs0] <;> omega)) ?_
       intro v2 w2 hown2 hg2
       have hm2 := slm_own rfl hown2
       obtain ⟨A2, c2, rfl, _⟩ := slm_own rfl hown2
       have hk1 : w2.ownsRow (w.heap.size + 2) 3 intE.sz (.slice A1 t.bs.length c1) t.bs.length (intE.cells t.bs) := by
         first
           | exact HW1.out.kept hg2 (own_ne (e2 := 48) HW1.out HF1.out (by decide))
           | exact (HW1.out.alloc (.cells #[] 48)).kept hg2 (own_ne (e2 := 48) (HW1.out.alloc (.cells #[] 48)) (Own.new_ w1 48 #[]) (by decide))
       have HM1 := Lib.hid (slm_own rfl hk1)
       have HM2 := Lib.hid hm2
       have HB2 : Hid (Below w.heap.size w w2) := bG (by first | exact HB1.out | exact bA HB1.out) hg2 (fun k hk => by injection hk with hk; omega)
       have hx2 := own_other (by first | exact HX1.out | exact HX1.out.alloc (o := .cells #[] 48)) hg2 (by first | omega | (simp [hs0] <;> omega))
       have ho2 := own_other (by first | exact HO1.out | exact HO1.out.alloc (o := .cells #[] 48)) hg2 (by first | omega | (simp [hs0] <;> omega))
       have f0 := hx2.cell_ 0 (v := .slice Ab t.bs.length cb) rfl
       have f1 := hx2.cell_ 1 (v := .slice Af t.fs.length cf) rfl
       have p0 := ho2.free 0
       have p1 := ho2.free 1
       have p2 := ho2.cell_ 0 (v := .slice none 0 0) rfl
       have p3 := ho2.cell_ 1 (v := .slice none 0 0) rfl
       have HO2 := Lib.hid ho2
       clear hown2 hg2 hx2 ho2 hm2 hk1))
  all_goals
    go_wp2
    have o3 := (HO2.out.set_ 0 (.slice A1 t.bs.length c1)).set_ 1 (.slice A2 t.fs.length c2)
    have t0 := o3.cell_ 0 (v := .slice A1 t.bs.length c1) rfl
    have t1 := o3.cell_ 1 (v := .slice A2 t.fs.length c2) rfl
    have hT2 : TaM (w.heap.size + 2) w2 (.slice A1 t.bs.length c1) (.slice A2 t.fs.length c2) t := ⟨HM1.out, HM2.out⟩
    have hM := (hT2.far (p := ⟨w.heap.size + 1, 0, none⟩) (u := .slice A1 t.bs.length c1) (by show w.heap.size + 1 < w.heap.size + 2; omega)).far (p := ⟨w.heap.size + 1, 1, none⟩) (u := .slice A2 t.fs.length c2) (by show w.heap.size + 1 < w.heap.size + 2; omega)
    refine bodyPost_ret (v := .agg #[.slice A1 t.bs.length c1, .slice A2 t.fs.length c2]) (by simp [results, Tryz.results117, go_sem, t0, t1]) rfl ⟨_, rfl, _, _, rfl, hM.mono (by omega), bS (bS HB2.out (by simp)) (by simp)⟩
end Go.Proofs.YtnaagdmaggdbmaaGreatDoor
namespace Go.Proofs.YtnaagdmaggdbmaaGreatDoor
open Go.RowKit
set_option maxRecDepth 1000000
set_option maxHeartbeats 4000000 in
theorem l6Copy_any (vb vf vl vo : Value) (m : Ma) (w : World) (hM : MaR w vb vf vl vo m) (h1 : m.t.bs.length ≤ 1048576) (h2 : m.t.fs.length ≤ 1048576) (h3 : m.c.ls.length ≤ 1048576) (h4 : m.g.os.length ≤ 1048576) :
    Calls Tryz.prog 54 #[.agg #[vb, vf, vl, .int .i64 m.c.hand, .int .i64 m.g.count, .int .i64 m.g.next, .int .i64 m.g.round, vo, .int .i64 m.sp]] w (Post2 fun v w' => ∃ v1 v2 v3 v4, v = .agg #[v1, v2, v3, .int .i64 m.c.hand, .int .i64 m.g.count, .int .i64 m.g.next, .int .i64 m.g.round, v4, .int .i64 m.sp] ∧ MaM w.heap.size w' v1 v2 v3 v4 m ∧ Below w.heap.size w w') := by
  have hbx := (Own.new_ w 34 #[vb, vf, vl, .int .i64 m.c.hand, .int .i64 m.g.count, .int .i64 m.g.next, .int .i64 m.g.round, vo, .int .i64 m.sp]).alloc (o := .cells #[.slice none 0 0, .slice none 0 0, .slice none 0 0, .int .i64 0, .int .i64 0, .int .i64 0, .int .i64 0, .slice none 0 0, .int .i64 0] 34)
  have hbo := ownAt (W := w.alloc (.cells #[vb, vf, vl, .int .i64 m.c.hand, .int .i64 m.g.count, .int .i64 m.g.next, .int .i64 m.g.round, vo, .int .i64 m.sp] 34)) (g := w.heap.size + 1) (t := 34) (cs := #[.slice none 0 0, .slice none 0 0, .slice none 0 0, .int .i64 0, .int .i64 0, .int .i64 0, .int .i64 0, .slice none 0 0, .int .i64 0]) (by simp)
  have hb0 : Below w.heap.size w ((w.alloc (.cells #[vb, vf, vl, .int .i64 m.c.hand, .int .i64 m.g.count, .int .i64 m.g.next, .int .i64 m.g.round, vo, .int .i64 m.sp] 34)).alloc (.cells #[.slice none 0 0, .slice none 0 0, .slice none 0 0, .int .i64 0, .int .i64 0, .int .i64 0, .int .i64 0, .slice none 0 0, .int .i64 0] 34)) := bA (bA bR)
  have hs0 : ((w.alloc (.cells #[vb, vf, vl, .int .i64 m.c.hand, .int .i64 m.g.count, .int .i64 m.g.next, .int .i64 m.g.round, vo, .int .i64 m.sp] 34)).alloc (.cells #[.slice none 0 0, .slice none 0 0, .slice none 0 0, .int .i64 0, .int .i64 0, .int .i64 0, .int .i64 0, .slice none 0 0, .int .i64 0] 34)).heap.size = w.heap.size + 2 := by simp
  generalize hW : (w.alloc (.cells #[vb, vf, vl, .int .i64 m.c.hand, .int .i64 m.g.count, .int .i64 m.g.next, .int .i64 m.g.round, vo, .int .i64 m.sp] 34)).alloc (.cells #[.slice none 0 0, .slice none 0 0, .slice none 0 0, .int .i64 0, .int .i64 0, .int .i64 0, .int .i64 0, .slice none 0 0, .int .i64 0] 34) = W0 at hbx hbo hb0 hs0
  have m0q := hbx.cell_ 0 (v := vb) rfl
  have m1q := hbx.cell_ 1 (v := vf) rfl
  have m2q := hbx.cell_ 2 (v := vl) rfl
  have m3q := hbx.cell_ 3 (v := .int .i64 m.c.hand) rfl
  have m4q := hbx.cell_ 4 (v := .int .i64 m.g.count) rfl
  have m5q := hbx.cell_ 5 (v := .int .i64 m.g.next) rfl
  have m6q := hbx.cell_ 6 (v := .int .i64 m.g.round) rfl
  have m7q := hbx.cell_ 7 (v := vo) rfl
  have m8q := hbx.cell_ 8 (v := .int .i64 m.sp) rfl
  have HX0 := Lib.hid hbx
  have HO0 := Lib.hid hbo
  have HB0 := Lib.hid hb0
  have HM := Lib.hid hM
  clear hbx hbo hb0 hM
  go_enter Tryz.func54, Tryz.ntmps54
  go_wp2
  go_region_held_law (fun w' => w'.cell? ⟨w.heap.size, 0, none⟩ = some vb ∧ w'.cell? ⟨w.heap.size, 1, none⟩ = some vf ∧ w'.cell? ⟨w.heap.size, 2, none⟩ = some vl ∧ w'.cell? ⟨w.heap.size, 3, none⟩ = some (.int .i64 m.c.hand) ∧ w'.cell? ⟨w.heap.size, 4, none⟩ = some (.int .i64 m.g.count) ∧ w'.cell? ⟨w.heap.size, 5, none⟩ = some (.int .i64 m.g.next) ∧ w'.cell? ⟨w.heap.size, 6, none⟩ = some (.int .i64 m.g.round) ∧ w'.cell? ⟨w.heap.size, 7, none⟩ = some vo ∧ w'.cell? ⟨w.heap.size, 8, none⟩ = some (.int .i64 m.sp)) (go_keep) (first
    | (refine step_call rfl ?_ (l3Copy_any vb vf m.t _ (HM.out.t.now (bD HB0.out)) h1 h2) ?_
       go_simp
       rintro _ w1 ⟨a1, a2, rfl, hT1, hb1⟩
       have HB1 := Lib.hid (bT (bD HB0.out) hb1)
       have hx1 := HX0.out.drew.below hb1
       have HO1 := Lib.hid (HO0.out.drew.below hb1)
       have hs1 : w.heap.size + 2 ≤ w1.heap.size := Nat.le_trans (Nat.le_of_eq hs0.symm) hb1.size
       have m0d := hx1.cell_ 0 (v := vb) rfl
       have m1d := hx1.cell_ 1 (v := vf) rfl
       have m2d := hx1.cell_ 2 (v := vl) rfl
       have m3d := hx1.cell_ 3 (v := .int .i64 m.c.hand) rfl
       have m4d := hx1.cell_ 4 (v := .int .i64 m.g.count) rfl
       have m5d := hx1.cell_ 5 (v := .int .i64 m.g.next) rfl
       have m6d := hx1.cell_ 6 (v := .int .i64 m.g.round) rfl
       have m7d := hx1.cell_ 7 (v := vo) rfl
       have m8d := hx1.cell_ 8 (v := .int .i64 m.sp) rfl
       have HX1 := Lib.hid hx1
       have HT1 := Lib.hid (hT1.mono (B' := w.heap.size + 2) (Nat.le_of_eq hs0.symm))
       clear hx1 hT1 hb1)
    | (refine step_call rfl ?_ (l4Copy_any vl m.c _ (HM.out.l.now HB1.out) h3) ?_
       go_simp
       rintro _ w2 ⟨a3, rfl, hL2, hb2⟩
       have HB2 := Lib.hid (bT HB1.out hb2)
       have hx2 := HX1.out.below hb2
       have HO2 := Lib.hid (HO1.out.below hb2)
       have HT2 := Lib.hid (HT1.out.now hb2)
       have hs2 : w.heap.size + 2 ≤ w2.heap.size := Nat.le_trans hs1 hb2.size
       have m0e := hx2.cell_ 0 (v := vb) rfl
       have m1e := hx2.cell_ 1 (v := vf) rfl
       have m2e := hx2.cell_ 2 (v := vl) rfl
       have m3e := hx2.cell_ 3 (v := .int .i64 m.c.hand) rfl
       have m4e := hx2.cell_ 4 (v := .int .i64 m.g.count) rfl
       have m5e := hx2.cell_ 5 (v := .int .i64 m.g.next) rfl
       have m6e := hx2.cell_ 6 (v := .int .i64 m.g.round) rfl
       have m7e := hx2.cell_ 7 (v := vo) rfl
       have m8e := hx2.cell_ 8 (v := .int .i64 m.sp) rfl
       have HX2 := Lib.hid hx2
       have HL2 := Lib.hid (hL2.mono (base' := w.heap.size + 2) hs1)
       clear hx2 hL2 hb2 m0d m1d m2d m3d m4d m5d m6d m7d m8d)
    | (refine step_call rfl ?_ (l5Copy_any vo m.g _ (HM.out.o.now HB2.out) h4) ?_
       go_simp
       rintro _ w3 ⟨a4, rfl, hO3, hb3⟩
       have HB3 := Lib.hid (bT HB2.out hb3)
       have hx3 := HX2.out.below hb3
       have ho3 := HO2.out.below hb3
       have HM3 : Hid (MaM (w.heap.size + 2) w3 a1 a2 a3 a4 m) := ⟨HT2.out.now hb3, HL2.out.now hb3, hO3.mono hs2⟩
       have m0f := hx3.cell_ 0 (v := vb) rfl
       have m1f := hx3.cell_ 1 (v := vf) rfl
       have m2f := hx3.cell_ 2 (v := vl) rfl
       have m3f := hx3.cell_ 3 (v := .int .i64 m.c.hand) rfl
       have m4f := hx3.cell_ 4 (v := .int .i64 m.g.count) rfl
       have m5f := hx3.cell_ 5 (v := .int .i64 m.g.next) rfl
       have m6f := hx3.cell_ 6 (v := .int .i64 m.g.round) rfl
       have m7f := hx3.cell_ 7 (v := vo) rfl
       have m8f := hx3.cell_ 8 (v := .int .i64 m.sp) rfl
       have r0x := ho3.cell_ 0 (v := .slice none 0 0) rfl
       have r1x := ho3.cell_ 1 (v := .slice none 0 0) rfl
       have r2x := ho3.cell_ 2 (v := .slice none 0 0) rfl
       have r3x := ho3.cell_ 3 (v := .int .i64 0) rfl
       have r4x := ho3.cell_ 4 (v := .int .i64 0) rfl
       have r5x := ho3.cell_ 5 (v := .int .i64 0) rfl
       have r6x := ho3.cell_ 6 (v := .int .i64 0) rfl
       have r7x := ho3.cell_ 7 (v := .slice none 0 0) rfl
       have r8x := ho3.cell_ 8 (v := .int .i64 0) rfl
       have z0x := ho3.free 0
       have z1x := ho3.free 1
       have z2x := ho3.free 2
       have z3x := ho3.free 3
       have z4x := ho3.free 4
       have z5x := ho3.free 5
       have z6x := ho3.free 6
       have z7x := ho3.free 7
       have z8x := ho3.free 8
       have HO3 := Lib.hid ho3
       obtain ⟨A1, c1, rfl, _⟩ := HM3.out.t.b
       obtain ⟨A2, c2, rfl, _⟩ := HM3.out.t.f
       obtain ⟨A3, c3, rfl, _⟩ := HM3.out.l
       obtain ⟨A4, c4, rfl, _⟩ := HM3.out.o
       clear hx3 ho3 hO3 hb3 m0e m1e m2e m3e m4e m5e m6e m7e m8e))
  all_goals
    go_wp2
    have o3 := ((((((((HO3.out.set_ 0 (.slice A1 m.t.bs.length c1)).set_ 1 (.slice A2 m.t.fs.length c2)).set_ 2 (.slice A3 m.c.ls.length c3)).set_ 3 (.int .i64 m.c.hand)).set_ 4 (.int .i64 m.g.count)).set_ 5 (.int .i64 m.g.next)).set_ 6 (.int .i64 m.g.round)).set_ 7 (.slice A4 m.g.os.length c4)).set_ 8 (.int .i64 m.sp)
    have t0 := o3.cell_ 0 (v := .slice A1 m.t.bs.length c1) (by simp)
    have t1 := o3.cell_ 1 (v := .slice A2 m.t.fs.length c2) (by simp)
    have t2 := o3.cell_ 2 (v := .slice A3 m.c.ls.length c3) (by simp)
    have t3 := o3.cell_ 3 (v := .int .i64 m.c.hand) (by simp)
    have t4 := o3.cell_ 4 (v := .int .i64 m.g.count) (by simp)
    have t5 := o3.cell_ 5 (v := .int .i64 m.g.next) (by simp)
    have t6 := o3.cell_ 6 (v := .int .i64 m.g.round) (by simp)
    have t7 := o3.cell_ 7 (v := .slice A4 m.g.os.length c4) (by simp)
    have t8 := o3.cell_ 8 (v := .int .i64 m.sp) (by simp)
    refine bodyPost_ret (v := .agg #[.slice A1 m.t.bs.length c1, .slice A2 m.t.fs.length c2, .slice A3 m.c.ls.length c3, .int .i64 m.c.hand, .int .i64 m.g.count, .int .i64 m.g.next, .int .i64 m.g.round, .slice A4 m.g.os.length c4, .int .i64 m.sp]) (by simp [results, Tryz.results54, go_sem, t0, t1, t2, t3, t4, t5, t6, t7, t8]) rfl ⟨_, rfl, _, _, _, _, rfl, ?_, ?_⟩
    · refine MaM.mono (B := w.heap.size + 2) ?_ (by omega)
      repeat (refine MaM.far ?_ (by show w.heap.size + 1 < w.heap.size + 2; omega))
      exact HM3.out
    · repeat (refine bS ?_ (by simp))
      exact HB3.out
end Go.Proofs.YtnaagdmaggdbmaaGreatDoor
namespace Go.Proofs.YtnaagdmaggdbmaaGreatDoor
open Go.RowKit
set_option maxRecDepth 1000000
set_option maxHeartbeats 1000000 in
theorem mclone_any (vb vf vl vo : Value) (m : Ma) (w : World) (hM : MaR w vb vf vl vo m) (h1 : m.t.bs.length ≤ 1048576) (h2 : m.t.fs.length ≤ 1048576) (h3 : m.c.ls.length ≤ 1048576) (h4 : m.g.os.length ≤ 1048576) :
    Calls Tryz.prog 101 #[.agg #[vb, vf, vl, .int .i64 m.c.hand, .int .i64 m.g.count, .int .i64 m.g.next, .int .i64 m.g.round, vo, .int .i64 m.sp]] w (Post2 fun v w' => ∃ v1 v2 v3 v4, v = .agg #[v1, v2, v3, .int .i64 m.c.hand, .int .i64 m.g.count, .int .i64 m.g.next, .int .i64 m.g.round, v4, .int .i64 m.sp] ∧ MaM w.heap.size w' v1 v2 v3 v4 m ∧ Below w.heap.size w w') := by
  have hbx := (Own.new_ w 34 #[vb, vf, vl, .int .i64 m.c.hand, .int .i64 m.g.count, .int .i64 m.g.next, .int .i64 m.g.round, vo, .int .i64 m.sp]).alloc (o := .cells #[.slice none 0 0, .slice none 0 0, .slice none 0 0, .int .i64 0, .int .i64 0, .int .i64 0, .int .i64 0, .slice none 0 0, .int .i64 0] 34)
  have hbo := ownAt (W := w.alloc (.cells #[vb, vf, vl, .int .i64 m.c.hand, .int .i64 m.g.count, .int .i64 m.g.next, .int .i64 m.g.round, vo, .int .i64 m.sp] 34)) (g := w.heap.size + 1) (t := 34) (cs := #[.slice none 0 0, .slice none 0 0, .slice none 0 0, .int .i64 0, .int .i64 0, .int .i64 0, .int .i64 0, .slice none 0 0, .int .i64 0]) (by simp)
  have hb0 : Below w.heap.size w ((w.alloc (.cells #[vb, vf, vl, .int .i64 m.c.hand, .int .i64 m.g.count, .int .i64 m.g.next, .int .i64 m.g.round, vo, .int .i64 m.sp] 34)).alloc (.cells #[.slice none 0 0, .slice none 0 0, .slice none 0 0, .int .i64 0, .int .i64 0, .int .i64 0, .int .i64 0, .slice none 0 0, .int .i64 0] 34)) := bA (bA bR)
  have hs0 : ((w.alloc (.cells #[vb, vf, vl, .int .i64 m.c.hand, .int .i64 m.g.count, .int .i64 m.g.next, .int .i64 m.g.round, vo, .int .i64 m.sp] 34)).alloc (.cells #[.slice none 0 0, .slice none 0 0, .slice none 0 0, .int .i64 0, .int .i64 0, .int .i64 0, .int .i64 0, .slice none 0 0, .int .i64 0] 34)).heap.size = w.heap.size + 2 := by simp
  generalize hW : (w.alloc (.cells #[vb, vf, vl, .int .i64 m.c.hand, .int .i64 m.g.count, .int .i64 m.g.next, .int .i64 m.g.round, vo, .int .i64 m.sp] 34)).alloc (.cells #[.slice none 0 0, .slice none 0 0, .slice none 0 0, .int .i64 0, .int .i64 0, .int .i64 0, .int .i64 0, .slice none 0 0, .int .i64 0] 34) = W0 at hbx hbo hb0 hs0
  have m0q := hbx.cell_ 0 (v := vb) rfl
  have m1q := hbx.cell_ 1 (v := vf) rfl
  have m2q := hbx.cell_ 2 (v := vl) rfl
  have m3q := hbx.cell_ 3 (v := .int .i64 m.c.hand) rfl
  have m4q := hbx.cell_ 4 (v := .int .i64 m.g.count) rfl
  have m5q := hbx.cell_ 5 (v := .int .i64 m.g.next) rfl
  have m6q := hbx.cell_ 6 (v := .int .i64 m.g.round) rfl
  have m7q := hbx.cell_ 7 (v := vo) rfl
  have m8q := hbx.cell_ 8 (v := .int .i64 m.sp) rfl
  have HX0 := Lib.hid hbx
  have HO0 := Lib.hid hbo
  have HB0 := Lib.hid hb0
  have HM := Lib.hid hM
  clear hbx hbo hb0 hM
  go_enter Tryz.func101, Tryz.ntmps101
  go_wp2_with fail
  refine (tclone_any vb vf m.t _ (HM.out.t.now HB0.out) h1 h2).mono ?_
  rintro e w1 ⟨a1, a2, rfl, hT1, hb1⟩
  obtain ⟨A1, c1, rfl, hc1, hd1, hm1⟩ := hT1.b
  obtain ⟨A2, c2, rfl, hc2, hd2, hm2⟩ := hT1.f
  have HB1 := Lib.hid (bT HB0.out hb1)
  have hx1 := HX0.out.below hb1
  have HO1 := Lib.hid (HO0.out.below hb1)
  have hs1 : w.heap.size + 2 ≤ w1.heap.size := Nat.le_trans (Nat.le_of_eq hs0.symm) hb1.size
  have m0d := hx1.cell_ 0 (v := vb) rfl
  have m1d := hx1.cell_ 1 (v := vf) rfl
  have m2d := hx1.cell_ 2 (v := vl) rfl
  have m3d := hx1.cell_ 3 (v := .int .i64 m.c.hand) rfl
  have m4d := hx1.cell_ 4 (v := .int .i64 m.g.count) rfl
  have m5d := hx1.cell_ 5 (v := .int .i64 m.g.next) rfl
  have m6d := hx1.cell_ 6 (v := .int .i64 m.g.round) rfl
  have m7d := hx1.cell_ 7 (v := vo) rfl
  have m8d := hx1.cell_ 8 (v := .int .i64 m.sp) rfl
  have y0 := hx1.free 0
  have y1 := hx1.free 1
  have y2 := hx1.free 2
  have y3 := hx1.free 3
  have y7 := hx1.free 7
  have HX1 := Lib.hid hx1
  have HT1 := Lib.hid (hT1.mono (B' := w.heap.size + 2) (Nat.le_of_eq hs0.symm))
  clear hx1 hT1 hb1 m0q m1q m2q m3q m4q m5q m6q m7q m8q hm1 hm2
  have hx2 := (HX1.out.set_ 0 (.slice A1 m.t.bs.length c1)).set_ 1 (.slice A2 m.t.fs.length c2)
  have hb2 : Below w.heap.size w ((w1.setCell ⟨w.heap.size, 0, none⟩ (.slice A1 m.t.bs.length c1)).setCell ⟨w.heap.size, 1, none⟩ (.slice A2 m.t.fs.length c2)) := bS (bS HB1.out (by simp)) (by simp)
  have hT2 := (HT1.out.far (p := ⟨w.heap.size, 0, none⟩) (u := .slice A1 m.t.bs.length c1) (by show w.heap.size < w.heap.size + 2; omega)).far (p := ⟨w.heap.size, 1, none⟩) (u := .slice A2 m.t.fs.length c2) (by show w.heap.size < w.heap.size + 2; omega)
  have ho2 := (HO1.out.far (p := ⟨w.heap.size, 0, none⟩) (u := .slice A1 m.t.bs.length c1) (by simp)).far (p := ⟨w.heap.size, 1, none⟩) (u := .slice A2 m.t.fs.length c2) (by simp)
  have hs2 : w.heap.size + 2 ≤ ((w1.setCell ⟨w.heap.size, 0, none⟩ (.slice A1 m.t.bs.length c1)).setCell ⟨w.heap.size, 1, none⟩ (.slice A2 m.t.fs.length c2)).heap.size := by simpa using hs1
  generalize hW2 : (w1.setCell ⟨w.heap.size, 0, none⟩ (.slice A1 m.t.bs.length c1)).setCell ⟨w.heap.size, 1, none⟩ (.slice A2 m.t.fs.length c2) = w2 at hx2 hb2 hT2 ho2 hs2
  have hx2b : Own w2 w.heap.size 34 #[.slice A1 m.t.bs.length c1, .slice A2 m.t.fs.length c2, vl, .int .i64 m.c.hand, .int .i64 m.g.count, .int .i64 m.g.next, .int .i64 m.g.round, vo, .int .i64 m.sp] := by simpa using hx2
  have g2 := hx2b.cell_ 2 (v := vl) rfl
  have HX2 := Lib.hid hx2b
  have HB2 := Lib.hid hb2
  have HT2 := Lib.hid hT2
  have HO2 := Lib.hid ho2
  clear hx2 hx2b hb2 hT2 ho2 HX1 HT1 HO1
  go_wp2_with fail
  refine (cloneLine_any vl m.c.ls _ (HM.out.l.now HB2.out) h3).mono ?_
  rintro e w3 ⟨_, rfl, hL3, hb3⟩
  obtain ⟨A3, c3, rfl, hc3, hd3, hm3⟩ := hL3
  have HB3 := Lib.hid (bT HB2.out hb3)
  have HX3 := Lib.hid (HX2.out.below hb3)
  have HO3 := Lib.hid (HO2.out.below hb3)
  have HT3 := Lib.hid (HT2.out.now hb3)
  have hs3 : w.heap.size + 2 ≤ w3.heap.size := Nat.le_trans hs2 hb3.size
  have HL3 : Hid (SlM lnE 106 (w.heap.size + 2) w3 (.slice A3 m.c.ls.length m.c.ls.length) m.c.ls) := slm_of rfl (Nat.le_refl _) (by unfold maxLen; omega) (hm3.mono hs2)
  clear hb3 hm3 m0d m1d m2d m3d m4d m5d m6d m7d m8d y0 y1 y2 y3 y7
  have z7 := HX3.out.cell_ 7 (v := vo) rfl
  have z2 := HX3.out.cell_ 2 (v := vl) rfl
  have f2 := HX3.out.free 2
  go_wp2_with fail
  refine (clipLine_any A3 m.c.ls.length c3 _ hc3).mono ?_
  rintro e _ ⟨rfl, rfl⟩
  have hx4 := HX3.out.set_ 2 (.slice A3 m.c.ls.length m.c.ls.length)
  have hb4 : Below w.heap.size w (w3.setCell ⟨w.heap.size, 2, none⟩ (.slice A3 m.c.ls.length m.c.ls.length)) := bS HB3.out (by simp)
  have hT4 := HT3.out.far (p := ⟨w.heap.size, 2, none⟩) (u := .slice A3 m.c.ls.length m.c.ls.length) (by show w.heap.size < w.heap.size + 2; omega)
  have hL4 := HL3.out.far (p := ⟨w.heap.size, 2, none⟩) (u := .slice A3 m.c.ls.length m.c.ls.length) (by show w.heap.size < w.heap.size + 2; omega)
  have ho4 := HO3.out.far (p := ⟨w.heap.size, 2, none⟩) (u := .slice A3 m.c.ls.length m.c.ls.length) (by simp)
  have hs4 : w.heap.size + 2 ≤ (w3.setCell ⟨w.heap.size, 2, none⟩ (.slice A3 m.c.ls.length m.c.ls.length)).heap.size := by simpa using hs3
  generalize hW4 : w3.setCell ⟨w.heap.size, 2, none⟩ (.slice A3 m.c.ls.length m.c.ls.length) = w4 at hx4 hb4 hT4 hL4 ho4 hs4
  have hx4b : Own w4 w.heap.size 34 #[.slice A1 m.t.bs.length c1, .slice A2 m.t.fs.length c2, .slice A3 m.c.ls.length m.c.ls.length, .int .i64 m.c.hand, .int .i64 m.g.count, .int .i64 m.g.next, .int .i64 m.g.round, vo, .int .i64 m.sp] := by simpa using hx4
  have HX4 := Lib.hid hx4b
  have HB4 := Lib.hid hb4
  have HT4 := Lib.hid hT4
  have HL4 := Lib.hid hL4
  have HO4 := Lib.hid ho4
  clear hx4 hx4b hb4 hT4 hL4 ho4 HX3 HT3 HO3 HL3
  have v7 := HX4.out.cell_ 7 (v := vo) rfl
  go_wp2_with fail
  refine (cloneOwn_any vo m.g.os _ (HM.out.o.now HB4.out) h4).mono ?_
  rintro e w5 ⟨_, rfl, hO5, hb5⟩
  obtain ⟨A4, c4, rfl, hc4, hd4, hm4⟩ := hO5
  have HB5 := Lib.hid (bT HB4.out hb5)
  have hx5 := HX4.out.below hb5
  have ho5 := HO4.out.below hb5
  have HM5 : Hid (MaM (w.heap.size + 2) w5 (.slice A1 m.t.bs.length c1) (.slice A2 m.t.fs.length c2) (.slice A3 m.c.ls.length m.c.ls.length) (.slice A4 m.g.os.length m.g.os.length) m) := ⟨HT4.out.now hb5, HL4.out.now hb5, slm_of rfl (Nat.le_refl _) (by unfold maxLen; omega) (hm4.mono hs4)⟩
  clear hb5 hm4 z7 z2 f2 v7
  have u7 := hx5.cell_ 7 (v := vo) rfl
  have u0 := hx5.cell_ 0 (v := .slice A1 m.t.bs.length c1) rfl
  have u1 := hx5.cell_ 1 (v := .slice A2 m.t.fs.length c2) rfl
  have u2 := hx5.cell_ 2 (v := .slice A3 m.c.ls.length m.c.ls.length) rfl
  have u3 := hx5.cell_ 3 (v := .int .i64 m.c.hand) rfl
  have u4 := hx5.cell_ 4 (v := .int .i64 m.g.count) rfl
  have u5 := hx5.cell_ 5 (v := .int .i64 m.g.next) rfl
  have u6 := hx5.cell_ 6 (v := .int .i64 m.g.round) rfl
  have u8 := hx5.cell_ 8 (v := .int .i64 m.sp) rfl
  have f7 := hx5.free 7
  have r0x := ho5.cell_ 0 (v := .slice none 0 0) rfl
  have r1x := ho5.cell_ 1 (v := .slice none 0 0) rfl
  have r2x := ho5.cell_ 2 (v := .slice none 0 0) rfl
  have r3x := ho5.cell_ 3 (v := .int .i64 0) rfl
  have r4x := ho5.cell_ 4 (v := .int .i64 0) rfl
  have r5x := ho5.cell_ 5 (v := .int .i64 0) rfl
  have r6x := ho5.cell_ 6 (v := .int .i64 0) rfl
  have r7x := ho5.cell_ 7 (v := .slice none 0 0) rfl
  have r8x := ho5.cell_ 8 (v := .int .i64 0) rfl
  have z0x := ho5.free 0
  have z1x := ho5.free 1
  have z2x := ho5.free 2
  have z3x := ho5.free 3
  have z4x := ho5.free 4
  have z5x := ho5.free 5
  have z6x := ho5.free 6
  have z7x := ho5.free 7
  have z8x := ho5.free 8
  have HO5 := Lib.hid ho5
  clear hx5 ho5
  go_wp2_with fail
  refine (clipOwn_any A4 m.g.os.length c4 _ hc4).mono ?_
  rintro e _ ⟨rfl, rfl⟩
  go_wp2
  have o3 := (((((((((HO5.out.far (p := ⟨w.heap.size, 7, none⟩) (u := .slice A4 m.g.os.length m.g.os.length) (by simp)).set_ 0 (.slice A1 m.t.bs.length c1)).set_ 1 (.slice A2 m.t.fs.length c2)).set_ 2 (.slice A3 m.c.ls.length m.c.ls.length)).set_ 3 (.int .i64 m.c.hand)).set_ 4 (.int .i64 m.g.count)).set_ 5 (.int .i64 m.g.next)).set_ 6 (.int .i64 m.g.round)).set_ 7 (.slice A4 m.g.os.length m.g.os.length)).set_ 8 (.int .i64 m.sp)
  have t0 := o3.cell_ 0 (v := .slice A1 m.t.bs.length c1) (by simp)
  have t1 := o3.cell_ 1 (v := .slice A2 m.t.fs.length c2) (by simp)
  have t2 := o3.cell_ 2 (v := .slice A3 m.c.ls.length m.c.ls.length) (by simp)
  have t3 := o3.cell_ 3 (v := .int .i64 m.c.hand) (by simp)
  have t4 := o3.cell_ 4 (v := .int .i64 m.g.count) (by simp)
  have t5 := o3.cell_ 5 (v := .int .i64 m.g.next) (by simp)
  have t6 := o3.cell_ 6 (v := .int .i64 m.g.round) (by simp)
  have t7 := o3.cell_ 7 (v := .slice A4 m.g.os.length m.g.os.length) (by simp)
  have t8 := o3.cell_ 8 (v := .int .i64 m.sp) (by simp)
  refine bodyPost_ret (v := .agg #[.slice A1 m.t.bs.length c1, .slice A2 m.t.fs.length c2, .slice A3 m.c.ls.length m.c.ls.length, .int .i64 m.c.hand, .int .i64 m.g.count, .int .i64 m.g.next, .int .i64 m.g.round, .slice A4 m.g.os.length m.g.os.length, .int .i64 m.sp]) (by simp [results, Tryz.results101, go_sem, t0, t1, t2, t3, t4, t5, t6, t7, t8]) rfl ⟨_, rfl, _, _, _, _, rfl, ?_, ?_⟩
  · refine MaM.mono (B := w.heap.size + 2) ?_ (by omega)
    repeat (refine MaM.far ?_ (by simp))
    exact HM5.out
  · repeat (refine bS ?_ (by simp))
    exact HB5.out
end Go.Proofs.YtnaagdmaggdbmaaGreatDoor
namespace Go.Proofs.YtnaagdmaggdbmaaGreatDoor
open Go.RowKit
set_option maxRecDepth 1000000
theorem putOK_false {m : Ma} {s p fr r : Int} (h : putOK m s p fr r = false) : putV m s p fr r = maz := by unfold putV; rw [h]; rfl
theorem mav_len {m : Ma} (h : mav m = true) : m.t.bs.length ≤ 1048576 ∧ m.t.fs.length ≤ 1048576 ∧ m.c.ls.length ≤ 1048576 ∧ m.g.os.length ≤ 1048576 := by
  obtain ⟨h1, h2, h3, _⟩ := mav_parts h
  have a := (tv_parts h1).1
  have b := cav_parts h2
  have c := tgv_parts h3
  have d := tok_len c.2 c.1.2.2.1
  omega
set_option maxHeartbeats 2000000 in
theorem PutPage_any (vb vf vl vo : Value) (m : Ma) (s p fr r : Int) (w : World) (hM : MaR w vb vf vl vo m) (hfree : Free w) :
    Calls Tryz.prog 52 #[.agg #[vb, vf, vl, .int .i64 m.c.hand, .int .i64 m.g.count, .int .i64 m.g.next, .int .i64 m.g.round, vo, .int .i64 m.sp], .agg #[.int .i64 s, .int .i64 p], .int .i64 fr, .int .i64 r] w (Post2 fun v w' => ∃ v1 v2 v3 v4, v = .tuple #[.agg #[v1, v2, v3, .int .i64 (putV m s p fr r).c.hand, .int .i64 (putV m s p fr r).g.count, .int .i64 (putV m s p fr r).g.next, .int .i64 (putV m s p fr r).g.round, v4, .int .i64 (putV m s p fr r).sp], .bool (putOK m s p fr r)] ∧ MaM w.heap.size w' v1 v2 v3 v4 (putV m s p fr r) ∧ Below w.heap.size w w') := by
  have hbx := ((Own.new_ w 34 #[vb, vf, vl, .int .i64 m.c.hand, .int .i64 m.g.count, .int .i64 m.g.next, .int .i64 m.g.round, vo, .int .i64 m.sp]).alloc (o := .cells #[.int .i64 s, .int .i64 p] 36)).alloc (o := .cells #[.slice none 0 0, .slice none 0 0, .slice none 0 0, .int .i64 0, .int .i64 0, .int .i64 0, .int .i64 0, .slice none 0 0, .int .i64 0] 34)
  have hbk := (ownAt (W := w.alloc (.cells #[vb, vf, vl, .int .i64 m.c.hand, .int .i64 m.g.count, .int .i64 m.g.next, .int .i64 m.g.round, vo, .int .i64 m.sp] 34)) (g := w.heap.size + 1) (t := 36) (cs := #[.int .i64 s, .int .i64 p]) (by simp)).alloc (o := .cells #[.slice none 0 0, .slice none 0 0, .slice none 0 0, .int .i64 0, .int .i64 0, .int .i64 0, .int .i64 0, .slice none 0 0, .int .i64 0] 34)
  have hbo := ownAt (W := (w.alloc (.cells #[vb, vf, vl, .int .i64 m.c.hand, .int .i64 m.g.count, .int .i64 m.g.next, .int .i64 m.g.round, vo, .int .i64 m.sp] 34)).alloc (.cells #[.int .i64 s, .int .i64 p] 36)) (g := w.heap.size + 1 + 1) (t := 34) (cs := #[.slice none 0 0, .slice none 0 0, .slice none 0 0, .int .i64 0, .int .i64 0, .int .i64 0, .int .i64 0, .slice none 0 0, .int .i64 0]) (by simp)
  have hb0 : Below w.heap.size w (((w.alloc (.cells #[vb, vf, vl, .int .i64 m.c.hand, .int .i64 m.g.count, .int .i64 m.g.next, .int .i64 m.g.round, vo, .int .i64 m.sp] 34)).alloc (.cells #[.int .i64 s, .int .i64 p] 36)).alloc (.cells #[.slice none 0 0, .slice none 0 0, .slice none 0 0, .int .i64 0, .int .i64 0, .int .i64 0, .int .i64 0, .slice none 0 0, .int .i64 0] 34)) := bA (bA (bA bR))
  have hs0 : (((w.alloc (.cells #[vb, vf, vl, .int .i64 m.c.hand, .int .i64 m.g.count, .int .i64 m.g.next, .int .i64 m.g.round, vo, .int .i64 m.sp] 34)).alloc (.cells #[.int .i64 s, .int .i64 p] 36)).alloc (.cells #[.slice none 0 0, .slice none 0 0, .slice none 0 0, .int .i64 0, .int .i64 0, .int .i64 0, .int .i64 0, .slice none 0 0, .int .i64 0] 34)).heap.size = w.heap.size + 3 := by simp
  generalize hW : ((w.alloc (.cells #[vb, vf, vl, .int .i64 m.c.hand, .int .i64 m.g.count, .int .i64 m.g.next, .int .i64 m.g.round, vo, .int .i64 m.sp] 34)).alloc (.cells #[.int .i64 s, .int .i64 p] 36)).alloc (.cells #[.slice none 0 0, .slice none 0 0, .slice none 0 0, .int .i64 0, .int .i64 0, .int .i64 0, .int .i64 0, .slice none 0 0, .int .i64 0] 34) = W0 at hbx hbk hbo hb0 hs0
  have HX0 := Lib.hid hbx
  have HK0 := Lib.hid hbk
  have HR0 := Lib.hid hbo
  have HB0 := Lib.hid hb0
  have HS0 : Hid (w.heap.size + 3 ≤ W0.heap.size) := Nat.le_of_eq hs0.symm
  clear hbx hbk hbo hb0
  have HM := Lib.hid hM
  have HF := Lib.hid hfree
  clear hM hfree
  have HMV := Lib.hid (fun W (h : MaR W vb vf vl vo m) (hf : Free W) => MachineValid_any vb vf vl vo m W h hf)
  have HKF := Lib.hid (KeyFor_any s p)
  have x0 := xcell (HX0.out.cell_ 0 (v := vb) rfl) HX0.out.lt
  have x1 := xcell (HX0.out.cell_ 1 (v := vf) rfl) HX0.out.lt
  have x2 := xcell (HX0.out.cell_ 2 (v := vl) rfl) HX0.out.lt
  have x3 := xcell (HX0.out.cell_ 3 (v := .int .i64 m.c.hand) rfl) HX0.out.lt
  have x4 := xcell (HX0.out.cell_ 4 (v := .int .i64 m.g.count) rfl) HX0.out.lt
  have x5 := xcell (HX0.out.cell_ 5 (v := .int .i64 m.g.next) rfl) HX0.out.lt
  have x6 := xcell (HX0.out.cell_ 6 (v := .int .i64 m.g.round) rfl) HX0.out.lt
  have x7 := xcell (HX0.out.cell_ 7 (v := vo) rfl) HX0.out.lt
  have x8 := xcell (HX0.out.cell_ 8 (v := .int .i64 m.sp) rfl) HX0.out.lt
  have y0 := xcell (HK0.out.cell_ 0 (v := .int .i64 s) rfl) HK0.out.lt
  have y1 := xcell (HK0.out.cell_ 1 (v := .int .i64 p) rfl) HK0.out.lt
  have hne := fun W => neq_of (t := 36) (fun e w => eqIn_key (e + 1) s p (keyI s p) p w) W
  cases h1 : mav m with
  | false =>
    rw [h1] at HMV
    have HA : Hid (putOK m s p fr r = false) := by show _ = _; unfold putOK; rw [h1]; rfl
    have HV := Lib.hid (putOK_false HA.out)
    go_enter Tryz.func52, Tryz.ntmps52
    go_wp2
    refine wp_region_ext (by kernel_rfl) (by kernel_rfl) ?_
    repeat (go_big_quiet_step ((first | (go_at_call 21; exact ext_call (HMV.out _ (HM.out.now (bT HB0.out (Ext.ok _))) (HF.out.now (bT HB0.out (Ext.ok _))))) | (go_at_call 29; exact ext_call (HKF.out _)))))
    refine wpQuiet_nil ?_
    intro _ hw'
    obtain ⟨⟨wq, hq⟩, hw''⟩ := hw'
    subst hw''
    try dsimp only
    have hb1 := hq
    clear x0 x1 x2 x3 x4 x5 x6 x7 x8 y0 y1
    have HX1 := Lib.hid (HX0.out.below hb1)
    have HK1 := Lib.hid (HK0.out.below hb1)
    have HR1 := Lib.hid (HR0.out.below hb1)
    have HB1 := Lib.hid (bT HB0.out hb1)
    have HS1 := Lib.hid (Nat.le_trans HS0.out hb1.size)
    clear hb1
    have r0x := HR1.out.cell_ 0 (v := .slice none 0 0) rfl
    have r1x := HR1.out.cell_ 1 (v := .slice none 0 0) rfl
    have r2x := HR1.out.cell_ 2 (v := .slice none 0 0) rfl
    have r3x := HR1.out.cell_ 3 (v := .int .i64 0) rfl
    have r4x := HR1.out.cell_ 4 (v := .int .i64 0) rfl
    have r5x := HR1.out.cell_ 5 (v := .int .i64 0) rfl
    have r6x := HR1.out.cell_ 6 (v := .int .i64 0) rfl
    have r7x := HR1.out.cell_ 7 (v := .slice none 0 0) rfl
    have r8x := HR1.out.cell_ 8 (v := .int .i64 0) rfl
    have z0x := HR1.out.free 0
    have z1x := HR1.out.free 1
    have z2x := HR1.out.free 2
    have z3x := HR1.out.free 3
    have z4x := HR1.out.free 4
    have z5x := HR1.out.free 5
    have z6x := HR1.out.free 6
    have z7x := HR1.out.free 7
    have z8x := HR1.out.free 8
    go_wp2
    have o3 := ((((((((HR1.out.set_ 0 (.slice none 0 0)).set_ 1 (.slice none 0 0)).set_ 2 (.slice none 0 0)).set_ 3 (.int .i64 0)).set_ 4 (.int .i64 0)).set_ 5 (.int .i64 0)).set_ 6 (.int .i64 0)).set_ 7 (.slice none 0 0)).set_ 8 (.int .i64 0)
    have t0 := o3.cell_ 0 (v := .slice none 0 0) (by simp)
    have t1 := o3.cell_ 1 (v := .slice none 0 0) (by simp)
    have t2 := o3.cell_ 2 (v := .slice none 0 0) (by simp)
    have t3 := o3.cell_ 3 (v := .int .i64 0) (by simp)
    have t4 := o3.cell_ 4 (v := .int .i64 0) (by simp)
    have t5 := o3.cell_ 5 (v := .int .i64 0) (by simp)
    have t6 := o3.cell_ 6 (v := .int .i64 0) (by simp)
    have t7 := o3.cell_ 7 (v := .slice none 0 0) (by simp)
    have t8 := o3.cell_ 8 (v := .int .i64 0) (by simp)
    refine bodyPost_ret (v := .tuple #[.agg #[.slice none 0 0, .slice none 0 0, .slice none 0 0, .int .i64 0, .int .i64 0, .int .i64 0, .int .i64 0, .slice none 0 0, .int .i64 0], .bool false]) (by simp [results, Tryz.results52, go_sem, t0, t1, t2, t3, t4, t5, t6, t7, t8]) rfl ⟨_, rfl, _, _, _, _, by rw [HA.out, HV.out]; rfl, by rw [HV.out]; exact mam_z, ?_⟩
    repeat (refine bS ?_ (by simp <;> omega))
    exact HB1.out
  | true =>
    rw [h1] at HMV
    by_cases h2 : keyI s p = s
    case neg =>
      have HA : Hid (putOK m s p fr r = false) := by show _ = _; unfold putOK; rw [decide_eq_false h2]; simp
      have HV := Lib.hid (putOK_false HA.out)
      have hkq : keq s p (keyI s p) p = false := by unfold keq; simp; exact fun h => h2 h.symm
      rw [hkq] at hne
      generalize keyI s p = ks at *
      go_enter Tryz.func52, Tryz.ntmps52
      go_wp2
      refine wp_region_ext (by kernel_rfl) (by kernel_rfl) ?_
      repeat (go_big_quiet_step ((first | (go_at_call 21; exact ext_call (HMV.out _ (HM.out.now (bT HB0.out (Ext.ok _))) (HF.out.now (bT HB0.out (Ext.ok _))))) | (go_at_call 29; exact ext_call (HKF.out _)))))
      refine wpQuiet_nil ?_
      intro _ hw'
      obtain ⟨⟨wq, hq⟩, hw''⟩ := hw'
      subst hw''
      try dsimp only
      have hb1 := hq
      clear x0 x1 x2 x3 x4 x5 x6 x7 x8 y0 y1
      have HX1 := Lib.hid (HX0.out.below hb1)
      have HK1 := Lib.hid (HK0.out.below hb1)
      have HR1 := Lib.hid (HR0.out.below hb1)
      have HB1 := Lib.hid (bT HB0.out hb1)
      have HS1 := Lib.hid (Nat.le_trans HS0.out hb1.size)
      clear hb1
      have r0x := HR1.out.cell_ 0 (v := .slice none 0 0) rfl
      have r1x := HR1.out.cell_ 1 (v := .slice none 0 0) rfl
      have r2x := HR1.out.cell_ 2 (v := .slice none 0 0) rfl
      have r3x := HR1.out.cell_ 3 (v := .int .i64 0) rfl
      have r4x := HR1.out.cell_ 4 (v := .int .i64 0) rfl
      have r5x := HR1.out.cell_ 5 (v := .int .i64 0) rfl
      have r6x := HR1.out.cell_ 6 (v := .int .i64 0) rfl
      have r7x := HR1.out.cell_ 7 (v := .slice none 0 0) rfl
      have r8x := HR1.out.cell_ 8 (v := .int .i64 0) rfl
      have z0x := HR1.out.free 0
      have z1x := HR1.out.free 1
      have z2x := HR1.out.free 2
      have z3x := HR1.out.free 3
      have z4x := HR1.out.free 4
      have z5x := HR1.out.free 5
      have z6x := HR1.out.free 6
      have z7x := HR1.out.free 7
      have z8x := HR1.out.free 8
      go_wp2
      have o3 := ((((((((HR1.out.set_ 0 (.slice none 0 0)).set_ 1 (.slice none 0 0)).set_ 2 (.slice none 0 0)).set_ 3 (.int .i64 0)).set_ 4 (.int .i64 0)).set_ 5 (.int .i64 0)).set_ 6 (.int .i64 0)).set_ 7 (.slice none 0 0)).set_ 8 (.int .i64 0)
      have t0 := o3.cell_ 0 (v := .slice none 0 0) (by simp)
      have t1 := o3.cell_ 1 (v := .slice none 0 0) (by simp)
      have t2 := o3.cell_ 2 (v := .slice none 0 0) (by simp)
      have t3 := o3.cell_ 3 (v := .int .i64 0) (by simp)
      have t4 := o3.cell_ 4 (v := .int .i64 0) (by simp)
      have t5 := o3.cell_ 5 (v := .int .i64 0) (by simp)
      have t6 := o3.cell_ 6 (v := .int .i64 0) (by simp)
      have t7 := o3.cell_ 7 (v := .slice none 0 0) (by simp)
      have t8 := o3.cell_ 8 (v := .int .i64 0) (by simp)
      refine bodyPost_ret (v := .tuple #[.agg #[.slice none 0 0, .slice none 0 0, .slice none 0 0, .int .i64 0, .int .i64 0, .int .i64 0, .int .i64 0, .slice none 0 0, .int .i64 0], .bool false]) (by simp [results, Tryz.results52, go_sem, t0, t1, t2, t3, t4, t5, t6, t7, t8]) rfl ⟨_, rfl, _, _, _, _, by rw [HA.out, HV.out]; rfl, by rw [HV.out]; exact mam_z, ?_⟩
      repeat (refine bS ?_ (by simp <;> omega))
      exact HB1.out
    case pos =>
      have hkq : keq s p (keyI s p) p = true := by unfold keq; rw [h2]; simp
      rw [hkq] at hne
      rw [h2] at hne HKF
      obtain ⟨a1, a2, a3, a4⟩ := mav_len h1
      go_enter Tryz.func52, Tryz.ntmps52
      go_wp2
      refine wp_region_ext (by kernel_rfl) (by kernel_rfl) ?_
      repeat (go_big_quiet_step ((first | (go_at_call 21; exact ext_call (HMV.out _ (HM.out.now (bT HB0.out (Ext.ok _))) (HF.out.now (bT HB0.out (Ext.ok _))))) | (go_at_call 29; exact ext_call (HKF.out _)))))
      refine wpQuiet_nil ?_
      intro _ hw'
      obtain ⟨⟨wq, hq⟩, hw''⟩ := hw'
      subst hw''
      try dsimp only
      have hb1 := hq
      clear x0 x1 x2 x3 x4 x5 x6 x7 x8 y0 y1
      have HX1 := Lib.hid (HX0.out.below hb1)
      have HK1 := Lib.hid (HK0.out.below hb1)
      have HR1 := Lib.hid (HR0.out.below hb1)
      have HB1 := Lib.hid (bT HB0.out hb1)
      have HS1 := Lib.hid (Nat.le_trans HS0.out hb1.size)
      clear hb1
      have m01 := HX1.out.cell_ 0 (v := vb) rfl
      have m11 := HX1.out.cell_ 1 (v := vf) rfl
      have m21 := HX1.out.cell_ 2 (v := vl) rfl
      have m31 := HX1.out.cell_ 3 (v := .int .i64 m.c.hand) rfl
      have m41 := HX1.out.cell_ 4 (v := .int .i64 m.g.count) rfl
      have m51 := HX1.out.cell_ 5 (v := .int .i64 m.g.next) rfl
      have m61 := HX1.out.cell_ 6 (v := .int .i64 m.g.round) rfl
      have m71 := HX1.out.cell_ 7 (v := vo) rfl
      have m81 := HX1.out.cell_ 8 (v := .int .i64 m.sp) rfl
      have k01 := HK1.out.cell_ 0 (v := .int .i64 s) rfl
      have k11 := HK1.out.cell_ 1 (v := .int .i64 p) rfl
      go_wp2_with fail
      refine (MapPage_any vb vf m.t s p fr r _ (HM.out.t.now HB1.out) (HF.out.now HB1.out)).mono ?_
      rintro e w2 ⟨_, rfl, v1, v2, rfl, hT2, hb2⟩
      obtain ⟨A1, c1, rfl, _⟩ := hT2.b
      obtain ⟨A2, c2, rfl, _⟩ := hT2.f
      have hs1 := HS1.out
      have HX2 := Lib.hid (HX1.out.below hb2)
      have HK2 := Lib.hid (HK1.out.below hb2)
      have HR2 := Lib.hid (HR1.out.below hb2)
      have HB2 := Lib.hid (bT HB1.out hb2)
      have HS2 := Lib.hid (Nat.le_trans HS1.out hb2.size)
      clear hb2
      clear m01 m11 m21 m31 m41 m51 m61 m71 m81
      clear k01 k11
      have ho5 := Own.new_ w2 26 #[.slice A1 (mapV m.t s p fr r).bs.length c1, .slice A2 (mapV m.t s p fr r).fs.length c2]
      have hb5 : Below w2.heap.size w2 (w2.alloc (.cells #[.slice A1 (mapV m.t s p fr r).bs.length c1, .slice A2 (mapV m.t s p fr r).fs.length c2] 26)) := bA bR
      generalize hW5 : w2.alloc (.cells #[.slice A1 (mapV m.t s p fr r).bs.length c1, .slice A2 (mapV m.t s p fr r).fs.length c2] 26) = w5 at ho5 hb5
      have HT5 := Lib.hid ((hT2.now hb5).mono hs1)
      clear hT2
      have HX5 := Lib.hid (HX2.out.below hb5)
      have HK5 := Lib.hid (HK2.out.below hb5)
      have HR5 := Lib.hid (HR2.out.below hb5)
      have HB5 := Lib.hid (bT HB2.out hb5)
      have HS5 := Lib.hid (Nat.le_trans HS2.out hb5.size)
      clear hb5
      cases h3 : mapOK m.t s p fr r with
      | false =>
        have HA : Hid (putOK m s p fr r = false) := by show _ = _; unfold putOK; rw [h3]; simp
        have HV := Lib.hid (putOK_false HA.out)
        clear ho5
        have r0x := HR5.out.cell_ 0 (v := .slice none 0 0) rfl
        have r1x := HR5.out.cell_ 1 (v := .slice none 0 0) rfl
        have r2x := HR5.out.cell_ 2 (v := .slice none 0 0) rfl
        have r3x := HR5.out.cell_ 3 (v := .int .i64 0) rfl
        have r4x := HR5.out.cell_ 4 (v := .int .i64 0) rfl
        have r5x := HR5.out.cell_ 5 (v := .int .i64 0) rfl
        have r6x := HR5.out.cell_ 6 (v := .int .i64 0) rfl
        have r7x := HR5.out.cell_ 7 (v := .slice none 0 0) rfl
        have r8x := HR5.out.cell_ 8 (v := .int .i64 0) rfl
        have z0x := HR5.out.free 0
        have z1x := HR5.out.free 1
        have z2x := HR5.out.free 2
        have z3x := HR5.out.free 3
        have z4x := HR5.out.free 4
        have z5x := HR5.out.free 5
        have z6x := HR5.out.free 6
        have z7x := HR5.out.free 7
        have z8x := HR5.out.free 8
        go_wp2
        have o3 := ((((((((HR5.out.set_ 0 (.slice none 0 0)).set_ 1 (.slice none 0 0)).set_ 2 (.slice none 0 0)).set_ 3 (.int .i64 0)).set_ 4 (.int .i64 0)).set_ 5 (.int .i64 0)).set_ 6 (.int .i64 0)).set_ 7 (.slice none 0 0)).set_ 8 (.int .i64 0)
        have t0 := o3.cell_ 0 (v := .slice none 0 0) (by simp)
        have t1 := o3.cell_ 1 (v := .slice none 0 0) (by simp)
        have t2 := o3.cell_ 2 (v := .slice none 0 0) (by simp)
        have t3 := o3.cell_ 3 (v := .int .i64 0) (by simp)
        have t4 := o3.cell_ 4 (v := .int .i64 0) (by simp)
        have t5 := o3.cell_ 5 (v := .int .i64 0) (by simp)
        have t6 := o3.cell_ 6 (v := .int .i64 0) (by simp)
        have t7 := o3.cell_ 7 (v := .slice none 0 0) (by simp)
        have t8 := o3.cell_ 8 (v := .int .i64 0) (by simp)
        refine bodyPost_ret (v := .tuple #[.agg #[.slice none 0 0, .slice none 0 0, .slice none 0 0, .int .i64 0, .int .i64 0, .int .i64 0, .int .i64 0, .slice none 0 0, .int .i64 0], .bool false]) (by simp [results, Tryz.results52, go_sem, t0, t1, t2, t3, t4, t5, t6, t7, t8]) rfl ⟨_, rfl, _, _, _, _, by rw [HA.out, HV.out]; rfl, by rw [HV.out]; exact mam_z, ?_⟩
        repeat (refine bS ?_ (by simp <;> omega))
        exact HB5.out
      | true =>
        have HA : Hid (putOK m s p fr r = true) := by show _ = _; unfold putOK; rw [h1, h3, decide_eq_true h2]; rfl
        have HV : Hid (putV m s p fr r = { m with t := mapV m.t s p fr r }) := by show _ = _; unfold putV; rw [HA.out]; rfl
        have m05 := HX5.out.cell_ 0 (v := vb) rfl
        have m15 := HX5.out.cell_ 1 (v := vf) rfl
        have m25 := HX5.out.cell_ 2 (v := vl) rfl
        have m35 := HX5.out.cell_ 3 (v := .int .i64 m.c.hand) rfl
        have m45 := HX5.out.cell_ 4 (v := .int .i64 m.g.count) rfl
        have m55 := HX5.out.cell_ 5 (v := .int .i64 m.g.next) rfl
        have m65 := HX5.out.cell_ 6 (v := .int .i64 m.g.round) rfl
        have m75 := HX5.out.cell_ 7 (v := vo) rfl
        have m85 := HX5.out.cell_ 8 (v := .int .i64 m.sp) rfl
        go_wp2_with fail
        refine (mclone_any vb vf vl vo m _ (HM.out.now HB5.out) a1 a2 a3 a4).mono ?_
        rintro e w3 ⟨_, rfl, q1, q2, q3, q4, rfl, hM3, hb3⟩
        have hs2 := HS5.out
        have HT3 := Lib.hid (HT5.out.now hb3)
        have HM3 := Lib.hid (hM3.mono hs2)
        have ho3 := ho5.below hb3
        have u0 := ho3.cell_ 0 (v := .slice A1 (mapV m.t s p fr r).bs.length c1) rfl
        have u1 := ho3.cell_ 1 (v := .slice A2 (mapV m.t s p fr r).fs.length c2) rfl
        have hl5 := ho3.lt
        obtain ⟨B1, d1, rfl, _⟩ := HM3.out.t.b
        obtain ⟨B2, d2, rfl, _⟩ := HM3.out.t.f
        obtain ⟨B3, d3, rfl, _⟩ := HM3.out.l
        obtain ⟨B4, d4, rfl, _⟩ := HM3.out.o
        clear hM3 ho3 ho5
        have HX3 := Lib.hid (HX5.out.below hb3)
        have HK3 := Lib.hid (HK5.out.below hb3)
        have HR3 := Lib.hid (HR5.out.below hb3)
        have HB3 := Lib.hid (bT HB5.out hb3)
        have HS3 := Lib.hid (Nat.le_trans HS5.out hb3.size)
        clear hb3
        clear m05 m15 m25 m35 m45 m55 m65 m75 m85
        have r0x := HR3.out.cell_ 0 (v := .slice none 0 0) rfl
        have r1x := HR3.out.cell_ 1 (v := .slice none 0 0) rfl
        have r2x := HR3.out.cell_ 2 (v := .slice none 0 0) rfl
        have r3x := HR3.out.cell_ 3 (v := .int .i64 0) rfl
        have r4x := HR3.out.cell_ 4 (v := .int .i64 0) rfl
        have r5x := HR3.out.cell_ 5 (v := .int .i64 0) rfl
        have r6x := HR3.out.cell_ 6 (v := .int .i64 0) rfl
        have r7x := HR3.out.cell_ 7 (v := .slice none 0 0) rfl
        have r8x := HR3.out.cell_ 8 (v := .int .i64 0) rfl
        have z0x := HR3.out.free 0
        have z1x := HR3.out.free 1
        have z2x := HR3.out.free 2
        have z3x := HR3.out.free 3
        have z4x := HR3.out.free 4
        have z5x := HR3.out.free 5
        have z6x := HR3.out.free 6
        have z7x := HR3.out.free 7
        have z8x := HR3.out.free 8
        have hl3 := HR3.out.lt
        go_wp2
        have o3 := (((((((((HR3.out.set_ 0 (.slice A1 (mapV m.t s p fr r).bs.length c1)).set_ 1 (.slice A2 (mapV m.t s p fr r).fs.length c2)).set_ 2 (.slice B3 m.c.ls.length d3)).set_ 3 (.int .i64 m.c.hand)).set_ 4 (.int .i64 m.g.count)).set_ 5 (.int .i64 m.g.next)).set_ 6 (.int .i64 m.g.round)).set_ 7 (.slice B4 m.g.os.length d4)).set_ 8 (.int .i64 m.sp))
        have o4 := o3.alloc (o := .cells #[.slice A1 (mapV m.t s p fr r).bs.length c1, .slice A2 (mapV m.t s p fr r).fs.length c2, .slice B3 m.c.ls.length d3, .int .i64 m.c.hand, .int .i64 m.g.count, .int .i64 m.g.next, .int .i64 m.g.round, .slice B4 m.g.os.length d4, .int .i64 m.sp] 34)
        have v0 := o4.cell_ 0 (v := .slice A1 (mapV m.t s p fr r).bs.length c1) (by simp)
        have v1 := o4.cell_ 1 (v := .slice A2 (mapV m.t s p fr r).fs.length c2) (by simp)
        have v2 := o4.cell_ 2 (v := .slice B3 m.c.ls.length d3) (by simp)
        have v3 := o4.cell_ 3 (v := .int .i64 m.c.hand) (by simp)
        have v4 := o4.cell_ 4 (v := .int .i64 m.g.count) (by simp)
        have v5 := o4.cell_ 5 (v := .int .i64 m.g.next) (by simp)
        have v6 := o4.cell_ 6 (v := .int .i64 m.g.round) (by simp)
        have v7 := o4.cell_ 7 (v := .slice B4 m.g.os.length d4) (by simp)
        have v8 := o4.cell_ 8 (v := .int .i64 m.sp) (by simp)
        refine bodyPost_ret (v := .tuple #[.agg #[.slice A1 (mapV m.t s p fr r).bs.length c1, .slice A2 (mapV m.t s p fr r).fs.length c2, .slice B3 m.c.ls.length d3, .int .i64 m.c.hand, .int .i64 m.g.count, .int .i64 m.g.next, .int .i64 m.g.round, .slice B4 m.g.os.length d4, .int .i64 m.sp], .bool true]) (by simp [results, Tryz.results52, go_sem, v0, v1, v2, v3, v4, v5, v6, v7, v8]) rfl ⟨_, rfl, _, _, _, _, by rw [HA.out, HV.out], ?_, ?_⟩
        · rw [HV.out]
          have hmm : MaM (w.heap.size + 3) w3 (.slice A1 (mapV m.t s p fr r).bs.length c1) (.slice A2 (mapV m.t s p fr r).fs.length c2) (.slice B3 m.c.ls.length d3) (.slice B4 m.g.os.length d4) { m with t := mapV m.t s p fr r } := ⟨HT3.out, HM3.out.l, HM3.out.o⟩
          refine MaM.mono (B := w.heap.size + 3) (MaM.now ?_ (bA bR)) (by omega)
          repeat (refine MaM.far ?_ (by show w.heap.size + 1 + 1 < w.heap.size + 3; omega))
          exact hmm
        · refine bA ?_
          repeat (refine bS ?_ (by simp <;> omega))
          exact HB3.out
end Go.Proofs.YtnaagdmaggdbmaaGreatDoor
namespace Go.Proofs.YtnaagdmaggdbmaaGreatDoor
open Go.RowKit
set_option maxRecDepth 1000000

theorem inR_no {n e : Int} (h : ¬ (0 ≤ n ∧ n < e)) : inR n e = false := bool_ff fun hh => h (inR_iff.1 hh)
theorem tagv_iff {n : Int} : tagv n = true ↔ -1 ≤ n ∧ n < 8 := by unfold tagv; rw [Bool.and_eq_true, decide_eq_true_eq, decide_eq_true_eq]
theorem tagv_no {n : Int} (h : ¬ (-1 ≤ n ∧ n < 8)) : tagv n = false := bool_ff fun hh => h (tagv_iff.1 hh)
set_option maxHeartbeats 1000000 in
theorem l4Line_any (x : Ln) (w : World) : Calls Tryz.prog 187 #[lnV x] w fun r w' => r = .returned (.bool (lnok x)) ∧ Below w.heap.size w w' := by
  obtain ⟨v, t, p, f, r, wi⟩ := x
  cases v with
  | false =>
    have he : ∀ W, (binOp .eql 106 (.agg #[.bool false, .int .i64 t, .int .i64 p, .int .i64 f, .int .i64 r, .bool wi]) (.agg #[.bool false, .int .i64 0, .int .i64 0, .int .i64 0, .int .i64 0, .bool false])).run Tryz.prog W = .ok (.bool (lnok ⟨false, t, p, f, r, wi⟩)) W := fun W => eql_ln ⟨false, t, p, f, r, wi⟩ lnz W
    simp only [lnV]
    generalize lnok ⟨false, t, p, f, r, wi⟩ = B at he ⊢
    go_enter Tryz.func187, Tryz.ntmps187
    go_wp2
    go_ret
    exact ⟨rfl, by repeat first | exact bR | refine bA ?_⟩
  | true =>
    have H : Hid (lnok ⟨true, t, p, f, r, wi⟩ = (tagv t && inR p 256 && inR f 16 && inR r 8)) := rfl
    simp only [lnV]
    by_cases g1 : -1 ≤ t
    case neg =>
      have h1 : tagv t = false := tagv_no (by omega)
      go_enter Tryz.func187, Tryz.ntmps187
      go_wp2_with (first | (go_at_call 141; refine (l1Page_any _ _).mono ?_; rintro e w' ⟨rfl, rfl⟩) | (go_at_call 98; refine (sRightsValid_any _ _).mono ?_; rintro e w' ⟨rfl, rfl⟩))
      go_ret
      exact ⟨by rw [H.out]; simp [h1], by repeat first | exact bR | refine bA ?_⟩
    case pos =>
    by_cases g2 : t < 8
    case neg =>
      have h1 : tagv t = false := tagv_no (by omega)
      go_enter Tryz.func187, Tryz.ntmps187
      go_wp2_with (first | (go_at_call 141; refine (l1Page_any _ _).mono ?_; rintro e w' ⟨rfl, rfl⟩) | (go_at_call 98; refine (sRightsValid_any _ _).mono ?_; rintro e w' ⟨rfl, rfl⟩))
      go_ret
      exact ⟨by rw [H.out]; simp [h1], by repeat first | exact bR | refine bA ?_⟩
    case pos =>
    have h1 : tagv t = true := tagv_iff.2 ⟨g1, g2⟩
    cases h2 : inR p 256 with
    | false =>
      go_enter Tryz.func187, Tryz.ntmps187
      go_wp2_with (first | (go_at_call 141; refine (l1Page_any _ _).mono ?_; rintro e w' ⟨rfl, rfl⟩) | (go_at_call 98; refine (sRightsValid_any _ _).mono ?_; rintro e w' ⟨rfl, rfl⟩))
      go_ret
      exact ⟨by rw [H.out]; simp [h1, h2], by repeat first | exact bR | refine bA ?_⟩
    | true =>
    by_cases g3 : 0 ≤ f
    case neg =>
      have h3 : inR f 16 = false := inR_no (by omega)
      go_enter Tryz.func187, Tryz.ntmps187
      go_wp2_with (first | (go_at_call 141; refine (l1Page_any _ _).mono ?_; rintro e w' ⟨rfl, rfl⟩) | (go_at_call 98; refine (sRightsValid_any _ _).mono ?_; rintro e w' ⟨rfl, rfl⟩))
      go_ret
      exact ⟨by rw [H.out]; simp [h1, h2, h3], by repeat first | exact bR | refine bA ?_⟩
    case pos =>
    by_cases g4 : f < 16
    case neg =>
      have h3 : inR f 16 = false := inR_no (by omega)
      go_enter Tryz.func187, Tryz.ntmps187
      go_wp2_with (first | (go_at_call 141; refine (l1Page_any _ _).mono ?_; rintro e w' ⟨rfl, rfl⟩) | (go_at_call 98; refine (sRightsValid_any _ _).mono ?_; rintro e w' ⟨rfl, rfl⟩))
      go_ret
      exact ⟨by rw [H.out]; simp [h1, h2, h3], by repeat first | exact bR | refine bA ?_⟩
    case pos =>
    have h3 : inR f 16 = true := inR_iff.2 ⟨g3, g4⟩
    go_enter Tryz.func187, Tryz.ntmps187
    go_wp2_with (first | (go_at_call 141; refine (l1Page_any _ _).mono ?_; rintro e w' ⟨rfl, rfl⟩) | (go_at_call 98; refine (sRightsValid_any _ _).mono ?_; rintro e w' ⟨rfl, rfl⟩))
    go_ret
    exact ⟨by rw [H.out]; simp [h1, h2, h3], by repeat first | exact bR | refine bA ?_⟩
/-- how many of the first k lines are not wired -/
def nfree (ls : List Ln) (k : Nat) : Nat := (ls.take k).countP (fun x => !x.w)
theorem nfree_step {ls : List Ln} {k : Nat} {x : Ln} (e : ls[k]? = some x) : nfree ls (k + 1) = nfree ls k + if x.w = true then 0 else 1 := by
  obtain ⟨hlt, hx⟩ := List.getElem?_eq_some_iff.1 e
  unfold nfree
  rw [List.take_succ_eq_append_getElem hlt, hx, List.countP_append]
  cases hw : x.w <;> simp [hw]
theorem nfree_le (ls : List Ln) (k : Nat) : nfree ls k ≤ k := by
  unfold nfree
  refine Nat.le_trans List.countP_le_length ?_
  rw [List.length_take]
  omega
theorem nfree_all (ls : List Ln) : decide (0 < nfree ls ls.length) = ls.any (fun x => !x.w) := by
  unfold nfree
  rw [List.take_length]
  cases h : ls.any (fun x => !x.w) with
  | true => exact decide_eq_true (List.countP_pos_iff.2 (by simpa using h))
  | false =>
    refine decide_eq_false fun h2 => ?_
    rw [List.countP_pos_iff] at h2
    obtain ⟨a, ha, hb⟩ := h2
    rw [List.any_eq_false] at h
    exact h a ha hb
set_option maxHeartbeats 4000000 in
theorem sCacheValid_any (vl : Value) (c : Ca) (w : World) (hT : SlR lnE w vl c.ls) :
    Calls Tryz.prog 113 #[.agg #[vl, .int .i64 c.hand]] w fun r w' => r = .returned (.bool (cav c)) ∧ Below w.heap.size w w' := by
  obtain ⟨A, cc, rfl, hbc, hbm, hL⟩ := hT
  have hfm2 : c.ls.length ≤ 9223372036854775807 := by unfold maxLen at hbm; omega
  have HL := Lib.hid hL
  have hbx := Own.new_ w 29 #[.slice A c.ls.length cc, .int .i64 c.hand]
  have hbz : Below w.heap.size w (w.alloc (.cells #[.slice A c.ls.length cc, .int .i64 c.hand] 29)) := bA bR
  generalize hW : w.alloc (.cells #[.slice A c.ls.length cc, .int .i64 c.hand] 29) = W0 at hbx hbz
  have q0 := hbx.cell_ 0 (v := .slice A c.ls.length cc) rfl
  have q1 := hbx.cell_ 1 (v := .int .i64 c.hand) rfl
  have HBX := Lib.hid hbx
  clear hL hbx hbm
  by_cases h1 : c.ls.length < 1
  · have g1 : (c.ls.length : Int) < 1 := by omega
    go_enter Tryz.func113, Tryz.ntmps113
    have HE : Hid (cav c = false) := cav_no fun h => by have := (cav_parts h).1; omega
    go_wp2
    go_ret
    exact ⟨by rw [HE.out]; rfl, hbz⟩
  by_cases h2 : 8 < c.ls.length
  · have g2 : (8 : Int) < (c.ls.length : Int) := by omega
    go_enter Tryz.func113, Tryz.ntmps113
    have HE : Hid (cav c = false) := cav_no fun h => by have := (cav_parts h).2.1; omega
    go_wp2
    go_ret
    exact ⟨by rw [HE.out]; rfl, hbz⟩
  have g1 : ¬ (c.ls.length : Int) < 1 := by omega
  have g2 : ¬ (8 : Int) < (c.ls.length : Int) := by omega
  by_cases h3 : c.hand < 0
  · go_enter Tryz.func113, Tryz.ntmps113
    have HE : Hid (cav c = false) := cav_no fun h => by have := inR_iff.1 (cav_parts h).2.2.1; omega
    go_wp2
    go_ret
    exact ⟨by rw [HE.out]; rfl, hbz⟩
  by_cases h4 : (c.ls.length : Int) ≤ c.hand
  · go_enter Tryz.func113, Tryz.ntmps113
    have HE : Hid (cav c = false) := cav_no fun h => by have := inR_iff.1 (cav_parts h).2.2.1; omega
    go_wp2
    go_ret
    exact ⟨by rw [HE.out]; rfl, hbz⟩
  have HH : Hid (inR c.hand c.ls.length = true) := inR_iff.2 (by omega)
  go_enter Tryz.func113, Tryz.ntmps113
  go_wp2
  clear q0 q1
  go_loopw [3, 4] (fun sv u wr => ∃ k : Nat, k ≤ c.ls.length ∧ u = .int .i64 k ∧ sv = .int .i64 (nfree c.ls k) ∧ Hid (lok c.ls k = true) ∧ Own wr w.heap.size 29 #[.slice A c.ls.length cc, .int .i64 c.hand] ∧ Below w.heap.size w wr) (fun _ u _ => c.ls.length - (intOf u).toNat)
  case atStart => exact ⟨0, by omega, rfl, rfl, rfl, HBX.out, hbz⟩
  case round =>
    clear hbz
    obtain ⟨k, hk, rfl, rfl, hlok, hbox, hbz⟩ := hrel
    have q0 := hbox.cell_ 0 (v := .slice A c.ls.length cc) rfl
    have q1 := hbox.cell_ 1 (v := .int .i64 c.hand) rfl
    have HBOX := Lib.hid hbox
    have hbl := hbox.lt
    clear hbox
    by_cases hlt : k < c.ls.length
    · obtain ⟨x, ex⟩ : ∃ x, c.ls[k]? = some x := ⟨_, List.getElem?_eq_getElem hlt⟩
      obtain ⟨b, o, rfl, hbb, d0, d1, d2, d3, d4, d5⟩ := (HL.out.below hbz).ln ex
      go_wp2_with fail
      refine (l4Line_any x _).mono ?_
      rintro e w3 ⟨rfl, hb3'⟩
      obtain ⟨ob, hb3⟩ := one_box hb3'
      have HBOX3 := Lib.hid (HBOX.out.below hb3)
      have HX := Lib.hid ob
      have EX := Lib.hid ex
      have hbz3 := bT hbz hb3
      have hxl : w.heap.size < wr.heap.size := hbl
      generalize hgx : wr.heap.size = gx at *
      clear hb3' hb3 q0 q1 d0 d1 d2 d3 d4 d5 hbz hbl ob
      have hbz := hbz3
      clear hbz3
      cases hx : lnok x with
      | false =>
        have HE : Hid (cav c = false) := cav_ln ex hx
        go_wp2
        go_ret
        exact ⟨by rw [HE.out]; rfl, hbz⟩
      | true =>
        have q0 := HBOX3.out.cell_ 0 (v := .slice (some ⟨b, o, none⟩) c.ls.length cc) rfl
        have x0 := HX.out.cell_ 0 (v := .bool x.v) rfl
        have x1 := HX.out.cell_ 1 (v := .int .i64 x.t) rfl
        have x2 := HX.out.cell_ 2 (v := .int .i64 x.p) rfl
        have x5 := HX.out.cell_ 5 (v := .bool x.w) rfl
        have HN := Lib.hid (nfree_step ex)
        have hnk := nfree_le c.ls k
        cases hw : x.w with
        | false =>
          rw [hw] at x5
          go_wp2
          clear q0 x0 x1 x2 x5
          go_loopw [6] (fun u wi => ∃ r : Nat, r ≤ k ∧ u = .int .i64 r ∧ Hid (∀ (m : Nat) (y : Ln), m < r → c.ls[m]? = some y → clash x y = false) ∧ Below w3.heap.size w3 wi) (fun u _ => k - (intOf u).toNat)
          case atStart => exact ⟨0, by omega, rfl, (fun m j h => absurd h (by omega)), bR⟩
          case round =>
            obtain ⟨r, hr, rfl, hacc, hbi⟩ := hrel
            have HBI := Lib.hid (HBOX3.out.below hbi)
            have HXI := Lib.hid (HX.out.below hbi)
            have q0 := HBI.out.cell_ 0 (v := .slice (some ⟨b, o, none⟩) c.ls.length cc) rfl
            have hgl := HXI.out.lt
            by_cases hlr : r < k
            · obtain ⟨y, ey⟩ : ∃ y, c.ls[r]? = some y := ⟨_, List.getElem?_eq_getElem (by omega)⟩
              obtain ⟨b', o', e', hbb', d0, d1, d2, d3, d4, d5⟩ := (HL.out.below (bT hbz hbi)).ln ey
              injection e' with e'
              injection e' with e' e2'
              subst e' e2'
              have x0 := HXI.out.cell_ 0 (v := .bool x.v) rfl
              have x1 := HXI.out.cell_ 1 (v := .int .i64 x.t) rfl
              have x2 := HXI.out.cell_ 2 (v := .int .i64 x.p) rfl
              cases hxv : x.v with
              | false =>
                rw [hxv] at x0
                have HACC : Hid (∀ (m : Nat) (y : Ln), m < r + 1 → c.ls[m]? = some y → clash x y = false) := fun m z hm ez => by
                  rcases Nat.lt_or_ge m r with h | h
                  · exact hacc.out m z h ez
                  · obtain rfl : m = r := by omega
                    rw [ey] at ez
                    injection ez with ez
                    rw [← ez]
                    simp [clash, hxv]
                clear ey
                go_wp2
                go_roundw
                case rel => exact ⟨r + 1, by omega, by go_num, HACC, bA hbi⟩
                case measure => simp [intOf]; omega
              | true =>
              rw [hxv] at x0
              cases hyv : y.v with
              | false =>
                rw [hyv] at d0
                have HACC : Hid (∀ (m : Nat) (y : Ln), m < r + 1 → c.ls[m]? = some y → clash x y = false) := fun m z hm ez => by
                  rcases Nat.lt_or_ge m r with h | h
                  · exact hacc.out m z h ez
                  · obtain rfl : m = r := by omega
                    rw [ey] at ez
                    injection ez with ez
                    rw [← ez]
                    simp [clash, hyv]
                clear ey
                go_wp2
                go_roundw
                case rel => exact ⟨r + 1, by omega, by go_num, HACC, bA hbi⟩
                case measure => simp [intOf]; omega
              | true =>
              rw [hyv] at d0
              by_cases hp : x.p = y.p
              case neg =>
                have HACC : Hid (∀ (m : Nat) (y : Ln), m < r + 1 → c.ls[m]? = some y → clash x y = false) := fun m z hm ez => by
                  rcases Nat.lt_or_ge m r with h | h
                  · exact hacc.out m z h ez
                  · obtain rfl : m = r := by omega
                    rw [ey] at ez
                    injection ez with ez
                    rw [← ez]
                    simp [clash, hp]
                clear ey
                go_wp2
                go_roundw
                case rel => exact ⟨r + 1, by omega, by go_num, HACC, bA hbi⟩
                case measure => simp [intOf]; omega
              case pos =>
              by_cases ht : x.t = y.t
              case pos =>
                have hcl : clash x y = true := by simp [clash, hxv, hyv, hp, ht]
                have HE : Hid (cav c = false) := cav_clash EX.out hlr ey hcl
                clear ey
                go_wp2
                go_ret
                exact ⟨by rw [HE.out]; rfl, bA (bT hbz hbi)⟩
              case neg =>
              by_cases ht1 : x.t = -1
              case pos =>
                have hcl : clash x y = true := by simp [clash, hxv, hyv, hp, ht1]
                have HE : Hid (cav c = false) := cav_clash EX.out hlr ey hcl
                clear ey
                go_wp2
                go_ret
                exact ⟨by rw [HE.out]; rfl, bA (bT hbz hbi)⟩
              case neg =>
              by_cases ht2 : y.t = -1
              case pos =>
                have hcl : clash x y = true := by simp [clash, hxv, hyv, hp, ht2]
                have hor : (x.t == y.t || x.t == -1 || y.t == -1) = true := by simp [ht2]
                have HE : Hid (cav c = false) := cav_clash EX.out hlr ey hcl
                clear ey
                go_wp2
                go_ret
                exact ⟨by rw [HE.out]; rfl, bA (bT hbz hbi)⟩
              case neg =>
              have hcl : clash x y = false := by simp [clash, ht, ht1, ht2]
              have hor : (x.t == y.t || x.t == -1 || y.t == -1) = false := by simp [ht, ht1, ht2]
              have HACC : Hid (∀ (m : Nat) (y : Ln), m < r + 1 → c.ls[m]? = some y → clash x y = false) := fun m z hm ez => by
                rcases Nat.lt_or_ge m r with h | h
                · exact hacc.out m z h ez
                · obtain rfl : m = r := by omega
                  rw [ey] at ez
                  injection ez with ez
                  rw [← ez]
                  exact hcl
              clear ey
              go_wp2
              go_roundw
              case rel => exact ⟨r + 1, by omega, by go_num, HACC, bA hbi⟩
              case measure => simp [intOf]; omega
            · obtain rfl : r = k := by omega
              have HLOK : Hid (lok c.ls (r + 1) = true) := lok_step hlok.out EX.out hx hacc.out
              go_wp2
              go_roundw
              case rel => exact ⟨r + 1, by omega, by go_num, by rw [HN.out, hw]; go_num, HLOK, HBI.out, bT hbz hbi⟩
              case measure => simp [intOf]; omega
        | true =>
          rw [hw] at x5
          go_wp2
          clear q0 x0 x1 x2 x5
          go_loopw [6] (fun u wi => ∃ r : Nat, r ≤ k ∧ u = .int .i64 r ∧ Hid (∀ (m : Nat) (y : Ln), m < r → c.ls[m]? = some y → clash x y = false) ∧ Below w3.heap.size w3 wi) (fun u _ => k - (intOf u).toNat)
          case atStart => exact ⟨0, by omega, rfl, (fun m j h => absurd h (by omega)), bR⟩
          case round =>
            obtain ⟨r, hr, rfl, hacc, hbi⟩ := hrel
            have HBI := Lib.hid (HBOX3.out.below hbi)
            have HXI := Lib.hid (HX.out.below hbi)
            have q0 := HBI.out.cell_ 0 (v := .slice (some ⟨b, o, none⟩) c.ls.length cc) rfl
            have hgl := HXI.out.lt
            by_cases hlr : r < k
            · obtain ⟨y, ey⟩ : ∃ y, c.ls[r]? = some y := ⟨_, List.getElem?_eq_getElem (by omega)⟩
              obtain ⟨b', o', e', hbb', d0, d1, d2, d3, d4, d5⟩ := (HL.out.below (bT hbz hbi)).ln ey
              injection e' with e'
              injection e' with e' e2'
              subst e' e2'
              have x0 := HXI.out.cell_ 0 (v := .bool x.v) rfl
              have x1 := HXI.out.cell_ 1 (v := .int .i64 x.t) rfl
              have x2 := HXI.out.cell_ 2 (v := .int .i64 x.p) rfl
              cases hxv : x.v with
              | false =>
                rw [hxv] at x0
                have HACC : Hid (∀ (m : Nat) (y : Ln), m < r + 1 → c.ls[m]? = some y → clash x y = false) := fun m z hm ez => by
                  rcases Nat.lt_or_ge m r with h | h
                  · exact hacc.out m z h ez
                  · obtain rfl : m = r := by omega
                    rw [ey] at ez
                    injection ez with ez
                    rw [← ez]
                    simp [clash, hxv]
                clear ey
                go_wp2
                go_roundw
                case rel => exact ⟨r + 1, by omega, by go_num, HACC, bA hbi⟩
                case measure => simp [intOf]; omega
              | true =>
              rw [hxv] at x0
              cases hyv : y.v with
              | false =>
                rw [hyv] at d0
                have HACC : Hid (∀ (m : Nat) (y : Ln), m < r + 1 → c.ls[m]? = some y → clash x y = false) := fun m z hm ez => by
                  rcases Nat.lt_or_ge m r with h | h
                  · exact hacc.out m z h ez
                  · obtain rfl : m = r := by omega
                    rw [ey] at ez
                    injection ez with ez
                    rw [← ez]
                    simp [clash, hyv]
                clear ey
                go_wp2
                go_roundw
                case rel => exact ⟨r + 1, by omega, by go_num, HACC, bA hbi⟩
                case measure => simp [intOf]; omega
              | true =>
              rw [hyv] at d0
              by_cases hp : x.p = y.p
              case neg =>
                have HACC : Hid (∀ (m : Nat) (y : Ln), m < r + 1 → c.ls[m]? = some y → clash x y = false) := fun m z hm ez => by
                  rcases Nat.lt_or_ge m r with h | h
                  · exact hacc.out m z h ez
                  · obtain rfl : m = r := by omega
                    rw [ey] at ez
                    injection ez with ez
                    rw [← ez]
                    simp [clash, hp]
                clear ey
                go_wp2
                go_roundw
                case rel => exact ⟨r + 1, by omega, by go_num, HACC, bA hbi⟩
                case measure => simp [intOf]; omega
              case pos =>
              by_cases ht : x.t = y.t
              case pos =>
                have hcl : clash x y = true := by simp [clash, hxv, hyv, hp, ht]
                have HE : Hid (cav c = false) := cav_clash EX.out hlr ey hcl
                clear ey
                go_wp2
                go_ret
                exact ⟨by rw [HE.out]; rfl, bA (bT hbz hbi)⟩
              case neg =>
              by_cases ht1 : x.t = -1
              case pos =>
                have hcl : clash x y = true := by simp [clash, hxv, hyv, hp, ht1]
                have HE : Hid (cav c = false) := cav_clash EX.out hlr ey hcl
                clear ey
                go_wp2
                go_ret
                exact ⟨by rw [HE.out]; rfl, bA (bT hbz hbi)⟩
              case neg =>
              by_cases ht2 : y.t = -1
              case pos =>
                have hcl : clash x y = true := by simp [clash, hxv, hyv, hp, ht2]
                have hor : (x.t == y.t || x.t == -1 || y.t == -1) = true := by simp [ht2]
                have HE : Hid (cav c = false) := cav_clash EX.out hlr ey hcl
                clear ey
                go_wp2
                go_ret
                exact ⟨by rw [HE.out]; rfl, bA (bT hbz hbi)⟩
              case neg =>
              have hcl : clash x y = false := by simp [clash, ht, ht1, ht2]
              have hor : (x.t == y.t || x.t == -1 || y.t == -1) = false := by simp [ht, ht1, ht2]
              have HACC : Hid (∀ (m : Nat) (y : Ln), m < r + 1 → c.ls[m]? = some y → clash x y = false) := fun m z hm ez => by
                rcases Nat.lt_or_ge m r with h | h
                · exact hacc.out m z h ez
                · obtain rfl : m = r := by omega
                  rw [ey] at ez
                  injection ez with ez
                  rw [← ez]
                  exact hcl
              clear ey
              go_wp2
              go_roundw
              case rel => exact ⟨r + 1, by omega, by go_num, HACC, bA hbi⟩
              case measure => simp [intOf]; omega
            · obtain rfl : r = k := by omega
              have HLOK : Hid (lok c.ls (r + 1) = true) := lok_step hlok.out EX.out hx hacc.out
              go_wp2
              go_roundw
              case rel => exact ⟨r + 1, by omega, by go_num, by rw [HN.out, hw]; go_num, HLOK, HBI.out, bT hbz hbi⟩
              case measure => simp [intOf]; omega
    · obtain rfl : k = c.ls.length := by omega
      have HE : Hid (cav c = decide (0 < nfree c.ls c.ls.length)) := by show _ = _; rw [cav_end (by omega) (by omega) HH.out hlok.out, nfree_all]
      generalize nfree c.ls c.ls.length = S at *
      go_wp2
      go_ret
      exact ⟨by rw [HE.out]; simp, hbz⟩
end Go.Proofs.YtnaagdmaggdbmaaGreatDoor
namespace Go.Proofs.YtnaagdmaggdbmaaGreatDoor
open Go.RowKit
set_option maxRecDepth 1000000

theorem sKeyFor_any (s p : Int) (w : World) : Calls Tryz.prog 49 #[.int .i64 s, .int .i64 p] w fun r w' => r = .returned (.agg #[.int .i64 (keyI s p), .int .i64 p]) ∧ Below w.heap.size w w' := by
  by_cases h : 128 ≤ p
  · have H : Hid (keyI s p = 0) := by show _ = _; unfold keyI; rw [if_pos h]
    go_enter Tryz.func49, Tryz.ntmps49
    go_wp2
    refine bodyPost_ret (v := .agg #[.int .i64 (keyI s p), .int .i64 p]) (by simp [results, Tryz.results49, go_sem, H.out]) rfl ⟨rfl, ?_⟩
    repeat first | exact bR | refine bS ?_ (by simp) | refine bA ?_
  · have H : Hid (keyI s p = s) := by show _ = _; unfold keyI; rw [if_neg h]
    go_enter Tryz.func49, Tryz.ntmps49
    go_wp2
    refine bodyPost_ret (v := .agg #[.int .i64 (keyI s p), .int .i64 p]) (by simp [results, Tryz.results49, go_sem, H.out]) rfl ⟨rfl, ?_⟩
    repeat first | exact bR | refine bS ?_ (by simp) | refine bA ?_
set_option maxHeartbeats 1000000 in
theorem l5Find_any (vo : Value) (g : Tg) (s : Int) (w : World) (hT : SlR owE w vo g.os) :
    Calls Tryz.prog 115 #[.agg #[.int .i64 g.count, .int .i64 g.next, .int .i64 g.round, vo], .int .i64 s] w fun r w' => r = .returned (.int .i64 (ownI g.os s)) ∧ Below w.heap.size w w' := by
  obtain ⟨A, cc, rfl, hbc, hbm, hL⟩ := hT
  have hfm2 : g.os.length ≤ 9223372036854775807 := by unfold maxLen at hbm; omega
  have HL := Lib.hid hL
  have hbx := Own.new_ w 32 #[.int .i64 g.count, .int .i64 g.next, .int .i64 g.round, .slice A g.os.length cc]
  have hbz : Below w.heap.size w (w.alloc (.cells #[.int .i64 g.count, .int .i64 g.next, .int .i64 g.round, .slice A g.os.length cc] 32)) := bA bR
  have hsz0 : (w.alloc (.cells #[.int .i64 g.count, .int .i64 g.next, .int .i64 g.round, .slice A g.os.length cc] 32)).heap.size = w.heap.size + 1 := by simp
  generalize hW : w.alloc (.cells #[.int .i64 g.count, .int .i64 g.next, .int .i64 g.round, .slice A g.os.length cc] 32) = W0 at hbx hbz hsz0
  have q0 := hbx.cell_ 0 (v := .int .i64 g.count) rfl
  have q1 := hbx.cell_ 1 (v := .int .i64 g.next) rfl
  have q2 := hbx.cell_ 2 (v := .int .i64 g.round) rfl
  have q3 := hbx.cell_ 3 (v := .slice A g.os.length cc) rfl
  have HBX := Lib.hid hbx
  clear hL hbx
  clear q0 q1 q2 q3 hsz0
  go_enter Tryz.func115, Tryz.ntmps115
  go_wp2
  go_loopw [5] (fun u wr => ∃ k : Nat, k ≤ g.os.length ∧ u = .int .i64 k ∧ Hid (∀ (j : Nat) (q : Int × Int), j < k → g.os[j]? = some q → ¬ q.1 = s) ∧ Own wr w.heap.size 32 #[.int .i64 g.count, .int .i64 g.next, .int .i64 g.round, .slice A g.os.length cc] ∧ Below w.heap.size w wr) (fun u _ => g.os.length - (intOf u).toNat)
  case atStart => exact ⟨0, by omega, rfl, (fun j q h => absurd h (by omega)), HBX.out, hbz⟩
  case round =>
    obtain ⟨k, hk, rfl, hacc, hbox, hbi⟩ := hrel
    have q3 := hbox.cell_ 3 (v := .slice A g.os.length cc) rfl
    by_cases hlt : k < g.os.length
    · obtain ⟨o, eo⟩ : ∃ o, g.os[k]? = some o := ⟨_, List.getElem?_eq_getElem hlt⟩
      obtain ⟨b, ob, rfl, hbb, d0, d1⟩ := (HL.out.below hbi).ow eo
      have HBOX := Lib.hid hbox
      clear hbox
      by_cases ht : o.1 = s
      · have H := Lib.hid (own_at eo hacc.out ht)
        clear eo
        go_wp2
        go_ret
        exact ⟨by rw [H.out]; rfl, hbi⟩
      · have HACC := Lib.hid (own_go eo hacc.out ht)
        clear eo
        go_wp2
        go_roundw
        case rel => exact ⟨k + 1, by omega, by go_num, HACC, HBOX.out, hbi⟩
        case measure => simp [intOf]; omega
    · have H := Lib.hid (own_none (Nat.le_of_not_lt hlt) hacc.out)
      clear hbox
      go_wp2
      go_ret
      exact ⟨by rw [H.out]; rfl, hbi⟩
set_option maxHeartbeats 4000000 in
theorem sTagsValid_any (vo : Value) (g : Tg) (w : World) (hT : SlR owE w vo g.os) :
    Calls Tryz.prog 114 #[.agg #[.int .i64 g.count, .int .i64 g.next, .int .i64 g.round, vo]] w fun r w' => r = .returned (.bool (tgv g)) ∧ Below w.heap.size w w' := by
  obtain ⟨A, cc, rfl, hbc, hbm, hL⟩ := hT
  have hfm2 : g.os.length ≤ 9223372036854775807 := by unfold maxLen at hbm; omega
  have HL := Lib.hid hL
  have hbx := Own.new_ w 32 #[.int .i64 g.count, .int .i64 g.next, .int .i64 g.round, .slice A g.os.length cc]
  have hbz : Below w.heap.size w (w.alloc (.cells #[.int .i64 g.count, .int .i64 g.next, .int .i64 g.round, .slice A g.os.length cc] 32)) := bA bR
  have hsz0 : (w.alloc (.cells #[.int .i64 g.count, .int .i64 g.next, .int .i64 g.round, .slice A g.os.length cc] 32)).heap.size = w.heap.size + 1 := by simp
  generalize hW : w.alloc (.cells #[.int .i64 g.count, .int .i64 g.next, .int .i64 g.round, .slice A g.os.length cc] 32) = W0 at hbx hbz hsz0
  have q0 := hbx.cell_ 0 (v := .int .i64 g.count) rfl
  have q1 := hbx.cell_ 1 (v := .int .i64 g.next) rfl
  have q2 := hbx.cell_ 2 (v := .int .i64 g.round) rfl
  have q3 := hbx.cell_ 3 (v := .slice A g.os.length cc) rfl
  have HBX := Lib.hid hbx
  clear hL hbx
  by_cases h1 : g.count < 1
  · go_enter Tryz.func114, Tryz.ntmps114
    have HE : Hid (tgv g = false) := tgv_no fun h => by have := (tgv_parts h).1; omega
    go_wp2
    go_ret
    exact ⟨by rw [HE.out]; rfl, hbz⟩
  by_cases h2 : 8 < g.count
  · go_enter Tryz.func114, Tryz.ntmps114
    have HE : Hid (tgv g = false) := tgv_no fun h => by have := (tgv_parts h).1; omega
    go_wp2
    go_ret
    exact ⟨by rw [HE.out]; rfl, hbz⟩
  by_cases h3 : g.next < 0
  · go_enter Tryz.func114, Tryz.ntmps114
    have HE : Hid (tgv g = false) := tgv_no fun h => by have := (tgv_parts h).1; omega
    go_wp2
    go_ret
    exact ⟨by rw [HE.out]; rfl, hbz⟩
  by_cases h4 : g.count < g.next
  · go_enter Tryz.func114, Tryz.ntmps114
    have HE : Hid (tgv g = false) := tgv_no fun h => by have := (tgv_parts h).1; omega
    go_wp2
    go_ret
    exact ⟨by rw [HE.out]; rfl, hbz⟩
  by_cases h5 : g.round < 0
  · go_enter Tryz.func114, Tryz.ntmps114
    have HE : Hid (tgv g = false) := tgv_no fun h => by have := (tgv_parts h).1; omega
    go_wp2
    go_ret
    exact ⟨by rw [HE.out]; rfl, hbz⟩
  by_cases h6 : 1000000 < g.round
  · go_enter Tryz.func114, Tryz.ntmps114
    have HE : Hid (tgv g = false) := tgv_no fun h => by have := (tgv_parts h).1; omega
    go_wp2
    go_ret
    exact ⟨by rw [HE.out]; rfl, hbz⟩
  by_cases h7 : g.next < (g.os.length : Int)
  · go_enter Tryz.func114, Tryz.ntmps114
    have HE : Hid (tgv g = false) := tgv_no fun h => by have := tok_len (tgv_parts h).2 (tgv_parts h).1.2.2.1; omega
    go_wp2
    go_ret
    exact ⟨by rw [HE.out]; rfl, hbz⟩
  have HGB : Hid (tgb g = true) := tgb_iff.2 (by omega)
  go_enter Tryz.func114, Tryz.ntmps114
  go_wp2
  clear q0 q1 q2 q3
  go_loopw [3] (fun u wr => ∃ k : Nat, k ≤ g.os.length ∧ u = .int .i64 k ∧ Hid (tok g.os g.next k = true) ∧ Own wr w.heap.size 32 #[.int .i64 g.count, .int .i64 g.next, .int .i64 g.round, .slice A g.os.length cc] ∧ Below w.heap.size w wr) (fun u _ => g.os.length - (intOf u).toNat)
  case atStart => exact ⟨0, by omega, rfl, rfl, HBX.out, hbz⟩
  case round =>
    clear hbz
    obtain ⟨k, hk, rfl, htok, hbox, hbz⟩ := hrel
    have q1 := hbox.cell_ 1 (v := .int .i64 g.next) rfl
    have q3 := hbox.cell_ 3 (v := .slice A g.os.length cc) rfl
    have HBOX := Lib.hid hbox
    have hbl := hbox.lt
    clear hbox
    by_cases hlt : k < g.os.length
    · obtain ⟨o, eo⟩ : ∃ o, g.os[k]? = some o := ⟨_, List.getElem?_eq_getElem hlt⟩
      obtain ⟨b, ob, rfl, hbb, d0, d1⟩ := (HL.out.below hbz).ow eo
      have EO := Lib.hid eo
      have hx := Own.new_ wr 155 #[.int .i64 o.1, .int .i64 o.2]
      have HB5 := Lib.hid (HBOX.out.alloc (o := .cells #[.int .i64 o.1, .int .i64 o.2] 155))
      have hb5 : Below w.heap.size w (wr.alloc (.cells #[.int .i64 o.1, .int .i64 o.2] 155)) := bA hbz
      generalize hW5 : wr.alloc (.cells #[.int .i64 o.1, .int .i64 o.2] 155) = w5 at *
      have z1 := xcell (w := w5) (HB5.out.cell_ 1 (v := .int .i64 g.next) rfl) HB5.out.lt
      have z3 := xcell (w := w5) (HB5.out.cell_ 3 (v := .slice (some ⟨b, ob, none⟩) g.os.length cc) rfl) HB5.out.lt
      have y0 := xcell (w := w5) (hx.cell_ 0 (v := .int .i64 o.1) rfl) hx.lt
      have y1 := xcell (w := w5) (hx.cell_ 1 (v := .int .i64 o.2) rfl) hx.lt
      have HX := Lib.hid hx
      have KW := fun W => l1Space_any o.1 W
      clear eo hx
      cases g1 : inR o.1 16 with
      | false =>
        rw [g1] at KW
        have HK := Lib.hid KW
        clear KW
        have HE : Hid (tgv g = false) := tgv_ob EO.out (.inl g1)
        go_wp2
        refine wp_region_ext (by kernel_rfl) (by kernel_rfl) ?_
        repeat (go_big_quiet_step ((go_at_call 188; exact ext_same (HK.out _))))
        refine wpQuiet_nil ?_
        intro _ hw'
        obtain ⟨⟨wq, hq⟩, hw''⟩ := hw'
        subst hw''
        try dsimp only
        go_wp2
        go_ret
        exact ⟨by rw [HE.out]; rfl, bT hb5 hq⟩
      | true =>
      rw [g1] at KW
      have HK := Lib.hid KW
      clear KW
      by_cases g2 : o.2 < 0
      case pos =>
        have HE : Hid (tgv g = false) := tgv_no fun h => by
          obtain ⟨o', e', _, h2, _⟩ := tok_at (tgv_parts h).2 hlt
          rw [EO.out] at e'
          injection e' with e'
          subst e'
          omega
        go_wp2
        refine wp_region_ext (by kernel_rfl) (by kernel_rfl) ?_
        repeat (go_big_quiet_step ((go_at_call 188; exact ext_same (HK.out _))))
        refine wpQuiet_nil ?_
        intro _ hw'
        obtain ⟨⟨wq, hq⟩, hw''⟩ := hw'
        subst hw''
        try dsimp only
        go_wp2
        go_ret
        exact ⟨by rw [HE.out]; rfl, bT hb5 hq⟩
      case neg =>
      by_cases g3 : g.next ≤ o.2
      case pos =>
        have HE : Hid (tgv g = false) := tgv_ob EO.out (.inr (.inl (by omega)))
        go_wp2
        have n2 : ¬ o.2 < 0 := by omega
        refine wp_region_ext (by kernel_rfl) (by kernel_rfl) ?_
        repeat (go_big_quiet_step ((go_at_call 188; exact ext_same (HK.out _))))
        refine wpQuiet_nil ?_
        intro _ hw'
        obtain ⟨⟨wq, hq⟩, hw''⟩ := hw'
        subst hw''
        try dsimp only
        go_wp2
        go_ret
        exact ⟨by rw [HE.out]; rfl, bT hb5 hq⟩
      case neg =>
      rcases k with _ | j
      · have HLT : Hid (tlast g.os 0 < o.2) := by show _ < _; rw [tlast_0]; omega
        simp only [Nat.zero_mul, Nat.add_zero] at d0 d1
        go_wp2
        have n2 : ¬ o.2 < 0 := by omega
        have n3 : ¬ g.next ≤ o.2 := by omega
        refine wp_region_ext (by kernel_rfl) (by kernel_rfl) ?_
        repeat (go_big_quiet_step ((go_at_call 188; exact ext_same (HK.out _))))
        refine wpQuiet_nil ?_
        intro _ hw'
        obtain ⟨⟨wq, hq⟩, hw''⟩ := hw'
        subst hw''
        try dsimp only
        go_wp2
        go_loopw [5] (fun u wi => u = .int .i64 0 ∧ Below w5.heap.size w5 wi) (fun u _ => 0)
        case atStart => exact ⟨rfl, hq⟩
        case round =>
          obtain ⟨rfl, hbi⟩ := hrel
          have HTOK : Hid (tok g.os g.next (0 + 1) = true) := tok_step htok.out EO.out g1 (by omega) HLT.out (fun r q h => absurd h (by omega))
          have hbx6 := HB5.out.below hbi
          go_wp2
          go_roundw
          case rel => exact ⟨0 + 1, by omega, by go_num, HTOK, hbx6, bT hb5 hbi⟩
          case measure => simp [intOf]; omega
      · obtain ⟨q, eq⟩ : ∃ q, g.os[j]? = some q := ⟨_, List.getElem?_eq_getElem (by omega)⟩
        obtain ⟨b', ob', e', hbb', f0, f1⟩ := (HL.out.below hbz).ow eq
        injection e' with e'
        injection e' with e' e2'
        subst e' e2'
        have y3 := xcell (w := w5) (p := ⟨b, ob + j * 2 + 1, none⟩) (v := .int .i64 q.2) (by rw [← hW5]; exact cells_far (by have := hbz.size; omega) f1) (by have := hb5.size; show b < _; omega)
        have HTL := Lib.hid (tlast_of eq)
        clear eq f0 f1
        by_cases g4 : o.2 ≤ q.2
        · have HE : Hid (tgv g = false) := tgv_ob EO.out (.inr (.inr (.inl (by rw [HTL.out]; omega))))
          go_wp2
          have n2 : ¬ o.2 < 0 := by omega
          have n3 : ¬ g.next ≤ o.2 := by omega
          refine wp_region_ext (by kernel_rfl) (by kernel_rfl) ?_
          repeat (go_big_quiet_step ((go_at_call 188; exact ext_same (HK.out _))))
          refine wpQuiet_nil ?_
          intro _ hw'
          obtain ⟨⟨wq, hq⟩, hw''⟩ := hw'
          subst hw''
          try dsimp only
          go_wp2
          go_ret
          exact ⟨by rw [HE.out]; rfl, bT hb5 hq⟩
        · have HLT : Hid (tlast g.os (j + 1) < o.2) := by show _ < _; rw [HTL.out]; omega
          go_wp2
          have n2 : ¬ o.2 < 0 := by omega
          have n3 : ¬ g.next ≤ o.2 := by omega
          have n4 : ¬ o.2 ≤ q.2 := by omega
          refine wp_region_ext (by kernel_rfl) (by kernel_rfl) ?_
          repeat (go_big_quiet_step ((go_at_call 188; exact ext_same (HK.out _))))
          refine wpQuiet_nil ?_
          intro _ hw'
          obtain ⟨⟨wq, hq⟩, hw''⟩ := hw'
          subst hw''
          try dsimp only
          go_wp2
          go_loopw [5] (fun u wi => ∃ r : Nat, r ≤ j + 1 ∧ u = .int .i64 r ∧ Hid (∀ (m : Nat) (q : Int × Int), m < r → g.os[m]? = some q → ¬ q.1 = o.1) ∧ Below w5.heap.size w5 wi) (fun u _ => j + 1 - (intOf u).toNat)
          case atStart => exact ⟨0, by omega, rfl, (fun m q h => absurd h (by omega)), hq⟩
          case round =>
            obtain ⟨r, hr, rfl, hacc, hbi⟩ := hrel
            by_cases hlr : r < j + 1
            · obtain ⟨p, ep⟩ : ∃ p, g.os[r]? = some p := ⟨_, List.getElem?_eq_getElem (by omega)⟩
              obtain ⟨b2, o2, e2, hbb2, f0, f1⟩ := (HL.out.below (bT hb5 hbi)).ow ep
              injection e2 with e2
              injection e2 with e2 e3
              subst e2 e3
              have v0 := xcell f0 (by have := (bT hb5 hbi).size; show b < _; omega)
              have v3 := xcell ((HB5.out.below hbi).cell_ 3 (v := .slice (some ⟨b, ob, none⟩) g.os.length cc) rfl) (HB5.out.below hbi).lt
              have v4 := xcell ((HX.out.below hbi).cell_ 0 (v := .int .i64 o.1) rfl) (HX.out.below hbi).lt
              have EP := Lib.hid ep
              clear ep f0 f1
              by_cases hp : p.1 = o.1
              · have HE : Hid (tgv g = false) := tgv_ob EO.out (.inr (.inr (.inr ⟨r, p, by omega, EP.out, hp⟩)))
                go_wp2
                refine wp_region_ext (by kernel_rfl) (by kernel_rfl) ?_
                repeat (go_big_quiet_step (fail))
                refine wpQuiet_nil ?_
                intro _ hw'
                obtain ⟨⟨wq, hq⟩, hw''⟩ := hw'
                subst hw''
                try dsimp only
                go_wp2
                go_ret
                exact ⟨by rw [HE.out]; rfl, bT (bT hb5 hbi) hq⟩
              · have HACC : Hid (∀ (m : Nat) (q : Int × Int), m < r + 1 → g.os[m]? = some q → ¬ q.1 = o.1) := own_go EP.out hacc.out hp
                go_wp2
                have hp2 : ¬ p.1 = o.1 := hp
                refine wp_region_ext (by kernel_rfl) (by kernel_rfl) ?_
                repeat (go_big_quiet_step (fail))
                refine wpQuiet_nil ?_
                intro _ hw'
                obtain ⟨⟨wq, hq⟩, hw''⟩ := hw'
                subst hw''
                try dsimp only
                go_wp2
                go_roundw
                case rel => exact ⟨r + 1, by omega, by go_num, HACC, bT hbi hq⟩
                case measure => simp [intOf]; omega
            · obtain rfl : r = j + 1 := by omega
              have HTOK : Hid (tok g.os g.next (j + 1 + 1) = true) := tok_step htok.out EO.out g1 (by omega) HLT.out hacc.out
              have hbx6 := HB5.out.below hbi
              go_wp2
              go_roundw
              case rel => exact ⟨j + 1 + 1, by omega, by go_num, HTOK, hbx6, bT hb5 hbi⟩
              case measure => simp [intOf]; omega
    · obtain rfl : k = g.os.length := by omega
      have HE : Hid (tgv g = true) := tgv_end HGB.out htok.out
      go_wp2
      go_ret
      exact ⟨by rw [HE.out]; rfl, hbz⟩
set_option maxHeartbeats 1000000 in
theorem sSpaceOf_any (vo : Value) (g : Tg) (tag : Int) (w : World) (hT : SlR owE w vo g.os) :
    Calls Tryz.prog 189 #[.agg #[.int .i64 g.count, .int .i64 g.next, .int .i64 g.round, vo], .int .i64 tag] w fun r w' => r = .returned (.tuple #[.int .i64 (spV g tag), .bool (spO g tag)]) ∧ Below w.heap.size w w' := by
  have HV := Lib.hid hT
  obtain ⟨A, cc, rfl, hbc, hbm, hL⟩ := hT
  have hfm2 : g.os.length ≤ 9223372036854775807 := by unfold maxLen at hbm; omega
  have HL := Lib.hid hL
  have hbx := Own.new_ w 32 #[.int .i64 g.count, .int .i64 g.next, .int .i64 g.round, .slice A g.os.length cc]
  have hbz : Below w.heap.size w (w.alloc (.cells #[.int .i64 g.count, .int .i64 g.next, .int .i64 g.round, .slice A g.os.length cc] 32)) := bA bR
  have hsz0 : (w.alloc (.cells #[.int .i64 g.count, .int .i64 g.next, .int .i64 g.round, .slice A g.os.length cc] 32)).heap.size = w.heap.size + 1 := by simp
  generalize hW : w.alloc (.cells #[.int .i64 g.count, .int .i64 g.next, .int .i64 g.round, .slice A g.os.length cc] 32) = W0 at hbx hbz hsz0
  have q0 := hbx.cell_ 0 (v := .int .i64 g.count) rfl
  have q1 := hbx.cell_ 1 (v := .int .i64 g.next) rfl
  have q2 := hbx.cell_ 2 (v := .int .i64 g.round) rfl
  have q3 := hbx.cell_ 3 (v := .slice A g.os.length cc) rfl
  have HBX := Lib.hid hbx
  clear hL hbx q0 q1 q2 q3 hsz0
  go_enter Tryz.func189, Tryz.ntmps189
  go_wp2
  go_loopw [6] (fun u wr => ∃ k : Nat, k ≤ g.os.length ∧ u = .int .i64 k ∧ Hid (0 < k → tgv g = true) ∧ Hid (∀ (j : Nat) (q : Int × Int), j < k → g.os[j]? = some q → ¬ q.2 = tag) ∧ Own wr w.heap.size 32 #[.int .i64 g.count, .int .i64 g.next, .int .i64 g.round, .slice A g.os.length cc] ∧ Below w.heap.size w wr) (fun u _ => g.os.length - (intOf u).toNat)
  case atStart => exact ⟨0, by omega, rfl, (fun h => absurd h (by omega)), (fun j q h => absurd h (by omega)), HBX.out, hbz⟩
  case round =>
    clear hbz
    obtain ⟨k, hk, rfl, htv, hacc, hbox, hbz⟩ := hrel
    have q0 := hbox.cell_ 0 (v := .int .i64 g.count) rfl
    have q1 := hbox.cell_ 1 (v := .int .i64 g.next) rfl
    have q2 := hbox.cell_ 2 (v := .int .i64 g.round) rfl
    have q3 := hbox.cell_ 3 (v := .slice A g.os.length cc) rfl
    have HBOX := Lib.hid hbox
    clear hbox
    by_cases hlt : k < g.os.length
    · go_wp2_with fail
      refine (sTagsValid_any _ g _ (HV.out.now hbz)).mono ?_
      rintro e w1 ⟨rfl, hb1⟩
      have HB1 := Lib.hid (HBOX.out.below hb1)
      have hbz1 := bT hbz hb1
      clear q0 q1 q2 q3 hb1 hbz
      have q3 := HB1.out.cell_ 3 (v := .slice A g.os.length cc) rfl
      cases h1 : tgv g with
      | false =>
        obtain ⟨e1, e2⟩ := spO_no (tag := tag) h1
        have E1 := Lib.hid e1
        have E2 := Lib.hid e2
        clear e1 e2
        go_wp2
        go_ret2
        exact ⟨by rw [E1.out, E2.out]; rfl, hbz1⟩
      | true =>
        obtain ⟨o, eo⟩ : ∃ o, g.os[k]? = some o := ⟨_, List.getElem?_eq_getElem hlt⟩
        obtain ⟨b, ob, rfl, hbb, d0, d1⟩ := (HL.out.below hbz1).ow eo
        by_cases ht : o.2 = tag
        · obtain ⟨e1, e2⟩ := spO_some h1 (spc_at eo hacc.out ht) eo
          have E1 := Lib.hid e1
          have E2 := Lib.hid e2
          clear e1 e2 eo
          go_wp2
          go_ret2
          exact ⟨by rw [E1.out, E2.out]; rfl, hbz1⟩
        · have HACC := Lib.hid (spc_go eo hacc.out ht)
          have H1 : Hid (tgv g = true) := h1
          clear eo
          go_wp2
          go_roundw
          case rel => exact ⟨k + 1, by omega, by go_num, (fun _ => H1.out), HACC, HB1.out, hbz1⟩
          case measure => simp [intOf]; omega
    · obtain ⟨e1, e2⟩ : spO g tag = false ∧ spV g tag = 0 := by
        cases h1 : tgv g with
        | false => exact spO_no h1
        | true => exact spO_none h1 (spc_none (Nat.le_of_not_lt hlt) hacc.out)
      have E1 := Lib.hid e1
      have E2 := Lib.hid e2
      clear e1 e2
      go_wp2
      go_ret2
      exact ⟨by rw [E1.out, E2.out]; rfl, hbz⟩
end Go.Proofs.YtnaagdmaggdbmaaGreatDoor
namespace Go.Proofs.YtnaagdmaggdbmaaGreatDoor
open Go.RowKit
set_option maxRecDepth 1000000
theorem post2_of {f : FuncId} {args : Array Value} {w : World} {v : Value} (h : Calls Tryz.prog f args w fun r w' => r = .returned v ∧ Below w.heap.size w w') : Calls Tryz.prog f args w (Post2 fun v' w' => v' = v ∧ Below w.heap.size w w') := h.mono fun _ _ h => ⟨_, h.1, rfl, h.2⟩
theorem keq_iff {a b c d : Int} : keq a b c d = true ↔ (a, b) = (c, d) := by
  unfold keq
  simp
theorem keq_no {a b c d : Int} (h : keq a b c d = false) : ¬ (a, b) = (c, d) := fun hh => by rw [keq_iff.2 hh] at h; cases h
theorem TaR.fsl {w : World} {vb : Value} {A : Option Addr} {c : Nat} {t : Tab} (h : TaR w vb (.slice A t.fs.length c) t) : Rs frE w.heap.size w A t.fs := by
  obtain ⟨A', c', e, _, _, h4⟩ := h.f
  injection e with e1 _ _
  rw [e1]
  exact h4
set_option maxHeartbeats 2000000 in
theorem l3Find_any (vb vf : Value) (t : Tab) (s p : Int) (w : World) (hT : TaR w vb vf t) (htv : tv t = true) (hk : kval (s, p) = true) :
    Calls Tryz.prog 144 #[.agg #[vb, vf], .agg #[.int .i64 s, .int .i64 p]] w fun r w' => ∃ n : Int, r = .returned (.tuple #[.int .i64 (fndI t.fs s p), .int .i64 n]) ∧ Below w.heap.size w w' := by
  obtain ⟨⟨_, hfl, hb1, hbl⟩, _⟩ := tv_parts htv
  obtain ⟨ch, hch, _⟩ := fnd_chain htv hk
  obtain ⟨hbk, hbe⟩ := bkt_in hk hb1
  have hcl := (show ch.length ≤ t.fs.length from by
    obtain ⟨x, _, ec⟩ := bch_some hch
    exact chn_len ec)
  have HT := Lib.hid hT
  obtain ⟨Ab, cb, rfl, hbc, hbm, hB⟩ := hT.b
  obtain ⟨Af, cf, rfl, hfc, hfm, hF⟩ := hT.f
  have hbx := (Own.new_ w 26 #[.slice Ab t.bs.length cb, .slice Af t.fs.length cf]).alloc (o := .cells #[.int .i64 s, .int .i64 p] 36)
  have hky := Own.new_ (w.alloc (.cells #[.slice Ab t.bs.length cb, .slice Af t.fs.length cf] 26)) 36 #[.int .i64 s, .int .i64 p]
  have hb0 : Below w.heap.size w ((w.alloc (.cells #[.slice Ab t.bs.length cb, .slice Af t.fs.length cf] 26)).alloc (.cells #[.int .i64 s, .int .i64 p] 36)) := bA (bA bR)
  rw [show (w.alloc (.cells #[.slice Ab t.bs.length cb, .slice Af t.fs.length cf] 26)).heap.size = w.heap.size + 1 by simp] at hky
  generalize hW : (w.alloc (.cells #[.slice Ab t.bs.length cb, .slice Af t.fs.length cf] 26)).alloc (.cells #[.int .i64 s, .int .i64 p] 36) = W0 at hbx hky hb0
  have q0 := hbx.cell_ 0 (v := .slice Ab t.bs.length cb) rfl
  have q1 := hbx.cell_ 1 (v := .slice Af t.fs.length cf) rfl
  have k0 := hky.cell_ 0 (v := .int .i64 s) rfl
  have k1 := hky.cell_ 1 (v := .int .i64 p) rfl
  have HX0 := Lib.hid hbx
  have HK0 := Lib.hid hky
  have HB0 := Lib.hid hb0
  clear hbx hky hb0
  have HH := Lib.hid (fun W => post2_of (l2Hash_any s p t.bs.length W hk ⟨by omega, by omega⟩))
  have HC := Lib.hid (fun W (h : TaR W (.slice Ab t.bs.length cb) (.slice Af t.fs.length cf) t) => (l3Chain_any (.slice Ab t.bs.length cb) (.slice Af t.fs.length cf) t (bkt t s p) W h hbk (by omega)).mono (R' := Post2 fun v w' => ∃ v1, v = .tuple #[v1, .bool (bch t (bkt t s p)).isSome] ∧ (∀ ch, bch t (bkt t s p) = some ch → SlR intE w' v1 (ints ch)) ∧ Below W.heap.size W w') (fun _ _ ⟨v, e1, e2, e3⟩ => ⟨_, e1, v, rfl, e2, e3⟩))
  go_enter Tryz.func144, Tryz.ntmps144
  go_wp2
  go_region_held_law (fun w' => w'.cell? ⟨w.heap.size, 0, none⟩ = some (.slice Ab t.bs.length cb) ∧ w'.cell? ⟨w.heap.size, 1, none⟩ = some (.slice Af t.fs.length cf) ∧ w'.cell? ⟨w.heap.size + 1, 0, none⟩ = some (.int .i64 s) ∧ w'.cell? ⟨w.heap.size + 1, 1, none⟩ = some (.int .i64 p)) (go_keep) (first
    | (go_at_call 186
       refine (HH.out _).mono ?_
       rintro _ w1 ⟨_, rfl, rfl, hb1⟩
       rw [hbe]
       have HB1 := Lib.hid (bT (bD HB0.out) hb1)
       have hx1 := HX0.out.drew.below hb1
       have hk1 := HK0.out.drew.below hb1
       have d0 := hx1.cell_ 0 (v := .slice Ab t.bs.length cb) rfl
       have d1 := hx1.cell_ 1 (v := .slice Af t.fs.length cf) rfl
       have d2 := hk1.cell_ 0 (v := .int .i64 s) rfl
       have d3 := hk1.cell_ 1 (v := .int .i64 p) rfl
       have HX1 := Lib.hid hx1
       have HK1 := Lib.hid hk1
       clear hx1 hk1 hb1)
    | (go_at_call 185
       refine (HC.out _ (HT.out.now HB1.out)).mono ?_
       rintro _ w2 ⟨_, rfl, v, rfl, hsl, hb2⟩
       have HB2 := Lib.hid (bT HB1.out hb2)
       have hx2 := HX1.out.below hb2
       have hk2 := HK1.out.below hb2
       have e0 := hx2.cell_ 0 (v := .slice Ab t.bs.length cb) rfl
       have e1 := hx2.cell_ 1 (v := .slice Af t.fs.length cf) rfl
       have e2 := hk2.cell_ 0 (v := .int .i64 s) rfl
       have e3 := hk2.cell_ 1 (v := .int .i64 p) rfl
       have HX2 := Lib.hid hx2
       have HK2 := Lib.hid hk2
       have hsv := hsl ch hch
       obtain ⟨Al, cl, rfl, hlc, hlm, hL⟩ := hsv
       have HL := Lib.hid hL
       rw [ints_length] at *
       clear hx2 hk2 hb2 hsl hL d0 d1 d2 d3))
  all_goals
    go_wp2
    clear e0 e1 e2 e3
    go_loopw [8] (fun u wi => ∃ r : Nat, r ≤ ch.length ∧ u = .int .i64 r ∧ Hid (∀ (m j : Nat) (f : Fr), m < r → ch[m]? = some j → t.fs[j]? = some f → ¬ (f.s, f.p) = (s, p)) ∧ Below w2.heap.size w2 wi) (fun u _ => ch.length - (intOf u).toNat)
    case atStart => exact ⟨0, by omega, rfl, (fun m j f h => absurd h (by omega)), bR⟩
    case round =>
      obtain ⟨r, hr, rfl, hacc, hbi⟩ := hrel
      by_cases hlr : r < ch.length
      · obtain ⟨j, ej⟩ : ∃ j, ch[r]? = some j := ⟨_, List.getElem?_eq_getElem hlr⟩
        obtain ⟨f, ef, huf⟩ := bch_mem hch j (List.mem_of_getElem? ej)
        obtain ⟨hjl, _⟩ := List.getElem?_eq_some_iff.1 ef
        obtain ⟨b5, o5, hAl, hb5, y0⟩ := (HL.out.now (Nat.le_refl _) hbi).i1 (ints_get ej)
        obtain ⟨b4, o4, hAf, hb4, x0, x1, x2, x3, x4⟩ := ((HT.out.now (bT HB2.out hbi)).fsl).fr ef
        subst hAl hAf
        have z0 := xcell (w := wr) ((HX2.out.below hbi).cell_ 0 (v := .slice Ab t.bs.length cb) rfl) (HX2.out.below hbi).lt
        have z1 := xcell (w := wr) ((HX2.out.below hbi).cell_ 1 (v := .slice (some ⟨b4, o4, none⟩) t.fs.length cf) rfl) (HX2.out.below hbi).lt
        have z2 := xcell (w := wr) ((HK2.out.below hbi).cell_ 0 (v := .int .i64 s) rfl) (HK2.out.below hbi).lt
        have z3 := xcell (w := wr) ((HK2.out.below hbi).cell_ 1 (v := .int .i64 p) rfl) (HK2.out.below hbi).lt
        have z4 := xcell (w := wr) y0 (by simp; omega)
        have z5 := xcell (w := wr) x1 (by show b4 < _; omega)
        have z6 := xcell (w := wr) x2 (by show b4 < _; omega)
        have hj2 : (j : Int) < (t.fs.length : Int) := by omega
        have he := fun W => eql_key f.s f.p s p W
        have hi1 : ((ints ch).length : Int) = (ch.length : Int) := by rw [ints_length]
        cases hq1 : keq f.s f.p s p with
        | true =>
          rw [hq1] at he
          have H := Lib.hid (chain_some htv hk hch ej ef (keq_iff.1 hq1))
          have Y0 := Lib.hid y0
          clear ej ef huf y0 x0 x1 x2 x3 x4
          go_wp2
          refine wp_region_ext (by kernel_rfl) (by kernel_rfl) ?_
          repeat (go_big_quiet_step (fail))
          refine wpQuiet_nil ?_
          intro _ hw'
          obtain ⟨⟨wq, hq⟩, hw''⟩ := hw'
          subst hw''
          try dsimp only
          have z7 := (hq.cell (p := ⟨b5, o5 + r, none⟩) hb5).trans Y0.out
          go_wp2
          go_ret2
          exact ⟨_, by rw [H.out]; rfl, bT HB2.out (bT hbi hq)⟩
        | false =>
          rw [hq1] at he
          have HACC : Hid (∀ (m j : Nat) (f : Fr), m < r + 1 → ch[m]? = some j → t.fs[j]? = some f → ¬ (f.s, f.p) = (s, p)) := fun m j' f' hm e1 e2 => by
            rcases Nat.lt_or_ge m r with h | h
            · exact hacc.out m j' f' h e1 e2
            · obtain rfl : m = r := by omega
              rw [ej] at e1
              injection e1 with e1
              subst e1
              rw [ef] at e2
              injection e2 with e2
              subst e2
              exact keq_no hq1
          clear ej ef huf y0 x0 x1 x2 x3 x4
          go_wp2
          refine wp_region_ext (by kernel_rfl) (by kernel_rfl) ?_
          repeat (go_big_quiet_step (fail))
          refine wpQuiet_nil ?_
          intro _ hw'
          obtain ⟨⟨wq, hq⟩, hw''⟩ := hw'
          subst hw''
          try dsimp only
          go_wp2
          go_roundw
          case rel => exact ⟨r + 1, by omega, by go_num, HACC, bT hbi hq⟩
          case measure => simp [intOf]; omega
      · obtain rfl : r = ch.length := by omega
        have H : Hid (fndI t.fs s p = -1) := chain_none htv hk hch (fun m j f e1 e2 => hacc.out m j f (List.getElem?_eq_some_iff.1 e1).1 e1 e2)
        go_wp2
        go_ret2
        exact ⟨_, by rw [H.out]; rfl, bT HB2.out hbi⟩
end Go.Proofs.YtnaagdmaggdbmaaGreatDoor
