/- A part of the proofs of this seat: KyP, Kys. -/
import Derived.Deep.CutRange
import Derived.Test.YtnaagdmaggdbmaaGreatDoorTMem
import Derived.Test.YtnaagdmaggdbmaaGreatDoorTEq
import Derived.Test.YtnaagdmaggdbmaaGreatDoorTKeep
import Derived.Test.YtnaagdmaggdbmaaGreatDoorTReg
set_option linter.unusedVariables false
set_option linter.unusedSimpArgs false
namespace Go.Proofs.YtnaagdmaggdbmaaGreatDoor
open Go.RowKit
def kb (a b : Key) : Bool := decide (a.1 < b.1) || (decide (a.1 = b.1) && decide (a.2 < b.2))
theorem kb_iff {a b : Key} : kb a b = true ↔ a.1 < b.1 ∨ (a.1 = b.1 ∧ a.2 < b.2) := by unfold kb; simp
theorem kb_no {a b : Key} : kb a b = false ↔ ¬ (a.1 < b.1 ∨ (a.1 = b.1 ∧ a.2 < b.2)) := by
 rw [← kb_iff]; simp
theorem kb_anti {a b : Key} (h1 : kb a b = false) (h2 : kb b a = false) : a = b := by
 rw [kb_no] at h1 h2
 have e1 : a.1 = b.1 := by omega
 have e2 : a.2 = b.2 := by omega
 exact Prod.ext e1 e2
theorem kb_asym {a b : Key} (h : kb a b = true) : kb b a = false := by
 rw [kb_iff] at h; rw [kb_no]; omega
theorem kb_ntrans {a b c : Key} (h1 : kb b a = false) (h2 : kb c b = false) : kb c a = false := by
 rw [kb_no] at h1 h2 ⊢; omega
def KSo (l : List Key) : Prop := l.Pairwise (fun a b => kb b a = false)
theorem kso_unique {l m : List Key} (hl : KSo l) (hm : KSo m) (hp : l.Perm m) : l = m := by
 induction l generalizing m with
 | nil => exact (List.nil_perm.1 hp).symm
 | cons x l ih =>
  cases m with
  | nil => exact absurd hp.length_eq (by simp)
  | cons y m =>
   unfold KSo at hl hm
   rw [List.pairwise_cons] at hl hm
   have hxy : x = y := by
    rcases List.mem_cons.1 (hp.mem_iff.1 (List.mem_cons_self (a := x) (l := l))) with h | h
    ·exact h
    ·rcases List.mem_cons.1 (hp.mem_iff.2 (List.mem_cons_self (a := y) (l := m))) with h2 | h2
     ·exact h2.symm
     ·exact kb_anti (hm.1 x h) (hl.1 y h2)
   subst hxy
   rw [ih hl.2 hm.2 (List.Perm.cons_inv hp)]
def insAt (l : List Key) (x : Key) (j : Nat) : List Key := l.take j ++ x :: l.drop j
theorem insAt_length {l : List Key} {x : Key} {j : Nat} (h : j ≤ l.length) : (insAt l x j).length = l.length + 1 := by
 unfold insAt; simp; omega
theorem insAt_end (l : List Key) (x : Key) : insAt l x l.length = l ++ [x] := by simp [insAt]
theorem insAt_perm (l : List Key) (x : Key) (j : Nat) : (insAt l x j).Perm (l ++ [x]) := by
 have h : (insAt l x j).Perm (x :: l) := by
  unfold insAt
  exact List.perm_middle.trans (by rw [List.take_append_drop])
 exact h.trans (List.perm_append_comm (l₁ := [x]) (l₂ := l))
theorem insAt_at {l : List Key} {x : Key} {i : Nat} (h : i ≤ l.length) (d : Key) : (insAt l x i).getD i d = x := by
 unfold insAt
 rw [List.getD_eq_getElem?_getD, List.getElem?_append_right (by simp; omega)]
 have : i - (l.take i).length = 0 := by simp; omega
 rw [this]; rfl
theorem insAt_before {l : List Key} {x : Key} {i j : Nat} (hj : i < j) (h : i < l.length) (d : Key) : (insAt l x j).getD i d = l[i] := by
 unfold insAt
 rw [List.getD_eq_getElem?_getD, List.getElem?_append_left (by simp; omega), List.getElem?_take, if_pos hj, List.getElem?_eq_getElem h]; rfl
theorem insAt_swap {l : List Key} {x : Key} {i : Nat} (h : i < l.length) : ((insAt l x (i + 1)).set (i + 1) l[i]).set i x = insAt l x i := by
 induction l generalizing i with
 | nil => simp at h
 | cons a l ih =>
  cases i with
  | zero => simp [insAt]
  | succ i =>
   have := ih (i := i) (by simpa using h)
   simp only [insAt] at this ⊢
   simp only [List.take_succ_cons, List.drop_succ_cons, List.cons_append, List.set_cons_succ, List.getElem_cons_succ]
   rw [this]
theorem kso_ins {l : List Key} {x : Key} {j : Nat} (hs : KSo l) (hj : j ≤ l.length) (ha : ∀ y ∈ l.drop j, kb x y = true) (hb : ∀ i, (h : i < l.length) → i + 1 = j → kb x l[i] = false) : KSo (insAt l x j) := by
 unfold KSo at hs
 have hs' := hs
 rw [← List.take_append_drop j l, List.pairwise_append] at hs
 obtain ⟨h1, h2, h3⟩ := hs
 unfold KSo insAt
 rw [List.pairwise_append]
 refine ⟨h1, List.pairwise_cons.2 ⟨fun y hy => kb_asym (ha y hy), h2⟩, fun a hta b hbb => ?_⟩
 rcases List.mem_cons.1 hbb with h | h
 ·subst h
  cases j with
  | zero => simp at hta
  | succ i =>
   have h5 := hb i (by omega) rfl
   obtain ⟨k, hk, e⟩ := List.mem_iff_getElem.1 hta
   rw [List.length_take] at hk
   rw [List.getElem_take] at e
   by_cases hki : k = i
   ·subst hki; rw [← e]; exact h5
   ·have h6 := List.pairwise_iff_getElem.1 hs' k i (by omega) (by omega) (by omega)
    rw [e] at h6
    exact kb_ntrans h6 h5
 ·exact h3 a hta b h
def keysL (fs : List Fr) : List Key := fs.filterMap (fun y => if y.used = true then some (y.s, y.p) else none)
theorem keysL_take {fs : List Fr} {k : Nat} {y : Fr} (h : fs[k]? = some y) : keysL (fs.take (k + 1)) = keysL (fs.take k) ++ (if y.used = true then [(y.s, y.p)] else []) := by
 unfold keysL
 rw [List.take_add_one, h, List.filterMap_append]
 congr 1
 simp only [Option.toList]
 cases hu : y.used <;> simp [hu]
theorem keysL_len (fs : List Fr) : (keysL fs).length ≤ fs.length := List.length_filterMap_le _ _
theorem keysL_mem {fs : List Fr} {x : Key} : x ∈ keysL fs ↔ ∃ (i : Nat) (y : Fr), fs[i]? = some y ∧ y.used = true ∧ (y.s, y.p) = x := by
 unfold keysL
 rw [List.mem_filterMap]
 constructor
 ·rintro ⟨y, hy, h⟩
  obtain ⟨i, hi⟩ := List.mem_iff_getElem?.1 hy
  cases hu : y.used with
  | true => exact ⟨i, y, hi, hu, by simpa [hu] using h⟩
  | false => simp [hu] at h
 ·rintro ⟨i, y, hi, hu, h⟩
  exact ⟨y, List.mem_of_getElem? hi, by simp [hu, h]⟩
def kins (l : List Key) (x : Key) : List Key := match l with
 | [] => [x]
 | y :: l => if kb x y = true then x :: y :: l else y :: kins l x
theorem kins_perm (l : List Key) (x : Key) : (kins l x).Perm (x :: l) := by
 induction l with
 | nil => exact List.Perm.refl _
 | cons y l ih =>
  unfold kins
  split
  ·exact List.Perm.refl _
  ·exact (List.Perm.cons y ih).trans (List.Perm.swap x y l)
theorem kins_so {l : List Key} {x : Key} (h : KSo l) : KSo (kins l x) := by
 induction l with
 | nil => simp [kins, KSo]
 | cons y l ih =>
  have h' := h
  unfold KSo at h
  rw [List.pairwise_cons] at h
  unfold kins
  split
  ·rename_i hx
   refine List.pairwise_cons.2 ⟨fun z hz => ?_, h'⟩
   rcases List.mem_cons.1 hz with e | e
   ·subst e; exact kb_asym hx
   ·exact kb_ntrans (kb_asym hx) (h.1 z e)
  ·rename_i hx
   refine List.pairwise_cons.2 ⟨fun z hz => ?_, ih h.2⟩
   rcases List.mem_cons.1 ((kins_perm l x).mem_iff.1 hz) with e | e
   ·subst e; simpa using hx
   ·exact h.1 z e
def ksrt (l : List Key) : List Key := l.foldl kins []
theorem ksrt_gen : ∀ (l a : List Key), KSo a → KSo (l.foldl kins a) ∧ (l.foldl kins a).Perm (a ++ l)
  | [], a, h => ⟨h, by simp⟩
  | x :: l, a, h => by
    obtain ⟨h1, h2⟩ := ksrt_gen l (kins a x) (kins_so h)
    refine ⟨h1, h2.trans (((kins_perm a x).append_right l).trans ?_)⟩
    exact List.perm_middle.symm
theorem ksrt_so (l : List Key) : KSo (ksrt l) := (ksrt_gen l [] List.Pairwise.nil).1
theorem ksrt_perm (l : List Key) : (ksrt l).Perm l := by unfold ksrt; simpa using (ksrt_gen l [] List.Pairwise.nil).2
theorem ksrt_of {l m : List Key} (h : KSo l) (hp : l.Perm m) : l = ksrt m := kso_unique h (ksrt_so m) (hp.trans (ksrt_perm m).symm)
theorem ksrt_length (l : List Key) : (ksrt l).length = l.length := (ksrt_perm l).length_eq
def kys (t : Tab) : List Key := if tv t = true then ksrt (keysL t.fs) else []
theorem kys_len (t : Tab) : (kys t).length ≤ t.fs.length := by
 unfold kys
 split
 ·rw [ksrt_length]; exact keysL_len _
 ·simp
end Go.Proofs.YtnaagdmaggdbmaaGreatDoor
namespace Go.Proofs.YtnaagdmaggdbmaaGreatDoor
open Go.RowKit
set_option maxRecDepth 1000000
set_option linter.unusedVariables false
theorem KeyBefore_any (a b c d : Int) (w : World) :
  Calls Tryz.prog 198 #[.agg #[.int .i64 a, .int .i64 b], .agg #[.int .i64 c, .int .i64 d]] w fun r w' => r = .returned (.bool (kb (a, b) (c, d))) ∧ Below w.heap.size w w' := by
 have hx := (Own.new_ w 36 #[.int .i64 a, .int .i64 b]).alloc (o := .cells #[.int .i64 c, .int .i64 d] 36)
 have hy := ownAt (W := w.alloc (.cells #[.int .i64 a, .int .i64 b] 36)) (g := w.heap.size + 1) (t := 36) (cs := #[.int .i64 c, .int .i64 d]) (by simp)
 have hb0 : Below w.heap.size w ((w.alloc (.cells #[.int .i64 a, .int .i64 b] 36)).alloc (.cells #[.int .i64 c, .int .i64 d] 36)) := bA (bA bR)
 generalize hW : (w.alloc (.cells #[.int .i64 a, .int .i64 b] 36)).alloc (.cells #[.int .i64 c, .int .i64 d] 36) = W0 at hx hy hb0
 have x0 := hx.cell_ 0 (v := .int .i64 a) rfl
 have x1 := hx.cell_ 1 (v := .int .i64 b) rfl
 have y0 := hy.cell_ 0 (v := .int .i64 c) rfl
 have y1 := hy.cell_ 1 (v := .int .i64 d) rfl
 have HB := Lib.hid hb0
 clear hx hy hb0
 go_enter Tryz.func198, Tryz.ntmps198
 cases h1 : decide (a < c) with
 | true =>
  have HZ : Hid (kb (a, b) (c, d) = true) := by show _ = _; unfold kb; rw [h1]; rfl
  go_wp2
  go_ret
  exact ⟨by rw [HZ.out]; rfl, HB.out⟩
 | false =>
  cases h2 : (a == c) with
  | true =>
   have HZ : Hid (kb (a, b) (c, d) = decide (b < d)) := by show _ = _; unfold kb; rw [h1]; have := beq_iff_eq.1 h2; subst this; simp
   go_wp2
   go_ret
   exact ⟨by rw [HZ.out]; rfl, HB.out⟩
  | false =>
   have HZ : Hid (kb (a, b) (c, d) = false) := by show _ = _; unfold kb; rw [h1]; have : a ≠ c := beq_eq_false_iff_ne.1 h2; simp [this]
   go_wp2
   go_ret
   exact ⟨by rw [HZ.out]; rfl, HB.out⟩
theorem kcells_set (l : List Key) (k : Nat) (a b : Int) (hk : k < l.length) : ((kcells l).set (k * 2) (.int .i64 a)).set (k * 2 + 1) (.int .i64 b) = kcells (l.set k (a, b)) := by
 induction l generalizing k with
 | nil => simp at hk
 | cons x l ih =>
  cases k with
  | zero => rfl
  | succ k =>
   have h := ih k (by simpa using hk)
   have e : kcells (x :: l) = .int .i64 x.1 :: .int .i64 x.2 :: kcells l := rfl
   have e2 : kcells ((x :: l).set (k + 1) (a, b)) = .int .i64 x.1 :: .int .i64 x.2 :: kcells (l.set k (a, b)) := rfl
   rw [e, e2, ← h, show (k + 1) * 2 = k * 2 + 1 + 1 by omega]
   rfl
theorem own_put {base g c n k : Nat} {e : TypeId} {w : World} {l : List Key} (h : w.ownsRow base e 2 (.slice (some ⟨g, 0, none⟩) n c) n (kcells l)) (hl : l.length = n) (hk : k < n) (a b : Int) :
  ((w.setCell ⟨g, k * 2, none⟩ (.int .i64 a)).setCell ⟨g, k * 2 + 1, none⟩ (.int .i64 b)).ownsRow base e 2 (.slice (some ⟨g, 0, none⟩) n c) n (kcells (l.set k (a, b))) := by
 obtain ⟨h1, h2⟩ := h
 rcases h2 with ⟨e1, _⟩ | ⟨g', cap, cur, e1, hb, ho, hc, hm, hs, ht⟩
 ·cases e1
 ·injection e1 with e1 _ e2
  injection e1 with e1
  injection e1 with e1
  subst e1 e2
  have o1 : Own w g e cur := ho
  have o3 := (o1.set_ (k * 2) (.int .i64 a)).set_ (k * 2 + 1) (.int .i64 b)
  refine ⟨by rw [← kcells_set l k a b (by omega)]; simpa using h1, .inr ⟨g, c, _, rfl, hb, o3, hc, hm, by simpa using hs, ?_⟩⟩
  rw [← kcells_set l k a b (by omega), ← ht]
  simp [List.take_set]
theorem kys_of {t : Tab} {l : List Key} {k : Nat} (hs : KSo l) (hp : l.Perm (keysL (t.fs.take k))) (hk : 0 < k → tv t = true) (he : tv t = false ∨ k = t.fs.length) : l = kys t := by
 by_cases htv : tv t = true
 ·have hke : k = t.fs.length := by rcases he with h | h; rw [h] at htv; cases htv; exact h
  rw [hke, List.take_length] at hp
  unfold kys
  rw [if_pos htv]
  exact ksrt_of hs hp
 ·have h0 : k = 0 := by
   rcases Nat.eq_zero_or_pos k with h | h
   ·exact h
   ·exact absurd (hk h) htv
  subst h0
  unfold kys
  rw [if_neg htv]
  exact List.perm_nil.1 (by simpa [keysL] using hp)
theorem kys_ins {t : Tab} {l : List Key} {k j : Nat} {y : Fr} (hs : KSo l) (hp : l.Perm (keysL (t.fs.take k))) (ey : t.fs[k]? = some y) (hu : y.used = true) (hj : j ≤ l.length) (ha : ∀ v ∈ l.drop j, kb (y.s, y.p) v = true) (hb : ∀ i, (h : i < l.length) → i + 1 = j → kb (y.s, y.p) l[i] = false) : KSo (insAt l (y.s, y.p) j) ∧ (insAt l (y.s, y.p) j).Perm (keysL (t.fs.take (k + 1))) := by
 refine ⟨kso_ins hs hj ha hb, (insAt_perm _ _ _).trans ?_⟩
 rw [keysL_take ey, if_pos hu]
 exact hp.append_right _
def kyok (x : Key) : Prop := 0 ≤ x.1 ∧ x.1 ≤ 15 ∧ 0 ≤ x.2 ∧ x.2 ≤ 255
theorem kyok_of {t : Tab} (h : tv t = true) {k : Nat} {y : Fr} (hk : t.fs[k]? = some y) (hu : y.used = true) : kyok (y.s, y.p) := by
 have h1 := (tv_TV.1 h).ok k y hk
 unfold frok at h1
 rw [if_pos hu, Bool.and_eq_true] at h1
 have h2 := h1.1
 unfold kval at h2
 unfold kyok
 simp [inR] at h2
 simp only
 omega
theorem kys_ok {t : Tab} {x : Key} (h : x ∈ kys t) : kyok x ∧ tv t = true := by
 unfold kys at h
 split at h
 ·rename_i htv
  obtain ⟨i, y, hi, hu, rfl⟩ := keysL_mem.1 ((ksrt_perm _).mem_iff.1 h)
  exact ⟨kyok_of htv hi hu, htv⟩
 ·simp at h
theorem own_keyat {base g c n k : Nat} {e : TypeId} {w : World} {l : List Key} (h : w.ownsRow base e 2 (.slice (some ⟨g, 0, none⟩) n c) n (kcells l)) (hl : l.length = n) (hk : k < n) :
  w.cell? ⟨g, k * 2, none⟩ = some (.int .i64 (l.getD k (0, 0)).1) ∧ w.cell? ⟨g, k * 2 + 1, none⟩ = some (.int .i64 (l.getD k (0, 0)).2) ∧ w.frozen? ⟨g, k * 2, none⟩ = false ∧ w.frozen? ⟨g, k * 2 + 1, none⟩ = false ∧ g < w.heap.size := by
 obtain ⟨A, c', e1, _, _, hr⟩ := own_rd h
 injection e1 with e1 _ _
 subst e1
 have hr' : Ks w.heap.size w (some ⟨g, 0, none⟩) l := by unfold Ks; rw [hl]; exact hr
 obtain ⟨b, o, e2, hb, h3, h4⟩ := hr'.key (k := k) (by omega)
 injection e2 with e2
 injection e2 with e2 e3
 subst e2 e3
 have hg : l.getD k (0, 0) = l[k]'(by omega) := by rw [List.getD_eq_getElem?_getD, List.getElem?_eq_getElem (by omega)]; rfl
 rw [Nat.zero_add] at h3
 have h4' : w.cell? ⟨g, k * 2 + 1, none⟩ = some (.int .i64 (l[k]'(by omega)).2) := by rw [← h4]; congr 2; omega
 obtain ⟨h1, h2⟩ := h
 rcases h2 with ⟨e1, _⟩ | ⟨g', cap, cur, e1, _, ho, _⟩
 ·cases e1
 ·injection e1 with e1 _ _
  injection e1 with e1
  injection e1 with e1
  subst e1
  have o1 : Own w g e cur := ho
  exact ⟨by rw [hg]; exact h3, by rw [hg]; exact h4', o1.free _, o1.free _, hb⟩
set_option maxHeartbeats 4000000 in
theorem KeysOf_any (vb vf : Value) (t : Tab) (w : World) (hT : TaR w vb vf t) (hsz : t.fs.length ≤ 1000) :
  Calls Tryz.prog 136 #[.agg #[vb, vf]] w (Post2 fun v w' => w'.ownsRow w.heap.size 36 2 v (kys t).length (kcells (kys t)) ∧ Below w.heap.size w w') := by
 obtain ⟨Ab, cb, rfl, _⟩ := id hT.b
 obtain ⟨Af, cf, rfl, hbc, hbm, hL⟩ := id hT.f
 have HT := Lib.hid hT
 have HL := Lib.hid hL
 clear hT hL
 have ho := Own.new_ w 26 #[.slice Ab t.bs.length cb, .slice Af t.fs.length cf]
 have hb0 : Below w.heap.size w (w.alloc (.cells #[.slice Ab t.bs.length cb, .slice Af t.fs.length cf] 26)) := bA bR
 have hs0 : (w.alloc (.cells #[.slice Ab t.bs.length cb, .slice Af t.fs.length cf] 26)).heap.size = w.heap.size + 1 := by simp
 have hx := owns_lit (base := w.heap.size + 1) (e := 36) (w.alloc (.cells #[.slice Ab t.bs.length cb, .slice Af t.fs.length cf] 26)) 2 (by omega)
 rw [hs0] at hx
 have ho1 := ho.alloc (o := .cells #[] 36)
 have hb1 : Below w.heap.size w ((w.alloc (.cells #[.slice Ab t.bs.length cb, .slice Af t.fs.length cf] 26)).alloc (.cells #[] 36)) := bA (bA bR)
 generalize hW : (w.alloc (.cells #[.slice Ab t.bs.length cb, .slice Af t.fs.length cf] 26)).alloc (.cells #[] 36) = W0 at hx ho1 hb1
 have HX := Lib.hid hx
 have HO := Lib.hid ho1
 have HB := Lib.hid hb1
 clear hx ho ho1 hb0 hb1
 go_enter Tryz.func136, Tryz.ntmps136
 go_wp2
 go_loopw [3, 4] (fun out u wr => ∃ (k : Nat) (l : List Key), k ≤ t.fs.length ∧ u = .int .i64 k ∧ l.length ≤ k ∧ Hid (KSo l ∧ l.Perm (keysL (t.fs.take k)) ∧ (0 < k → tv t = true)) ∧ Hid (wr.ownsRow (w.heap.size + 1) 36 2 out l.length (kcells l)) ∧ Hid (Own wr w.heap.size 26 #[.slice Ab t.bs.length cb, .slice Af t.fs.length cf]) ∧ Hid (Below w.heap.size w wr)) (fun _ u _ => t.fs.length - (intOf u).toNat)
 case atStart => exact ⟨0, [], by omega, rfl, by simp, Lib.hid ⟨List.Pairwise.nil, by simp [keysL], fun h => absurd h (by omega)⟩, HX, HO, HB⟩
 case round =>
  obtain ⟨k, l, hk, rfl, hlk, HP, HX, HO, HB⟩ := hrel
  have o0 := HO.out.cell_ 0 (v := .slice Ab t.bs.length cb) rfl
  have o1 := HO.out.cell_ 1 (v := .slice Af t.fs.length cf) rfl
  have hlo := HO.out.lt
  by_cases hlt : k < t.fs.length
  ·have hki : (k : Int) < (t.fs.length : Int) := by omega
   go_wp2_with fail
   refine (sTableValid_any _ _ t wr (HT.out.now HB.out)).mono ?_
   rintro e w2 ⟨rfl, hb2⟩
   have HO2 := Lib.hid (HO.out.below hb2)
   have HX2 := Lib.hid (own_kept HX.out hb2)
   have HB2 := Lib.hid (bT HB.out hb2)
   clear o0 o1 hlo HO HX HB hb2
   have o0 := HO2.out.cell_ 0 (v := .slice Ab t.bs.length cb) rfl
   have o1 := HO2.out.cell_ 1 (v := .slice Af t.fs.length cf) rfl
   have hlo := HO2.out.lt
   cases htv : tv t with
   | false =>
    have HE : Hid (l = kys t) := Lib.hid (kys_of HP.out.1 HP.out.2.1 HP.out.2.2 (.inl htv))
    go_wp2
    go_ret
    exact ⟨_, rfl, by rw [← HE.out]; exact own_mono HX2.out (by omega), HB2.out⟩
   | true =>
    obtain ⟨y, ey⟩ : ∃ y, t.fs[k]? = some y := ⟨_, List.getElem?_eq_getElem hlt⟩
    have hfs := (HT.out.now HB2.out).fsl
    obtain ⟨bq, oq, rfl, hbq, y0, y1, y2, y3, y4⟩ := hfs.fr ey
    clear hfs
    have hk0 : (0 : Int) ≤ (k : Int) := by omega
    have HEY := Lib.hid ey
    clear ey
    cases hu : y.used with
    | false =>
     rw [hu] at y0
     have HP2 : Hid (KSo l ∧ l.Perm (keysL (t.fs.take (k + 1))) ∧ (0 < k + 1 → tv t = true)) := Lib.hid ⟨HP.out.1, by rw [keysL_take HEY.out, hu]; simpa using HP.out.2.1, fun _ => htv⟩
     go_wp2
     go_roundw
     case rel => exact ⟨k + 1, l, by omega, by simp, by omega, HP2, HX2, HO2, HB2⟩
     case measure => simp [intOf]; omega
    | true =>
     rw [hu] at y0
     have HU := Lib.hid hu
     have HTV := Lib.hid htv
     have hsz2 : w.heap.size + 1 ≤ w2.heap.size := hlo
     obtain ⟨A8, c8, rfl, _⟩ := own_rd HX2.out
     obtain ⟨v7, w7, hrun, hown7, hg7, _⟩ := run_append_key (w.heap.size + 1) w2 (.slice A8 l.length c8) l.length l y.s y.p HX2.out rfl (by omega) hsz2
     have hbl : ∀ b, (Value.slice A8 l.length c8).ownBlock = some b → w.heap.size + 1 ≤ b := own_block HX2.out
     have ho7 := own_other (HO2.out.alloc (o := .cells #[.int .i64 y.s, .int .i64 y.p] 36)) hg7 (fun h2 => by have := hbl _ h2.symm; omega)
     have hb7 := bG (bA HB2.out (o := .cells #[.int .i64 y.s, .int .i64 y.p] 36)) hg7 (fun b hb => by have := hbl b hb; omega)
     obtain ⟨g7, c7, rfl⟩ : ∃ g7 c7, v7 = .slice (some ⟨g7, 0, none⟩) (l.length + 1) c7 := by
      rcases hown7.2 with ⟨_, e⟩ | ⟨g, cap, cur, e, _⟩
      ·omega
      ·exact ⟨g, cap, e⟩
     have hg8 : w.heap.size + 1 ≤ g7 := own_block hown7 g7 rfl
     rw [← insAt_end] at hown7
     have HX7 := Lib.hid hown7
     have HO7 := Lib.hid ho7
     have HB7 := Lib.hid hb7
     clear hown7 hg7 hbl ho7 hb7 HX2 HO2 HB2
     go_wp2_with (at_builtin; refine wpList_append_run _ rfl (.tmp 26) (.tmp 33) 166 rfl _ _ _ _ rfl rfl hrun ?_)
     clear hrun
     go_loopw [5] (fun u wi => ∃ j : Nat, u = .int .i64 j ∧ j ≤ l.length ∧ Hid (∀ v ∈ l.drop j, kb (y.s, y.p) v = true) ∧ Hid (wi.ownsRow (w.heap.size + 1) 36 2 (.slice (some ⟨g7, 0, none⟩) (l.length + 1) c7) (l.length + 1) (kcells (insAt l (y.s, y.p) j))) ∧ Hid (Own wi w.heap.size 26 #[.slice Ab t.bs.length cb, .slice (some ⟨bq, oq, none⟩) t.fs.length cf]) ∧ Hid (Below w.heap.size w wi)) (fun u _ => (intOf u).toNat)
     case atStart => exact ⟨l.length, by simp, by omega, Lib.hid (by simp), HX7, HO7, HB7⟩
     case round =>
      obtain ⟨j, rfl, hj, HP8, HX8, HO8, HB8⟩ := hrel
      clear HX7 HO7 HB7 y0 y1 y2 y3 y4 o0 o1 hlo hu htv
      have hl' := insAt_length (x := (y.s, y.p)) hj
      by_cases hj0 : 0 < j
      ·obtain ⟨i, rfl⟩ : ∃ i, j = i + 1 := ⟨j - 1, by omega⟩
       have hji : (0 : Int) < (i : Int) + 1 := by omega
       have hjc : (i : Int) + 1 - 1 = (i : Int) := by omega
       have hjn : ((i : Int) + 1).toNat = i + 1 := by omega
       have hbd1 : (i : Int) + 1 < (l.length : Int) + 1 := by omega
       have hbd2 : (i : Int) < (l.length : Int) + 1 := by omega
       have hbd3 : (0 : Int) ≤ (i : Int) + 1 := by omega
       have hbd4 : i < l.length + 1 := by omega
       have hwi : IntKind.i64.wrap (i : Int) = i := IntWalk.i64_in _ (by omega)
       have hbd5 : i ≤ l.length := by omega
       have hbd6 : decide (i < l.length + 1) = true := by simp; omega
       have hil : i < l.length := by omega
       obtain ⟨a0, a1, a2, a3, a4⟩ := own_keyat HX8.out hl' (k := i + 1) (by omega)
       obtain ⟨b0, b1, b2, b3, _⟩ := own_keyat HX8.out hl' (k := i) (by omega)
       rw [insAt_at hj] at a0 a1
       rw [insAt_before (Nat.lt_succ_self i) hil] at b0 b1
       dsimp only at a0 a1
       obtain ⟨u2, hu2⟩ : ∃ u, l[i] = u := ⟨_, rfl⟩
       rw [hu2] at b0 b1
       have HU2 := Lib.hid hu2
       have HL' := Lib.hid hl'
       clear hu2 hl'
       have hi0 : (0 : Int) ≤ (i : Int) := by omega
       have hi1 : (i : Int) < ((l.length + 1 : Nat) : Int) := by omega
       have hi2 : ((i + 1 : Nat) : Int) < ((l.length + 1 : Nat) : Int) := by omega
       have hi3 : (0 : Int) ≤ ((i + 1 : Nat) : Int) := by omega
       go_wp2
       go_still_tail 12, (by kernel_rfl)
       go_wp2_with fail
       refine (KeyBefore_any _ _ _ _ _).mono ?_
       rintro _ w9 ⟨rfl, hbz⟩
       have hbw : Below wr.heap.size wr w9 := bT (bD bR) hbz
       have HX9 := Lib.hid (own_kept HX8.out hbw)
       have HO9 := Lib.hid (HO8.out.below hbw)
       have HB9 := Lib.hid (bT HB8.out hbw)
       clear HX8 HO8 HB8 hbz hbw a0 a1 a2 a3 a4 b0 b1 b2 b3
       cases hz : kb (y.s, y.p) (u2.1, u2.2) with
       | false =>
        have HPN := Lib.hid (kys_ins HP.out.1 HP.out.2.1 HEY.out HU.out hj HP8.out (fun i' h e => by have hii : i' = i := (by omega); subst hii; rw [HU2.out]; exact hz))
        go_wp2
        go_roundw
        case rel => exact ⟨k + 1, insAt l (y.s, y.p) (i + 1), by omega, by simp, by rw [HL'.out]; omega, Lib.hid ⟨HPN.out.1, HPN.out.2, fun _ => HTV.out⟩, by (show World.ownsRow _ _ _ _ _ _ _; rw [HL'.out]; exact HX9.out), HO9, HB9⟩
        case measure => simp [intOf]; omega
       | true =>
        obtain ⟨a0, a1, a2, a3, a4⟩ := own_keyat HX9.out HL'.out (k := i + 1) (by omega)
        obtain ⟨b0, b1, b2, b3, _⟩ := own_keyat HX9.out HL'.out (k := i) (by omega)
        rw [insAt_at hj] at a0 a1
        rw [insAt_before (Nat.lt_succ_self i) hil, HU2.out] at b0 b1
        dsimp only at a0 a1
        have hne : w.heap.size ≠ g7 := by omega
        have hneA : w9.heap.size ≠ g7 := by omega
        have hXA := HX9.out.alloc (.cells #[.int .i64 y.s, .int .i64 y.p] 36)
        have hOA := Own.new_ w9 36 #[.int .i64 y.s, .int .i64 y.p]
        have hX11 := own_put hXA HL'.out (k := i + 1) (by omega) u2.1 u2.2
        have hO11 := (hOA.far (p := ⟨g7, (i + 1) * 2, none⟩) (u := .int .i64 u2.1) hneA).far (p := ⟨g7, (i + 1) * 2 + 1, none⟩) (u := .int .i64 u2.2) hneA
        have hX10 := own_put hX11 (by simpa using HL'.out) (k := i) (by omega) y.s y.p
        rw [show ((insAt l (y.s, y.p) (i + 1)).set (i + 1) (u2.1, u2.2)).set i (y.s, y.p) = insAt l (y.s, y.p) i by rw [← insAt_swap hil, HU2.out]] at hX10
        have hO10 := ((((HO9.out.alloc (o := .cells #[.int .i64 y.s, .int .i64 y.p] 36)).far (p := ⟨g7, (i + 1) * 2, none⟩) (u := .int .i64 u2.1) hne).far (p := ⟨g7, (i + 1) * 2 + 1, none⟩) (u := .int .i64 u2.2) hne).far (p := ⟨g7, i * 2, none⟩) (u := .int .i64 y.s) hne).far (p := ⟨g7, i * 2 + 1, none⟩) (u := .int .i64 y.p) hne
        have hgw : w.heap.size ≤ g7 := by omega
        have hB10 := bS (bS (bS (bS (bA HB9.out (o := .cells #[.int .i64 y.s, .int .i64 y.p] 36)) (p := ⟨g7, (i + 1) * 2, none⟩) (u := .int .i64 u2.1) hgw) (p := ⟨g7, (i + 1) * 2 + 1, none⟩) (u := .int .i64 u2.2) hgw) (p := ⟨g7, i * 2, none⟩) (u := .int .i64 y.s) hgw) (p := ⟨g7, i * 2 + 1, none⟩) (u := .int .i64 y.p) hgw
        have HP10 : Hid (∀ v ∈ l.drop i, kb (y.s, y.p) v = true) := by
         intro v hv
         rw [List.drop_eq_getElem_cons hil] at hv
         rcases List.mem_cons.1 hv with h | h
         ·rw [h, HU2.out]; exact hz
         ·exact HP8.out v h
        have HXA := Lib.hid hXA
        have HOA := Lib.hid hOA
        have HX11 := Lib.hid hX11
        have HO11 := Lib.hid hO11
        have HX10 := Lib.hid hX10
        have HO10 := Lib.hid hO10
        have HB10 := Lib.hid hB10
        clear hX10 hO10 hB10 hXA hOA hX11 hO11 HX9 HO9 HB9 HP8
        go_upto_region 11 with fail
        clear a0 a1 a2 a3 a4 b0 b1 b2 b3
        generalize w9.alloc (.cells #[.int .i64 y.s, .int .i64 y.p] 36) = wA at *
        obtain ⟨a0, a1, a2, a3, a4⟩ := own_keyat HXA.out HL'.out (k := i + 1) (by omega)
        obtain ⟨b0, b1, b2, b3, _⟩ := own_keyat HXA.out HL'.out (k := i) (by omega)
        rw [insAt_at hj] at a0 a1
        rw [insAt_before (Nat.lt_succ_self i) hil, HU2.out] at b0 b1
        go_upto_region 12 with fail
        clear a0 a1 a2 a3 a4 b0 b1 b2 b3 HXA HOA
        generalize (wA.setCell ⟨g7, (i + 1) * 2, none⟩ (.int .i64 u2.1)).setCell ⟨g7, (i + 1) * 2 + 1, none⟩ (.int .i64 u2.2) = wB at *
        obtain ⟨b0, b1, b2, b3, b4⟩ := own_keyat HX11.out (by simpa using HL'.out) (k := i) (by omega)
        have t0 := HO11.out.cell_ 0 (v := .int .i64 y.s) rfl
        have t1 := HO11.out.cell_ 1 (v := .int .i64 y.p) rfl
        go_wp2
        go_roundw
        case rel => exact ⟨i, by simp, by omega, HP10, HX10, HO10, HB10⟩
        case measure => simp [intOf]
      ·obtain rfl : j = 0 := by omega
       have HPN := Lib.hid (kys_ins HP.out.1 HP.out.2.1 HEY.out HU.out hj HP8.out (fun i' h e => absurd e (by omega)))
       have HL' := Lib.hid hl'
       clear hl'
       go_wp2
       go_quiet (fail)
       have HX9 := Lib.hid (own_kept HX8.out (bDN bR (n := nq)))
       have HO9 := Lib.hid (HO8.out.below (bDN bR (n := nq)))
       have HB9 := Lib.hid (bT HB8.out (bDN bR (n := nq)))
       go_wp2
       go_roundw
       case rel => exact ⟨k + 1, insAt l (y.s, y.p) 0, by omega, by simp, by rw [HL'.out]; omega, Lib.hid ⟨HPN.out.1, HPN.out.2, fun _ => HTV.out⟩, by (show World.ownsRow _ _ _ _ _ _ _; rw [HL'.out]; exact HX9.out), HO9, HB9⟩
       case measure => simp [intOf]; omega
  ·obtain rfl : k = t.fs.length := by omega
   have hki : decide ((t.fs.length : Int) < (t.fs.length : Int)) = false := by simp
   have HE : Hid (l = kys t) := Lib.hid (kys_of HP.out.1 HP.out.2.1 HP.out.2.2 (.inr rfl))
   go_wp2
   go_ret
   exact ⟨_, rfl, by rw [← HE.out]; exact own_mono HX.out (by omega), HB.out⟩
end Go.Proofs.YtnaagdmaggdbmaaGreatDoor
