/- A part of the proofs of this seat: Ffr, MeM, MeV, RgK. -/
import Derived.ArgAppend
import Derived.Deep.CutRange
import Derived.Test.YtfbnokjdkhcgoaaGreatDoorVMeP
set_option linter.unusedVariables false
set_option linter.unusedSimpArgs false
set_option maxRecDepth 1000000
namespace Go.Proofs.YtfbnokjdkhcgoaaGreatDoor
open Go.RowKit
theorem bo_info : (Tryz.prog.info? 4).map (fun i => (i.zero, i.size, i.bytes)) = some (some (.bool false), 1, 1) := by kernel_rfl
theorem Rd.b1 {B : Nat} {w : World} {A : Option Addr} {l : List Bool} (h : Rs boE B w A l) {k : Nat} {x : Bool} (hk : l[k]? = some x) :
  ∃ b o, A = some ⟨b, o, none⟩ ∧ b < B ∧ w.cell? ⟨b, o + k, none⟩ = some (.bool x) := by
 obtain ⟨b, o, e, hb, hc⟩ := h.el hk
 have := hc 0 _ rfl
 exact ⟨b, o, e, hb, by simpa [boE] using this⟩
structure MeR (w : World) (vb vf vl vo vk : Value) (M : Me) : Prop where
 m : MaR w vb vf vl vo M.m
 k : SlR boE w vk M.mk
structure MeM (base : Nat) (w : World) (vb vf vl vo vk : Value) (M : Me) : Prop where
 m : MaM base w vb vf vl vo M.m
 k : SlM boE 4 base w vk M.mk
section
variable {base : Nat} {w w' : World} {vb vf vl vo vk : Value} {M : Me}
theorem MeM.r (h : MeM base w vb vf vl vo vk M) : MeR w vb vf vl vo vk M := ⟨h.m.r, h.k.r⟩
theorem MeR.now (h : MeR w vb vf vl vo vk M) (hb : Below w.heap.size w w') : MeR w' vb vf vl vo vk M := ⟨h.m.now hb, h.k.now hb⟩
theorem MeM.now (h : MeM base w vb vf vl vo vk M) (hb : Below w.heap.size w w') : MeM base w' vb vf vl vo vk M := ⟨h.m.now hb, h.k.now hb⟩
theorem MeM.mono {B' : Nat} (h : MeM base w vb vf vl vo vk M) (hb : B' ≤ base) : MeM B' w vb vf vl vo vk M := ⟨h.m.mono hb, h.k.mono hb⟩
theorem MeM.oth {p : TypeId → Prop} (h : MeM base w vb vf vl vo vk M) (ho : Oth p w w') (h1 : ¬ p 3) (h2 : ¬ p 80) (h3 : ¬ p 50) (h4 : ¬ p 186) (h5 : ¬ p 4) : MeM base w' vb vf vl vo vk M :=
 ⟨h.m.oth ho h1 h2 h3 h4, h.k.oth ho h5⟩
theorem mem_z : MeM base w (.slice none 0 0) (.slice none 0 0) (.slice none 0 0) (.slice none 0 0) (.slice none 0 0) mez := ⟨mam_z, SlM.nil_ _⟩
end
def sets (g : Nat) : Nat → List Value → World → World
 | _, [], w => w
 | i, u :: us, w => sets g (i + 1) us (w.setCell ⟨g, i, none⟩ u)
def setA : Nat → List Value → Array Value → Array Value
 | _, [], cs => cs
 | i, u :: us, cs => setA (i + 1) us (cs.setIfInBounds i u)
section
variable {g : Nat} {t : TypeId}
theorem Own.sets : ∀ {us : List Value} {i : Nat} {w : World} {cs : Array Value}, Own w g t cs → Own (sets g i us w) g t (setA i us cs)
 | [], _, _, _, h => h
 | u :: us, i, _, _, h => Own.sets (us := us) (i := i + 1) (h.set_ i u)
theorem Own.fars {h : Nat} {t' : TypeId} {cs : Array Value} (hne : h ≠ g) : ∀ {us : List Value} {i : Nat} {w : World}, Own w h t' cs → Own (Go.Proofs.YtfbnokjdkhcgoaaGreatDoor.sets g i us w) h t' cs
 | [], _, _, o => o
 | u :: us, i, _, o => Own.fars hne (us := us) (i := i + 1) (o.far (p := ⟨g, i, none⟩) (u := u) hne)
theorem sets_below {a : World} (hg : a.heap.size ≤ g) : ∀ {us : List Value} {i : Nat} {w : World}, Below a.heap.size a w → Below a.heap.size a (sets g i us w)
 | [], _, _, o => o
 | u :: us, i, _, o => sets_below hg (us := us) (i := i + 1) (bS o (p := ⟨g, i, none⟩) (u := u) hg)
theorem sets_oth : ∀ {us : List Value} {i : Nat} {w : World} {cs : Array Value}, Own w g t cs → Oth (fun e => e = t) w (sets g i us w)
  | [], _, _, _, _ => Oth.of_below bR
  | u :: us, i, w, cs, o => by
    have h1 := (stS_set (n := cs.size) (i := i) (u := u) o).1
    have h2 := sets_oth (us := us) (i := i + 1) (o.set_ i u)
    have h3 := h1.trans h2
    exact ⟨h3.1, fun g e cs o hn => h3.2 g e cs o (fun h => hn (h.elim id id))⟩
theorem sets_size : ∀ {us : List Value} {i : Nat} {w : World}, (sets g i us w).heap.size = w.heap.size
  | [], _, _ => rfl
  | u :: us, i, w => by
    show (sets g (i + 1) us _).heap.size = _
    rw [sets_size]; simp
variable {w : World} {a0 a1 a2 a3 a4 a5 a6 a7 a8 a9 a10 : Value}
theorem c11 (h : Own w g t #[a0, a1, a2, a3, a4, a5, a6, a7, a8, a9, a10]) : w.cell? ⟨g, 0, none⟩ = some a0 ∧ w.cell? ⟨g, 1, none⟩ = some a1 ∧ w.cell? ⟨g, 2, none⟩ = some a2 ∧ w.cell? ⟨g, 3, none⟩ = some a3 ∧ w.cell? ⟨g, 4, none⟩ = some a4 ∧ w.cell? ⟨g, 5, none⟩ = some a5 ∧ w.cell? ⟨g, 6, none⟩ = some a6 ∧ w.cell? ⟨g, 7, none⟩ = some a7 ∧ w.cell? ⟨g, 8, none⟩ = some a8 ∧ w.cell? ⟨g, 9, none⟩ = some a9 ∧ w.cell? ⟨g, 10, none⟩ = some a10 :=
 ⟨h.cell_ 0 rfl, h.cell_ 1 rfl, h.cell_ 2 rfl, h.cell_ 3 rfl, h.cell_ 4 rfl, h.cell_ 5 rfl, h.cell_ 6 rfl, h.cell_ 7 rfl, h.cell_ 8 rfl, h.cell_ 9 rfl, h.cell_ 10 rfl⟩
theorem f11 {cs : Array Value} (h : Own w g t cs) : w.frozen? ⟨g, 0, none⟩ = false ∧ w.frozen? ⟨g, 1, none⟩ = false ∧ w.frozen? ⟨g, 2, none⟩ = false ∧ w.frozen? ⟨g, 3, none⟩ = false ∧ w.frozen? ⟨g, 4, none⟩ = false ∧ w.frozen? ⟨g, 5, none⟩ = false ∧ w.frozen? ⟨g, 6, none⟩ = false ∧ w.frozen? ⟨g, 7, none⟩ = false ∧ w.frozen? ⟨g, 8, none⟩ = false ∧ w.frozen? ⟨g, 9, none⟩ = false ∧ w.frozen? ⟨g, 10, none⟩ = false :=
 ⟨h.free 0, h.free 1, h.free 2, h.free 3, h.free 4, h.free 5, h.free 6, h.free 7, h.free 8, h.free 9, h.free 10⟩
theorem set11 (h : Own w g t #[a0, a1, a2, a3, a4, a5, a6, a7, a8, a9, a10]) (u0 u1 u2 u3 u4 u5 u6 u7 u8 u9 u10 : Value) : Own (sets g 0 [u0, u1, u2, u3, u4, u5, u6, u7, u8, u9, u10] w) g t #[u0, u1, u2, u3, u4, u5, u6, u7, u8, u9, u10] := by
 have := h.sets (us := [u0, u1, u2, u3, u4, u5, u6, u7, u8, u9, u10]) (i := 0)
 simpa [setA] using this
theorem set9_11 (h : Own w g t #[a0, a1, a2, a3, a4, a5, a6, a7, a8, a9, a10]) (u0 u1 u2 u3 u4 u5 u6 u7 u8 : Value) : Own (sets g 0 [u0, u1, u2, u3, u4, u5, u6, u7, u8] w) g t #[u0, u1, u2, u3, u4, u5, u6, u7, u8, a9, a10] := by
 have := h.sets (us := [u0, u1, u2, u3, u4, u5, u6, u7, u8]) (i := 0)
 simpa [setA] using this
theorem put9 (h : Own w g t #[a0, a1, a2, a3, a4, a5, a6, a7, a8, a9, a10]) (u0 u1 u2 u3 u4 u5 u6 u7 u8 : Value) : ∃ W, ((((((((w.setCell ⟨g, 0, none⟩ u0).setCell ⟨g, 1, none⟩ u1).setCell ⟨g, 2, none⟩ u2).setCell ⟨g, 3, none⟩ u3).setCell ⟨g, 4, none⟩ u4).setCell ⟨g, 5, none⟩ u5).setCell ⟨g, 6, none⟩ u6).setCell ⟨g, 7, none⟩ u7).setCell ⟨g, 8, none⟩ u8 = W ∧ Own W g t #[u0, u1, u2, u3, u4, u5, u6, u7, u8, a9, a10] ∧ Oth (fun e => e = t) w W ∧ W.heap.size = w.heap.size ∧ (∀ (h' : Nat) (t' : TypeId) (cs : Array Value), h' ≠ g → Own w h' t' cs → Own W h' t' cs) ∧ (∀ a : World, a.heap.size ≤ g → Below a.heap.size a w → Below a.heap.size a W) :=
 ⟨sets g 0 [u0, u1, u2, u3, u4, u5, u6, u7, u8] w, rfl, set9_11 h u0 u1 u2 u3 u4 u5 u6 u7 u8, sets_oth h, sets_size, fun _ _ _ hne o => Own.fars hne o, fun _ hg hb => sets_below hg hb⟩
theorem put11 (h : Own w g t #[a0, a1, a2, a3, a4, a5, a6, a7, a8, a9, a10]) (u0 u1 u2 u3 u4 u5 u6 u7 u8 u9 u10 : Value) : ∃ W, ((((((((((w.setCell ⟨g, 0, none⟩ u0).setCell ⟨g, 1, none⟩ u1).setCell ⟨g, 2, none⟩ u2).setCell ⟨g, 3, none⟩ u3).setCell ⟨g, 4, none⟩ u4).setCell ⟨g, 5, none⟩ u5).setCell ⟨g, 6, none⟩ u6).setCell ⟨g, 7, none⟩ u7).setCell ⟨g, 8, none⟩ u8).setCell ⟨g, 9, none⟩ u9).setCell ⟨g, 10, none⟩ u10 = W ∧ Own W g t #[u0, u1, u2, u3, u4, u5, u6, u7, u8, u9, u10] ∧ Oth (fun e => e = t) w W ∧ W.heap.size = w.heap.size ∧ (∀ (h' : Nat) (t' : TypeId) (cs : Array Value), h' ≠ g → Own w h' t' cs → Own W h' t' cs) ∧ (∀ a : World, a.heap.size ≤ g → Below a.heap.size a w → Below a.heap.size a W) :=
 ⟨sets g 0 [u0, u1, u2, u3, u4, u5, u6, u7, u8, u9, u10] w, rfl, set11 h u0 u1 u2 u3 u4 u5 u6 u7 u8 u9 u10, sets_oth h, sets_size, fun _ _ _ hne o => Own.fars hne o, fun _ hg hb => sets_below hg hb⟩
theorem put1_9 (h : Own w g t #[a0, a1, a2, a3, a4, a5, a6, a7, a8, a9, a10]) (u : Value) : ∃ W, w.setCell ⟨g, 9, none⟩ u = W ∧ Own W g t #[a0, a1, a2, a3, a4, a5, a6, a7, a8, u, a10] ∧ Oth (fun e => e = t) w W ∧ W.heap.size = w.heap.size ∧ (∀ (h' : Nat) (t' : TypeId) (cs : Array Value), h' ≠ g → Own w h' t' cs → Own W h' t' cs) ∧ (∀ a : World, a.heap.size ≤ g → Below a.heap.size a w → Below a.heap.size a W) :=
 ⟨sets g 9 [u] w, rfl, by simpa [setA] using h.sets (us := [u]) (i := 9), sets_oth h, sets_size, fun _ _ _ hne o => Own.fars hne o, fun _ hg hb => sets_below hg hb⟩
theorem put1_10 (h : Own w g t #[a0, a1, a2, a3, a4, a5, a6, a7, a8, a9, a10]) (u : Value) : ∃ W, w.setCell ⟨g, 10, none⟩ u = W ∧ Own W g t #[a0, a1, a2, a3, a4, a5, a6, a7, a8, a9, u] ∧ Oth (fun e => e = t) w W ∧ W.heap.size = w.heap.size ∧ (∀ (h' : Nat) (t' : TypeId) (cs : Array Value), h' ≠ g → Own w h' t' cs → Own W h' t' cs) ∧ (∀ a : World, a.heap.size ≤ g → Below a.heap.size a w → Below a.heap.size a W) :=
 ⟨sets g 10 [u] w, rfl, by simpa [setA] using h.sets (us := [u]) (i := 10), sets_oth h, sets_size, fun _ _ _ hne o => Own.fars hne o, fun _ hg hb => sets_below hg hb⟩
end
theorem MeM.sets {base g i : Nat} {w : World} {vb vf vl vo vk : Value} {M : Me} {cs : Array Value} {us : List Value} (h : MeM base w vb vf vl vo vk M) (ho : Own w g 37 cs) : MeM base (Go.Proofs.YtfbnokjdkhcgoaaGreatDoor.sets g i us w) vb vf vl vo vk M :=
 h.oth (sets_oth ho) (by decide) (by decide) (by decide) (by decide) (by decide)
theorem MaM.sets {base g i : Nat} {w : World} {vb vf vl vo : Value} {m : Ma} {cs : Array Value} {us : List Value} (h : MaM base w vb vf vl vo m) (ho : Own w g 37 cs) : MaM base (Go.Proofs.YtfbnokjdkhcgoaaGreatDoor.sets g i us w) vb vf vl vo m :=
 h.oth (sets_oth ho) (by decide) (by decide) (by decide) (by decide)
theorem MeM.othm {base : Nat} {w w' : World} {vb vf vl vo vk : Value} {M : Me} (h : MeM base w vb vf vl vo vk M) (ho : Oth (fun e => e = 37) w w') : MeM base w' vb vf vl vo vk M :=
 h.oth ho (by decide) (by decide) (by decide) (by decide) (by decide)
theorem MaM.othm {base : Nat} {w w' : World} {vb vf vl vo : Value} {m : Ma} (h : MaM base w vb vf vl vo m) (ho : Oth (fun e => e = 37) w w') : MaM base w' vb vf vl vo m :=
 h.oth ho (by decide) (by decide) (by decide) (by decide)
theorem mev_len {M : Me} (h : mev M = true) : M.m.t.bs.length ≤ 1048576 ∧ M.m.t.fs.length ≤ 1048576 ∧ M.m.c.ls.length ≤ 1048576 ∧ M.m.g.os.length ≤ 1048576 ∧ M.mk.length ≤ 16 ∧ 1 ≤ M.mk.length := by
 have V := mev_MEV.1 h
 have h1 := mav_MV.2 V.m
 obtain ⟨a1, a2, a3, a4⟩ := mav_len h1
 have := mav_fslen h1
 have := V.ln
 exact ⟨a1, a2, a3, a4, by omega, by omega⟩
theorem MineE.wbo {e : TypeId} {B : Nat} {w : World} {g : Nat} {l : List Bool} (h : MineE boE e B w (some ⟨g, 0, none⟩) l) {k : Nat} {x : Bool} (hk : l[k]? = some x) (b : Bool) :
  MineE boE e B (w.setCell ⟨g, k, none⟩ (.bool b)) (some ⟨g, 0, none⟩) (l.set k b) := by
 have := h.wcell hk b 0 (.bool b) (by decide) (fun j u hj => by
  match j, hj with
  | 0, hj => simp [boE] at hj; exact .inl ⟨rfl, hj.symm⟩
  | j + 1, hj => simp [boE] at hj)
 simpa [boE] using this
structure tS (t : TypeId) (kp : Nat → Prop) (B : Nat) (v v' : World) : Prop where
 bel : Below B v v'
 oth : Oth (fun e => e = t) v v'
 own : ∀ g cs, kp g → Own v g t cs → Own v' g t cs
 any : ∀ g (cs : Array Value), Own v g t cs → ∃ cs' : Array Value, cs'.size = cs.size ∧ Own v' g t cs'
section
variable {t : TypeId} {kp : Nat → Prop} {B : Nat} {v v' : World}
theorem tS.below (h : Below v.heap.size v v') (hB : B ≤ v.heap.size) : tS t kp B v v' :=
 ⟨h.mono hB, Oth.of_below h, fun _ _ _ o => o.below h, fun _ _ o => ⟨_, rfl, o.below h⟩⟩
theorem setA_size : ∀ (us : List Value) (i : Nat) (cs : Array Value), (setA i us cs).size = cs.size
 | [], _, _ => rfl
 | u :: us, i, cs => by unfold setA; rw [setA_size us]; simp
theorem tS.sets {g : Nat} {cs : Array Value} (ho : Own v g t cs) (hB : B ≤ g) (hk : ¬ kp g) (i : Nat) (us : List Value) : tS t kp B v (Go.Proofs.YtfbnokjdkhcgoaaGreatDoor.sets g i us v) := by
 refine ⟨?_, sets_oth ho, fun g' cs' h o => Own.fars (fun e => hk (by rw [← e]; exact h)) o, fun g' cs' o => ?_⟩
 ·have : ∀ (us : List Value) (i : Nat) (w : World), Below B v w → Below B v (Go.Proofs.YtfbnokjdkhcgoaaGreatDoor.sets g i us w) := by
   intro us
   induction us with
   | nil => intro i w h; exact h
   | cons u us ih => intro i w h; exact ih (i + 1) _ (h.setCell (p := ⟨g, i, none⟩) hB u)
  exact this us i v (Below.refl B v)
 ·by_cases hg : g' = g
  ·subst hg
   have e : cs' = cs := by
    unfold Own at o ho
    rw [o] at ho
    injection ho with ho
    injection ho with ho _
   subst e
   exact ⟨_, setA_size us i cs', o.sets⟩
  ·exact ⟨cs', rfl, Own.fars hg o⟩
end
def okT (t : TypeId) : Prop := t ≠ 3 ∧ t ≠ 80 ∧ t ≠ 50 ∧ t ≠ 186 ∧ t ≠ 4
theorem okT_me : okT 37 := by unfold okT; decide
theorem okT_ma : okT 34 := by unfold okT; decide
structure KP (t : TypeId) (kp : Nat → Prop) (B : Nat) where
 P : Value → World → Prop
 keep : ∀ u v v', tS t kp B v v' → P u v → P u v'
section
variable {t : TypeId} {kp : Nat → Prop} {B : Nat} {v v' : World}
theorem MaM.tS {b : Nat} {v1 v2 v3 v4 : Value} {m : Ma} (h : MaM b v v1 v2 v3 v4 m) (hk : okT t) (ht : tS t kp B v v') : MaM b v' v1 v2 v3 v4 m :=
 h.oth ht.oth (fun e => hk.1 e.symm) (fun e => hk.2.1 e.symm) (fun e => hk.2.2.1 e.symm) (fun e => hk.2.2.2.1 e.symm)
theorem MeM.tS {b : Nat} {v1 v2 v3 v4 v5 : Value} {M : Me} (h : MeM b v v1 v2 v3 v4 v5 M) (hk : okT t) (ht : tS t kp B v v') : MeM b v' v1 v2 v3 v4 v5 M :=
 h.oth ht.oth (fun e => hk.1 e.symm) (fun e => hk.2.1 e.symm) (fun e => hk.2.2.1 e.symm) (fun e => hk.2.2.2.1 e.symm) (fun e => hk.2.2.2.2 e.symm)
def KP.eq (u0 : Value) : KP t kp B := ⟨fun u _ => u = u0, fun _ _ _ _ h => h⟩
def KP.tun (x : Int) : KP t kp B := ⟨fun u _ => ∃ n : Int, u = .tuple #[.int .i64 x, .int .i64 n], fun _ _ _ _ h => h⟩
def KP.int : KP t kp B := ⟨fun u _ => ∃ n : Int, u = .int .i64 n, fun _ _ _ _ h => h⟩
def KP.ma (hk : okT t) (b : Nat) (m : Ma) : KP t kp B := ⟨fun u v => ∃ e1 e2 e3 e4, u = .agg #[e1, e2, e3, .int .i64 m.c.hand, .int .i64 m.g.count, .int .i64 m.g.next, .int .i64 m.g.round, e4, .int .i64 m.sp] ∧ MaM b v e1 e2 e3 e4 m, fun _ _ _ ht ⟨e1, e2, e3, e4, h, hm⟩ => ⟨e1, e2, e3, e4, h, hm.tS hk ht⟩⟩
def KP.me (hk : okT t) (b : Nat) (M : Me) : KP t kp B := ⟨fun u v => ∃ e1 e2 e3 e4 e5, u = .agg #[e1, e2, e3, .int .i64 M.m.c.hand, .int .i64 M.m.g.count, .int .i64 M.m.g.next, .int .i64 M.m.g.round, e4, .int .i64 M.m.sp, e5, .int .i64 M.h] ∧ MeM b v e1 e2 e3 e4 e5 M, fun _ _ _ ht ⟨e1, e2, e3, e4, e5, h, hm⟩ => ⟨e1, e2, e3, e4, e5, h, hm.tS hk ht⟩⟩
def KP.tup (hk : okT t) (b : Nat) (m : Ma) (rs : List Value) : KP t kp B := ⟨fun u v => ∃ e1 e2 e3 e4, u = .tuple (List.toArray (.agg #[e1, e2, e3, .int .i64 m.c.hand, .int .i64 m.g.count, .int .i64 m.g.next, .int .i64 m.g.round, e4, .int .i64 m.sp] :: rs)) ∧ MaM b v e1 e2 e3 e4 m, fun _ _ _ ht ⟨e1, e2, e3, e4, h, hm⟩ => ⟨e1, e2, e3, e4, h, hm.tS hk ht⟩⟩
def KP.tum (hk : okT t) (b : Nat) (M : Me) (rs : List Value) : KP t kp B := ⟨fun u v => ∃ e1 e2 e3 e4 e5, u = .tuple (List.toArray (.agg #[e1, e2, e3, .int .i64 M.m.c.hand, .int .i64 M.m.g.count, .int .i64 M.m.g.next, .int .i64 M.m.g.round, e4, .int .i64 M.m.sp, e5, .int .i64 M.h] :: rs)) ∧ MeM b v e1 e2 e3 e4 e5 M, fun _ _ _ ht ⟨e1, e2, e3, e4, e5, h, hm⟩ => ⟨e1, e2, e3, e4, e5, h, hm.tS hk ht⟩⟩
def KP.tul (hk : okT t) (b : Nat) (M : Me) (l : List Int) (rs : List Value) : KP t kp B := ⟨fun u v => ∃ e1 e2 e3 e4 e5 pl, u = .tuple (List.toArray (.agg #[e1, e2, e3, .int .i64 M.m.c.hand, .int .i64 M.m.g.count, .int .i64 M.m.g.next, .int .i64 M.m.g.round, e4, .int .i64 M.m.sp, e5, .int .i64 M.h] :: pl :: rs)) ∧ MeM b v e1 e2 e3 e4 e5 M ∧ SlM intE 3 b v pl l, fun _ _ _ ht ⟨e1, e2, e3, e4, e5, pl, h, hm, hl⟩ => ⟨e1, e2, e3, e4, e5, pl, h, hm.tS hk ht, hl.oth ht.oth (fun e => hk.1 e.symm)⟩⟩
def KP.li (hk : okT t) (b : Nat) (l : List Int) : KP t kp B := ⟨fun u v => SlM intE 3 b v u l, fun _ _ _ ht hl => hl.oth ht.oth (fun e => hk.1 e.symm)⟩
def KP.bo (hk : okT t) (b : Nat) (l : List Bool) : KP t kp B := ⟨fun u v => SlM boE 4 b v u l, fun _ _ _ ht hl => hl.oth ht.oth (fun e => hk.2.2.2.2 e.symm)⟩
def KP.lit (hk : okT t) (b : Nat) : KP t kp B := ⟨fun u v => ∃ g, u = .slice (some ⟨g, 0, none⟩) 0 0 ∧ b ≤ g ∧ Own v g 4 #[], fun _ _ _ ht ⟨g, h, hb, ho⟩ => ⟨g, h, hb, ht.oth.2 _ _ _ ho (fun e => hk.2.2.2.2 e.symm)⟩⟩
def KP.box (b n : Nat) : KP t kp B := ⟨fun u v => ∃ g cs, u = .pointer (some ⟨g, 0, none⟩) ∧ b ≤ g ∧ cs.size = n ∧ Own v g t cs, fun _ _ _ ht ⟨g, cs, h, hb, hn, ho⟩ => by
 obtain ⟨cs', h1, h2⟩ := ht.any g cs ho
 exact ⟨g, cs', h, hb, h1.trans hn, h2⟩⟩
def kps (si : Nat) (ks : List (KP t kp B)) (F : Value → World → Prop) (j : Nat) (u : Value) (v : World) : Prop := if j = si then F u v else match ks[j]? with | some k => k.P u v | none => True
def kpT (t : TypeId) (kp : Nat → Prop) (B si i : Nat) (v v' : World) : Prop := if i = si then tS t kp B v v' else Below v.heap.size v v'
theorem kpT_same {si i : Nat} : kpT t kp B si i v v := by
 unfold kpT
 split
 ·exact ⟨Below.refl B v, ⟨Nat.le_refl _, fun _ _ _ o _ => o⟩, fun _ _ _ o => o, fun _ _ o => ⟨_, rfl, o⟩⟩
 ·exact bR
theorem kpT_below {si i : Nat} (hi : i ≠ si) (h : Below v.heap.size v v') : kpT t kp B si i v v' := by unfold kpT; rw [if_neg hi]; exact h
theorem kpT_store {si : Nat} (h : tS t kp B v v') : kpT t kp B si si v v' := by unfold kpT; rw [if_pos rfl]; exact h
end
theorem op_run {P : Program} {o : Oper} {a : Act} {w : World} {K : Act → World → Prop} {Q : Exit → Act → World → Prop} (s x : Operand) (t : TypeId) (ho : o.op = .call { callee := .builtin .append, args := #[s, x], argTypes := #[t, t] }) (v y v' : Value) (w' : World) (hv : a.eval s = v) (hx : a.eval x = y)
  (hrun : (Builtin.append_ #[t, t] o.type #[v, y]).run P w = .ok v' w') (h : K (a.put o.dst v') w') : o.wp P a w K Q := by
 unfold Oper.wp execOp
 simp only [ho, resolve, invoke, builtin, Sem.run_bind, Sem.run_pure, Result.andThen_ok, List.map_toArray, List.map_cons, List.map_nil, hv, hx, hrun]
 exact h
theorem run_copyB (W : World) (gl : Nat) (A : Option Addr) (c : Nat) (l : List Bool) (hr : Rs boE W.heap.size W A l) (h1 : 1 ≤ l.length) (hl : l.length ≤ 1048576) :
  ∃ v' w', (Builtin.append_ #[35, 35] 35 #[.slice (some ⟨gl, 0, none⟩) 0 0, .slice A l.length c]).run Tryz.prog W = .ok v' w' ∧ SlM boE 4 W.heap.size w' v' l ∧ Below W.heap.size W w' := by
 obtain ⟨i0, hi0, hz0, hz1, hz2⟩ := info_parts bo_info
 obtain ⟨b, o, rfl, hb, hc⟩ := hr.at_ (by omega)
 obtain ⟨v', w', e1, e2, e3⟩ := run_append_arg_grows (P := Tryz.prog) (w := W) 35 35 4 i0 _ 1 1 Tryz.underlying35 hi0 hz0 hz1 hz2 rfl (by omega) ⟨gl, 0, none⟩ 0 0 [] rfl (fun j u h => by simp at h) ⟨b, o, none⟩ l.length c (boE.cells l) (boE.cells_length l) (fun j u h => by
  have := hc j u h
  rw [add_lit_]
  exact this) (by omega) (by unfold maxLen; omega) (by omega)
 refine ⟨v', w', e1, ?_, ⟨e3.os, e3.tape, e3.output, e3.size, fun k hk => e3.block k hk (by simp)⟩⟩
 have e2' : w'.ownsRow W.heap.size 4 boE.sz v' l.length (boE.cells l) := by simpa [boE] using e2
 exact slm_own rfl e2'
theorem wp_region_kp {P : Program} {ops : Array Oper} {Q : Exit → Act → World → Prop} {id : Nat} {a : Act} {w : World} (hm : P.follows .mixedOrders = true) (ds sl : List Nat) (t : TypeId) (kp : Nat → Prop) (B si : Nat) (ks : List (KP t kp B)) (F : Value → World → Prop) (C : World → Prop)
    (hB : relB .any ops ds (sl.map fun s => [s]) = true) (hs : ops.size = sl.length) (hC0 : C w.drew) (hCB : ∀ v, C v → B ≤ v.heap.size) (hCk : ∀ v v', tS t kp B v v' → C v → C v') (hF : ∀ u v v', Below v.heap.size v v' → F u v → F u v')
    (step : ∀ i o, ops[i]? = some o → ∀ x v, C v → (∀ k, (∃ e ∈ o.after, Region.binds .any e = true ∧ e.on = k) → k < sl.length → kps si ks F k (x (sl.getD k 0)) v) → ∀ K : Act → World → Prop,
      (∀ u v', kpT t kp B si i v v' → kps si ks F i (upd x o.dst u (sl.getD i 0)) v' → K ((fillA ds x a).put o.dst u) v') → o.wp P (fillA ds x a) v K Q)
    (fin : ∀ x v, C v → (∀ i, i < sl.length → kps si ks F i (x (sl.getD i 0)) v) → Q .normal (fillA ds x a) v) : (Code.region id ops true).wp P Q a w := by
  have hTS : ∀ i v v', C v → kpT t kp B si i v v' → tS t kp B v v' := by
    intro i v v' hc ht
    unfold kpT at ht
    split at ht
    · exact ht
    · exact tS.below ht (hCB v hc)
  refine wp_region_rel1 hm ds sl C (fun j u v => C v ∧ kps si ks F j u v) (fun i v v' => C v → kpT t kp B si i v v') hB hs hC0 ?_ ?_ ?_
  · rintro i j u v v' hij ⟨hc, h⟩ ht
    have ht := ht hc
    refine ⟨hCk v v' (hTS i v v' hc ht) hc, ?_⟩
    unfold kps at h ⊢
    split
    · rename_i hj
      rw [if_pos hj] at h
      unfold kpT at ht
      rw [if_neg (by omega)] at ht
      exact hF u v v' ht h
    · rename_i hj
      rw [if_neg hj] at h
      cases hk : ks[j]? with
      | none => trivial
      | some k =>
        rw [hk] at h
        exact k.keep u v v' (hTS i v v' hc ht) h
  · intro i o ho x v hc hd K hK
    refine step i o ho x v hc (fun k hk hl => (hd k hk hl).2) K (fun u v' ht hr => ?_)
    have hc' := hCk v v' (hTS i v v' hc ht) hc
    exact hK u v' (fun _ => ht) hc' ⟨hc', hr⟩
  · intro x v hc h
    exact fin x v hc (fun i hi => (h i hi).2)
theorem nei_t {a b : Nat} (h : a = b) : ((a : Int) != (b : Int)) = false := by subst h; simp
theorem nei_f {a b : Nat} (h : ¬ a = b) : ((a : Int) != (b : Int)) = true := by simp; omega
set_option maxHeartbeats 4000000 in
theorem MemoryValid_any (vb vf vl vo vk : Value) (M : Me) (w : World) (hM : MeR w vb vf vl vo vk M) (hfree : Free w) :
  Calls Tryz.prog 29 #[.agg #[vb, vf, vl, .int .i64 M.m.c.hand, .int .i64 M.m.g.count, .int .i64 M.m.g.next, .int .i64 M.m.g.round, vo, .int .i64 M.m.sp, vk, .int .i64 M.h]] w fun r w' => r = .returned (.bool (mev M)) ∧ Below w.heap.size w w' := by
 have HF := Hd hfree
 clear hfree
 have HM := Hd hM
 obtain ⟨W0, hW, hbx, hbz, _⟩ := box1 w #[vb, vf, vl, .int .i64 M.m.c.hand, .int .i64 M.m.g.count, .int .i64 M.m.g.next, .int .i64 M.m.g.round, vo, .int .i64 M.m.sp, vk, .int .i64 M.h] 37
 have HX0 := Hd hbx
 have HB0 := Hd hbz
 clear hbx hbz hM
 obtain ⟨Af, cf, rfl, hfc, hfm, hFr⟩ := id HM.out.m.t.f
 obtain ⟨Ak, ck, rfl, hkc, hkm, hKr⟩ := id HM.out.k
 have HFS := Hd hFr
 have HKS := Hd hKr
 clear hFr hKr
 obtain ⟨q0a, q1a, q2a, q3a, q4a, q5a, q6a, q7a, q8a, q9a, q10a⟩ := c11 HX0.out
 go_enter Tryz.func29, Tryz.ntmps29
 go_wp2_with fail
 refine (MachineValid_any vb (.slice Af M.m.t.fs.length cf) vl vo M.m _ (HM.out.m.now HB0.out) (HF.out.now HB0.out)).mono ?_
 rintro e w1 ⟨rfl, hb1⟩
 have HX1 := Hd (HX0.out.below hb1)
 have HB1 := Hd (bT HB0.out hb1)
 clear q0a q1a q2a q3a q4a q5a q6a q7a q8a q9a q10a
 clear hb1 hW
 cases h1 : mav M.m with
 | false =>
  have HE : Hid (mev M = false) := mev_m h1
  go_wp2
  go_ret
  exact ⟨by rw [HE.out]; rfl, HB1.out⟩
 | true =>
 obtain ⟨q0b, q1b, q2b, q3b, q4b, q5b, q6b, q7b, q8b, q9b, q10b⟩ := c11 HX1.out
 have h16 := mav_fslen h1
 by_cases h2 : M.mk.length = M.m.t.fs.length
 ·have hnb := nei_t h2
  have hk16 : M.mk.length ≤ 16 := by omega
  have HL := Hd h2
  have HX := Hd h1
  clear h1 h2
  go_wp2_with fail
  refine (within_any _ _ _).mono ?_
  rintro e w' ⟨rfl, rfl⟩
  clear hnb
  cases h3 : inR M.h M.m.t.fs.length with
  | false =>
   have HE : Hid (mev M = false) := mev_h h3
   go_wp2
   go_ret
   exact ⟨by rw [HE.out]; rfl, HB1.out⟩
  | true =>
  go_wp2
  clear q0b q1b q2b q3b q4b q5b q6b q7b q8b q9b q10b
  go_loopw [33] (fun u wr => ∃ k : Nat, k ≤ M.mk.length ∧ u = .int .i64 k ∧ Hid (mkk M.m.t.fs M.mk k = true) ∧ Below w1.heap.size w1 wr) (fun u _ => M.mk.length - (intOf u).toNat)
  case atStart => exact ⟨0, by omega, rfl, rfl, bR⟩
  case round =>
   obtain ⟨k, hk, rfl, hall, hb5⟩ := hrel
   by_cases hlt : k < M.mk.length
   ·obtain ⟨b, eb⟩ : ∃ b, M.mk[k]? = some b := ⟨_, List.getElem?_eq_getElem hlt⟩
    obtain ⟨bk, ok, rfl, hbb, d0⟩ := Rd.b1 (HKS.out.below (bT HB1.out hb5)) eb
    have EB := Hd eb
    clear eb
    cases b with
    | false =>
     have HA := Hd (mkk_step hall.out (by rw [getDb EB.out]; intro h; cases h))
     go_wp2
     go_roundw
     case rel => exact ⟨k + 1, by omega, by go_num, HA, hb5⟩
     case measure => simp [intOf]; omega
    | true =>
     obtain ⟨f, ef⟩ : ∃ f, M.m.t.fs[k]? = some f := ⟨_, List.getElem?_eq_getElem (by have := HL.out; omega)⟩
     obtain ⟨bf, of_, rfl, hbf, e0, e1, e2, e3, e4⟩ := (HFS.out.below (bT HB1.out hb5)).fr ef
     have EF := Hd ef
     have hkf : k < M.m.t.fs.length := (List.getElem?_eq_some_iff.1 ef).1
     clear ef
     cases hu : f.used with
     | true =>
      rw [hu] at e0
      have HA := Hd (mkk_step hall.out (fun _ => by rw [usedAt_of EF.out]; exact hu))
      clear hu
      go_wp2
      go_roundw
      case rel => exact ⟨k + 1, by omega, by go_num, HA, hb5⟩
      case measure => simp [intOf]; omega
     | false =>
      rw [hu] at e0
      have HE : Hid (mev M = false) := mev_k EB.out (by rw [usedAt_of EF.out]; exact hu)
      clear hu
      go_wp2
      go_ret
      exact ⟨by rw [HE.out]; rfl, bT HB1.out hb5⟩
   ·obtain rfl : k = M.mk.length := by omega
    have HE : Hid (mev M = true) := mev_yes HX.out HL.out h3 hall.out
    go_wp2
    go_ret
    exact ⟨by rw [HE.out]; rfl, bT HB1.out hb5⟩
 ·have hnb := nei_f h2
  have HE : Hid (mev M = false) := mev_ln h2
  go_wp2
  go_ret
  exact ⟨by rw [HE.out]; rfl, HB1.out⟩
set_option maxHeartbeats 4000000 in
theorem sMemoryValid_any (vb vf vl vo vk : Value) (M : Me) (w : World) (hM : MeR w vb vf vl vo vk M) :
  Calls Tryz.prog 31 #[.agg #[vb, vf, vl, .int .i64 M.m.c.hand, .int .i64 M.m.g.count, .int .i64 M.m.g.next, .int .i64 M.m.g.round, vo, .int .i64 M.m.sp, vk, .int .i64 M.h]] w fun r w' => r = .returned (.bool (mev M)) ∧ Below w.heap.size w w' := by
 have HM := Hd hM
 obtain ⟨W0, hW, hbx, hbz, _⟩ := box1 w #[vb, vf, vl, .int .i64 M.m.c.hand, .int .i64 M.m.g.count, .int .i64 M.m.g.next, .int .i64 M.m.g.round, vo, .int .i64 M.m.sp, vk, .int .i64 M.h] 37
 have HX0 := Hd hbx
 have HB0 := Hd hbz
 clear hbx hbz hM
 obtain ⟨Af, cf, rfl, hfc, hfm, hFr⟩ := id HM.out.m.t.f
 obtain ⟨Ak, ck, rfl, hkc, hkm, hKr⟩ := id HM.out.k
 have HFS := Hd hFr
 have HKS := Hd hKr
 clear hFr hKr
 obtain ⟨q0a, q1a, q2a, q3a, q4a, q5a, q6a, q7a, q8a, q9a, q10a⟩ := c11 HX0.out
 go_enter Tryz.func31, Tryz.ntmps31
 go_wp2_with fail
 refine (sMachineValid_any vb (.slice Af M.m.t.fs.length cf) vl vo M.m _ (HM.out.m.now HB0.out)).mono ?_
 rintro e w1 ⟨rfl, hb1⟩
 have HX1 := Hd (HX0.out.below hb1)
 have HB1 := Hd (bT HB0.out hb1)
 clear q0a q1a q2a q3a q4a q5a q6a q7a q8a q9a q10a
 clear hb1 hW
 cases h1 : mav M.m with
 | false =>
  have HE : Hid (mev M = false) := mev_m h1
  go_wp2
  go_ret
  exact ⟨by rw [HE.out]; rfl, HB1.out⟩
 | true =>
 obtain ⟨q0b, q1b, q2b, q3b, q4b, q5b, q6b, q7b, q8b, q9b, q10b⟩ := c11 HX1.out
 have h16 := mav_fslen h1
 by_cases h2 : M.mk.length = M.m.t.fs.length
 ·have hnb := nei_t h2
  by_cases h3 : M.h < 0
  ·have h4 : inR M.h M.m.t.fs.length = false := bool_ff fun h => by have := inR_iff.1 h; omega
   have HE : Hid (mev M = false) := mev_h h4
   go_wp2
   go_ret
   exact ⟨by rw [HE.out]; rfl, HB1.out⟩
  by_cases h4 : (M.mk.length : Int) ≤ M.h
  ·have h4 : inR M.h M.m.t.fs.length = false := bool_ff fun h => by have := inR_iff.1 h; omega
   have HE : Hid (mev M = false) := mev_h h4
   go_wp2
   go_ret
   exact ⟨by rw [HE.out]; rfl, HB1.out⟩
  have HR : Hid (inR M.h M.m.t.fs.length = true) := inR_iff.2 (by omega)
  have hk16 : M.mk.length ≤ 16 := by omega
  have HL := Hd h2
  have HX := Hd h1
  clear h1 h2
  go_wp2
  clear h3 h4 hnb
  clear q0b q1b q2b q3b q4b q5b q6b q7b q8b q9b q10b
  go_loopw [3] (fun u wr => ∃ k : Nat, k ≤ M.mk.length ∧ u = .int .i64 k ∧ Hid (mkk M.m.t.fs M.mk k = true) ∧ Below w1.heap.size w1 wr) (fun u _ => M.mk.length - (intOf u).toNat)
  case atStart => exact ⟨0, by omega, rfl, rfl, bR⟩
  case round =>
   obtain ⟨k, hk, rfl, hall, hb5⟩ := hrel
   have HX5 := Hd (HX1.out.below hb5)
   have n9 := HX5.out.cell_ 9 (v := .slice Ak M.mk.length ck) rfl
   have n1 := HX5.out.cell_ 1 (v := .slice Af M.m.t.fs.length cf) rfl
   by_cases hlt : k < M.mk.length
   ·obtain ⟨b, eb⟩ : ∃ b, M.mk[k]? = some b := ⟨_, List.getElem?_eq_getElem hlt⟩
    obtain ⟨bk, ok, rfl, hbb, d0⟩ := Rd.b1 (HKS.out.below (bT HB1.out hb5)) eb
    have EB := Hd eb
    clear eb
    cases b with
    | false =>
     have HA := Hd (mkk_step hall.out (by rw [getDb EB.out]; intro h; cases h))
     go_wp2
     go_roundw
     case rel => exact ⟨k + 1, by omega, by go_num, HA, hb5⟩
     case measure => simp [intOf]; omega
    | true =>
     obtain ⟨f, ef⟩ : ∃ f, M.m.t.fs[k]? = some f := ⟨_, List.getElem?_eq_getElem (by have := HL.out; omega)⟩
     obtain ⟨bf, of_, rfl, hbf, e0, e1, e2, e3, e4⟩ := (HFS.out.below (bT HB1.out hb5)).fr ef
     have EF := Hd ef
     have hkf : k < M.m.t.fs.length := (List.getElem?_eq_some_iff.1 ef).1
     clear ef
     cases hu : f.used with
     | true =>
      rw [hu] at e0
      have HA := Hd (mkk_step hall.out (fun _ => by rw [usedAt_of EF.out]; exact hu))
      clear hu
      go_wp2
      go_roundw
      case rel => exact ⟨k + 1, by omega, by go_num, HA, hb5⟩
      case measure => simp [intOf]; omega
     | false =>
      rw [hu] at e0
      have HE : Hid (mev M = false) := mev_k EB.out (by rw [usedAt_of EF.out]; exact hu)
      clear hu
      go_wp2
      go_ret
      exact ⟨by rw [HE.out]; rfl, bT HB1.out hb5⟩
   ·obtain rfl : k = M.mk.length := by omega
    have HE : Hid (mev M = true) := mev_yes HX.out HL.out HR.out hall.out
    go_wp2
    go_ret
    exact ⟨by rw [HE.out]; rfl, bT HB1.out hb5⟩
 ·have hnb := nei_f h2
  have HE : Hid (mev M = false) := mev_ln h2
  go_wp2
  go_ret
  exact ⟨by rw [HE.out]; rfl, HB1.out⟩
theorem usd_step {fs : List Fr} {k : Nat} {f : Fr} (h : ∀ (j : Nat) (g : Fr), j < k → fs[j]? = some g → g.used = true) (e : fs[k]? = some f) (hu : f.used = true) : ∀ (j : Nat) (g : Fr), j < k + 1 → fs[j]? = some g → g.used = true := by
 intro j g hj eg
 rcases Nat.lt_or_ge j k with h1 | h1
 ·exact h j g h1 eg
 ·obtain rfl : j = k := by omega
  rw [e] at eg
  injection eg with eg
  rw [← eg]; exact hu
theorem usd_end {fs : List Fr} (h : ∀ (j : Nat) (g : Fr), j < fs.length → fs[j]? = some g → g.used = true) : ffI fs = -1 :=
 ffI_none (ffr_none fun j g e => h j g (List.getElem?_eq_some_iff.1 e).1 e)
theorem ffO_yes {M : Me} {k : Nat} (hv : mev M = true) (h : ffI M.m.t.fs = (k : Int)) : ffO M = true ∧ ffV M = (k : Int) := by
 have h1 : ffO M = true := by unfold ffO; rw [hv, h]; simp
 exact ⟨h1, by unfold ffV; rw [if_pos h1, h]⟩
theorem ffO_v {M : Me} (hv : mev M = false) : ffO M = false := by unfold ffO; rw [hv]; rfl
theorem ffO_n {M : Me} (h : ffI M.m.t.fs = -1) : ffO M = false := by unfold ffO; rw [h]; simp
set_option maxHeartbeats 4000000 in
theorem FreeFrame_any (vb vf vl vo vk : Value) (M : Me) (w : World) (hM : MeR w vb vf vl vo vk M) (hfree : Free w) :
  Calls Tryz.prog 9 #[.agg #[vb, vf, vl, .int .i64 M.m.c.hand, .int .i64 M.m.g.count, .int .i64 M.m.g.next, .int .i64 M.m.g.round, vo, .int .i64 M.m.sp, vk, .int .i64 M.h]] w fun r w' => r = .returned (.tuple #[.int .i64 (ffV M), .bool (ffO M)]) ∧ Below w.heap.size w w' := by
 have HF := Hd hfree
 clear hfree
 have HM := Hd hM
 obtain ⟨W0, hW, hbx, hbz, _⟩ := box1 w #[vb, vf, vl, .int .i64 M.m.c.hand, .int .i64 M.m.g.count, .int .i64 M.m.g.next, .int .i64 M.m.g.round, vo, .int .i64 M.m.sp, vk, .int .i64 M.h] 37
 have HX0 := Hd hbx
 have HB0 := Hd hbz
 clear hbx hbz hM
 obtain ⟨Af, cf, rfl, hfc, hfm, hFr⟩ := id HM.out.m.t.f
 obtain ⟨Ak, ck, rfl, hkc, hkm, hKr⟩ := id HM.out.k
 have HFS := Hd hFr
 have HKS := Hd hKr
 clear hFr hKr
 obtain ⟨q0a, q1a, q2a, q3a, q4a, q5a, q6a, q7a, q8a, q9a, q10a⟩ := c11 HX0.out
 go_enter Tryz.func9, Tryz.ntmps9
 go_wp2_with fail
 refine (MemoryValid_any vb (.slice Af M.m.t.fs.length cf) vl vo (.slice Ak M.mk.length ck) M _ (HM.out.now HB0.out) (HF.out.now HB0.out)).mono ?_
 rintro e w1 ⟨rfl, hb1⟩
 have HX1 := Hd (HX0.out.below hb1)
 have HB1 := Hd (bT HB0.out hb1)
 clear q0a q1a q2a q3a q4a q5a q6a q7a q8a q9a q10a
 clear hb1 hW
 cases h1 : mev M with
 | false =>
  have HA : Hid (ffO M = false) := ffO_v h1
  have HV : Hid (ffV M = 0) := ffO_no HA.out
  go_wp2
  go_ret2
  exact ⟨by rw [HA.out, HV.out]; rfl, HB1.out⟩
 | true =>
 have h16 : M.m.t.fs.length ≤ 16 := (mav_fslen (mav_MV.2 (mev_MEV.1 h1).m)).2
 have HMV := Hd h1
 clear h1
 have n1 := HX1.out.cell_ 1 (v := .slice Af M.m.t.fs.length cf) rfl
 go_wp2
 clear n1
 go_loopw [14] (fun u wr => ∃ k : Nat, k ≤ M.m.t.fs.length ∧ u = .int .i64 k ∧ Hid (∀ (j : Nat) (g : Fr), j < k → M.m.t.fs[j]? = some g → g.used = true) ∧ Below w1.heap.size w1 wr) (fun u _ => M.m.t.fs.length - (intOf u).toNat)
 case atStart => exact ⟨0, by omega, rfl, fun j g h => absurd h (by omega), bR⟩
 case round =>
  obtain ⟨k, hk, rfl, hall, hb5⟩ := hrel
  by_cases hlt : k < M.m.t.fs.length
  ·obtain ⟨f, ef⟩ : ∃ f, M.m.t.fs[k]? = some f := ⟨_, List.getElem?_eq_getElem hlt⟩
   obtain ⟨bf, of_, rfl, hbf, e0, e1, e2, e3, e4⟩ := (HFS.out.below (bT HB1.out hb5)).fr ef
   have EF := Hd ef
   clear ef
   cases hu : f.used with
   | true =>
    rw [hu] at e0
    have HA := Hd (usd_step hall.out EF.out hu)
    clear hu
    go_wp2
    go_roundw
    case rel => exact ⟨k + 1, by omega, by go_num, HA, bA hb5⟩
    case measure => simp [intOf]; omega
   | false =>
    rw [hu] at e0
    have hff := ffO_yes HMV.out (ffI_some (ffr_at EF.out hu hall.out))
    have HA := Hd hff.1
    have HV := Hd hff.2
    clear hu hff
    go_wp2
    go_ret2
    exact ⟨by rw [HA.out, HV.out]; rfl, bA (bT HB1.out hb5)⟩
  ·obtain rfl : k = M.m.t.fs.length := by omega
   have HA : Hid (ffO M = false) := ffO_n (usd_end hall.out)
   have HV : Hid (ffV M = 0) := ffO_no HA.out
   go_wp2
   go_ret2
   exact ⟨by rw [HA.out, HV.out]; rfl, bT HB1.out hb5⟩
set_option maxHeartbeats 4000000 in
theorem l7Free_any (vb vf : Value) (t : Tab) (w : World) (hT : TaR w vb vf t) (h16 : t.fs.length ≤ 1048576) :
  Calls Tryz.prog 30 #[.agg #[vb, vf]] w fun r w' => r = .returned (.int .i64 (ffI t.fs)) ∧ Below w.heap.size w w' := by
 obtain ⟨Af, cf, rfl, hfc, hfm, hFr⟩ := id hT.f
 obtain ⟨W0, hW, hbx, hbz, _⟩ := box1 w #[vb, .slice Af t.fs.length cf] 26
 have HX0 := Hd hbx
 have HB0 := Hd hbz
 have HFS := Hd hFr
 clear hbx hbz hT hFr
 go_enter Tryz.func30, Tryz.ntmps30
 go_upto_region 1 with fail
 try rw [hW]
 clear hW
 go_wp2
 go_loopw [3] (fun u wr => ∃ k : Nat, k ≤ t.fs.length ∧ u = .int .i64 k ∧ Hid (∀ (j : Nat) (g : Fr), j < k → t.fs[j]? = some g → g.used = true) ∧ Below W0.heap.size W0 wr) (fun u _ => t.fs.length - (intOf u).toNat)
 case atStart => exact ⟨0, by omega, rfl, fun j g h => absurd h (by omega), bR⟩
 case round =>
  obtain ⟨k, hk, rfl, hall, hb5⟩ := hrel
  have n1 := (HX0.out.below hb5).cell_ 1 (v := .slice Af t.fs.length cf) rfl
  by_cases hlt : k < t.fs.length
  ·obtain ⟨f, ef⟩ : ∃ f, t.fs[k]? = some f := ⟨_, List.getElem?_eq_getElem hlt⟩
   obtain ⟨bf, of_, rfl, hbf, e0, e1, e2, e3, e4⟩ := (HFS.out.below (bT HB0.out hb5)).fr ef
   have EF := Hd ef
   clear ef
   cases hu : f.used with
   | true =>
    rw [hu] at e0
    have HA := Hd (usd_step hall.out EF.out hu)
    clear hu
    go_wp2
    go_roundw
    case rel => exact ⟨k + 1, by omega, by go_num, HA, hb5⟩
    case measure => simp [intOf]; omega
   | false =>
    rw [hu] at e0
    have HV := Hd (ffI_some (ffr_at EF.out hu hall.out))
    clear hu
    go_wp2
    go_ret
    exact ⟨by rw [HV.out]; rfl, bT HB0.out hb5⟩
  ·obtain rfl : k = t.fs.length := by omega
   have HV := Hd (usd_end hall.out)
   go_wp2
   go_ret
   exact ⟨by rw [HV.out]; rfl, bT HB0.out hb5⟩
end Go.Proofs.YtfbnokjdkhcgoaaGreatDoor
