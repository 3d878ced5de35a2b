/- A part of the proofs of this seat: Dpr, Gn. -/
import Derived.Test.YtibpnlojlfcpmaaGreatDoorADrw
set_option linter.unusedVariables false
set_option linter.unusedSimpArgs false
set_option maxRecDepth 1000000
namespace Go.Proofs.YtibpnlojlfcpmaaGreatDoor
open Go.RowKit
theorem l12Open_low (B : Nat) (A : Option Addr) (n c : Nat) (w : World) (hb : Bytes B w A n) (hB : B ≤ w.heap.size) (hc : n ≤ c) (hn : n ≤ 1048576) :
  Calls Tryz.prog 71 #[.slice A n c] w fun e w' => e = .returned (.pointer (some ⟨w.heap.size, 0, none⟩)) ∧ Rdr B w' w.heap.size 0 ∧ Below w.heap.size w w' := by
 by_cases h : n ≤ 2000
 ·go_enter Tryz.func71, Tryz.ntmps71
  go_wp2
  go_ret
  exact ⟨rfl, ⟨A, n, c, Own.new_ _ _ _, hb.keep fun q hq => (bA bR).cell (by omega), h, hB⟩, bA bR⟩
 ·obtain ⟨i0, hi0, hz0, hz1, hz2⟩ := info_parts byte_info
  have hs := fun W => slice_hi (P := Tryz.prog) W 55 5 i0 1 A n c Tryz.underlying55 hi0 2000 (by omega) (by omega)
  rw [cutA_zero] at hs
  go_enter Tryz.func71, Tryz.ntmps71
  go_wp2
  go_ret
  exact ⟨rfl, ⟨A, 2000, c, Own.new_ _ _ _, ⟨fun j hj => (hb.keep fun q hq => (bA bR).cell (by omega)).at_ j (by omega)⟩, Nat.le_refl _, hB⟩, bA bR⟩
abbrev intR (v v' : World) : Prop := ∀ (b : Nat) (cs : Array Value), Own v b 3 cs → Own v' b 3 cs
structure KI where
 rd : List Nat
 P : (Nat → Value) → World → Prop
 loc : ∀ x y v, (∀ s ∈ rd, x s = y s) → P x v → P y v
 keep : ∀ x v v', P x v → intR v v' → P x v'
def KI.eq (s : Nat) (u0 : Value) : KI where
 rd := [s]
 P := fun x _ => x s = u0
 loc := fun x y _ h hp => by rw [← h s (by simp)]; exact hp
 keep := fun _ _ _ h _ => h
def KI.sat (s : Nat) (q : Value → Prop) : KI where
 rd := [s]
 P := fun x _ => q (x s)
 loc := fun x y _ h hp => by rw [← h s (by simp)]; exact hp
 keep := fun _ _ _ h _ => h
def KI.lit (s : Nat) (cs : Array Value) (n : Nat) : KI where
 rd := [s]
 P := fun x v => ∃ gg : Nat, x s = .slice (some ⟨gg, 0, none⟩) n n ∧ Own v gg 3 cs
 loc := fun x y _ h hp => by rw [← h s (by simp)]; exact hp
 keep := fun _ _ _ ⟨gg, h1, h2⟩ ho => ⟨gg, h1, ho _ _ h2⟩
structure PS (w0 : World) (g mb : Nat) (vb vf vl vo : Value) (m : Ma) (vs : Value) (fs : List Int) (q : Nat) (v : World) : Prop where
 rd : Rdr w0.heap.size v g q
 bl : Below w0.heap.size w0 v
 mm : MaM w0.heap.size v vb vf vl vo m
 fr : SlM intE 3 w0.heap.size v vs fs
 ob : Own v mb 48 #[vb, vf, vl, .int .i64 m.c.hand, .int .i64 m.g.count, .int .i64 m.g.next, .int .i64 m.g.round, vo, .int .i64 m.sp]
section
variable {w0 v v' : World} {g mb q : Nat} {vb vf vl vo vs : Value} {m : Ma} {fs : List Int}
theorem PS.hg (h : PS w0 g mb vb vf vl vo m vs fs q v) : w0.heap.size ≤ g := by
 obtain ⟨_, _, _, _, _, _, h⟩ := h.rd.ok
 exact h
theorem PS.below (h : PS w0 g mb vb vf vl vo m vs fs q v) (hb : Below v.heap.size v v') : PS w0 g mb vb vf vl vo m vs fs q v' :=
 ⟨rdr_below h.rd hb, bT h.bl hb, h.mm.now hb, h.fr.now hb, h.ob.below hb⟩
theorem PS.oth (h : PS w0 g mb vb vf vl vo m vs fs q v) (hg : v.grownBy v' (some g)) : othR v v' := by
 obtain ⟨A, n, c, ho, _⟩ := h.rd.ok
 exact oth_gr hg ho
theorem PS.read (h : PS w0 g mb vb vf vl vo m vs fs q v) {q' : Nat} (hr : Rdr w0.heap.size v' g q') (hg : v.grownBy v' (some g)) : PS w0 g mb vb vf vl vo m vs fs q' v' :=
 ⟨hr, bG h.bl hg (by intro k hk; injection hk with hk; have := h.hg; omega), h.mm.gr h.rd hg, h.fr.oth (h.oth hg) (by decide), (h.oth hg).2 _ _ _ h.ob (by decide)⟩
theorem PS.set1 (h : PS w0 g mb vb vf vl vo m vs fs q v) {b i : Nat} {u : Value} {t : TypeId} {cs : Array Value} (ho : Own v b t cs) (hb : w0.heap.size ≤ b) (hgb : g ≠ b) (hmb : mb ≠ b) (n1 : ¬ 3 = t) (n2 : ¬ 66 = t) (n3 : ¬ 129 = t) (n4 : ¬ 126 = t) :
  PS w0 g mb vb vf vl vo m vs fs q (v.setCell ⟨b, i, none⟩ u) :=
 ⟨rdr_far h.rd hgb hb, bS h.bl hb, h.mm.oth (stS_set (n := 0) ho).1 n1 n2 n3 n4, h.fr.oth (stS_set (n := 0) ho).1 n1, h.ob.far hmb⟩
end
def PC (w0 : World) (g mb nb kb si : Nat) (l : List Nat) (vb vf vl vo : Value) (m : Ma) (vs : Value) (fs : List Int) (q : Nat) (D : Nat → Bool) (v : World) : Prop :=
 PS w0 g mb vb vf vl vo m vs fs (q + cn D l) v ∧ Own v nb 48 (if D si = true then #[vb, vf, vl, .int .i64 m.c.hand, .int .i64 m.g.count, .int .i64 m.g.next, .int .i64 m.g.round, vo, .int .i64 m.sp] else #[.slice none 0 0, .slice none 0 0, .slice none 0 0, .int .i64 0, .int .i64 0, .int .i64 0, .int .i64 0, .slice none 0 0, .int .i64 0]) ∧ ∃ a b : Int, Own v kb 61 #[.int .i64 a, .int .i64 b] ∧ small b
section
variable {w0 v v' : World} {g mb nb kb si i q : Nat} {l : List Nat} {vb vf vl vo vs : Value} {m : Ma} {fs : List Int} {D : Nat → Bool}
theorem PC.same (h : PC w0 g mb nb kb si l vb vf vl vo m vs fs q D v) (hi : i ∉ l) (hs : si ≠ i) : PC w0 g mb nb kb si l vb vf vl vo m vs fs q (fun j => if j = i then true else D j) v := by
 unfold PC
 rw [cn_same hi]
 simp only [if_neg hs]
 exact h
theorem PC.below (h : PC w0 g mb nb kb si l vb vf vl vo m vs fs q D v) (hb : Below v.heap.size v v') (hi : i ∉ l) (hs : si ≠ i) : PC w0 g mb nb kb si l vb vf vl vo m vs fs q (fun j => if j = i then true else D j) v' := by
 obtain ⟨h1, h2, a, b, h3, h4⟩ := h
 unfold PC
 rw [cn_same hi]
 simp only [if_neg hs]
 exact ⟨h1.below hb, h2.below hb, a, b, h3.below hb, h4⟩
theorem PC.read (h : PC w0 g mb nb kb si l vb vf vl vo m vs fs q D v) (hD : D i = false) (hi : i ∈ l) (hn : l.Nodup) (hs : si ≠ i) (hr : Rdr w0.heap.size v' g (q + cn D l + 1)) (hg : v.grownBy v' (some g)) : PC w0 g mb nb kb si l vb vf vl vo m vs fs q (fun j => if j = i then true else D j) v' := by
 obtain ⟨h1, h2, a, b, h3, h4⟩ := h
 have ho := h1.oth hg
 unfold PC
 rw [cn_more hD hi hn, ← Nat.add_assoc]
 simp only [if_neg hs]
 exact ⟨h1.read hr hg, ho.2 _ _ _ h2 (by decide), a, b, ho.2 _ _ _ h3 (by decide), h4⟩
theorem PC.store (h : PC w0 g mb nb kb si l vb vf vl vo m vs fs q D v) (hD : D si = false) (hi : si ∉ l) (hb : w0.heap.size ≤ nb) (hgb : g ≠ nb) (hmb : mb ≠ nb) (hkb : kb ≠ nb) :
  PC w0 g mb nb kb si l vb vf vl vo m vs fs q (fun j => if j = si then true else D j) (((((((((v.setCell ⟨nb, 0, none⟩ vb).setCell ⟨nb, 1, none⟩ vf).setCell ⟨nb, 2, none⟩ vl).setCell ⟨nb, 3, none⟩ (.int .i64 m.c.hand)).setCell ⟨nb, 4, none⟩ (.int .i64 m.g.count)).setCell ⟨nb, 5, none⟩ (.int .i64 m.g.next)).setCell ⟨nb, 6, none⟩ (.int .i64 m.g.round)).setCell ⟨nb, 7, none⟩ vo).setCell ⟨nb, 8, none⟩ (.int .i64 m.sp)) := by
 obtain ⟨h1, h2, a, b, h3, h4⟩ := h
 unfold PC
 rw [cn_same hi]
 simp only [hD, Bool.false_eq_true, if_false] at h2
 simp only [if_true]
 have o1 := h2.set_ 0 vb
 have o2 := o1.set_ 1 vf
 have o3 := o2.set_ 2 vl
 have o4 := o3.set_ 3 (.int .i64 m.c.hand)
 have o5 := o4.set_ 4 (.int .i64 m.g.count)
 have o6 := o5.set_ 5 (.int .i64 m.g.next)
 have o7 := o6.set_ 6 (.int .i64 m.g.round)
 have o8 := o7.set_ 7 vo
 refine ⟨?_, h2.set9 _ _ _ _ _ _ _ _ _, a, b, ?_, h4⟩
 ·exact ((((((((h1.set1 h2 hb hgb hmb (by decide) (by decide) (by decide) (by decide)).set1 o1 hb hgb hmb (by decide) (by decide) (by decide) (by decide)).set1 o2 hb hgb hmb (by decide) (by decide) (by decide) (by decide)).set1 o3 hb hgb hmb (by decide) (by decide) (by decide) (by decide)).set1 o4 hb hgb hmb (by decide) (by decide) (by decide) (by decide)).set1 o5 hb hgb hmb (by decide) (by decide) (by decide) (by decide)).set1 o6 hb hgb hmb (by decide) (by decide) (by decide) (by decide)).set1 o7 hb hgb hmb (by decide) (by decide) (by decide) (by decide)).set1 o8 hb hgb hmb (by decide) (by decide) (by decide) (by decide)
 ·repeat (refine Own.far ?_ (by exact hkb))
  exact h3
theorem PC.key (h : PC w0 g mb nb kb si l vb vf vl vo m vs fs q D v) (hi : i ∉ l) (hs : si ≠ i) (hb : w0.heap.size ≤ kb) (hgb : g ≠ kb) (hmb : mb ≠ kb) (hkb : nb ≠ kb) (a b : Int) (hs2 : small b) :
  PC w0 g mb nb kb si l vb vf vl vo m vs fs q (fun j => if j = i then true else D j) ((v.setCell ⟨kb, 0, none⟩ (.int .i64 a)).setCell ⟨kb, 1, none⟩ (.int .i64 b)) := by
 obtain ⟨h1, h2, a0, b0, h3, h4⟩ := h
 unfold PC
 rw [cn_same hi]
 simp only [if_neg hs]
 have o1 := h3.set_ 0 (.int .i64 a)
 exact ⟨(h1.set1 h3 hb hgb hmb (by decide) (by decide) (by decide) (by decide)).set1 o1 hb hgb hmb (by decide) (by decide) (by decide) (by decide), (h2.far hkb).far hkb, a, b, by simpa using o1.set_ 1 (.int .i64 b), hs2⟩
end
def dn (D : Nat → Bool) (i : Nat) : Nat → Bool := fun j => if j = i then true else D j
theorem dn_self (D : Nat → Bool) (i : Nat) : dn D i i = true := by unfold dn; rw [if_pos rfl]
theorem dn_ne {D : Nat → Bool} {i j : Nat} (h : j ≠ i) : dn D i j = D j := by unfold dn; rw [if_neg h]
structure GT (q : TypeId → Prop) (B : Nat) (sb : Option Nat) (n : Nat) (v v' : World) : Prop where
 oth : Oth q v v'
 own : ∀ (b : Nat) (t : TypeId) (cs : Array Value), Own v b t cs → t ≠ 172 → some b ≠ sb → Own v' b t cs
 bel : Below B v v'
 rd : ∀ g p, Rdr B v g p → ∃ p', p' ≤ p + 1000 * n ∧ Rdr B v' g p'
section
variable {q : TypeId → Prop} {B n : Nat} {sb : Option Nat} {v v' v'' : World}
theorem GT.same : GT q B sb n v v := ⟨⟨Nat.le_refl _, fun _ _ _ h _ => h⟩, fun _ _ _ h _ _ => h, Below.refl _ _, fun g p h => ⟨p, by omega, h⟩⟩
theorem GT.below (hb : Below v.heap.size v v') (hB : B ≤ v.heap.size) : GT q B sb n v v' :=
 ⟨Oth.of_below hb, fun _ _ _ h _ _ => h.below hb, hb.mono hB, fun g p h => ⟨p, by omega, rdr_below h hb⟩⟩
theorem rdr_pos {w : World} {g p p' : Nat} (h : Rdr B w g p) (h' : Rdr B w g p') : p = p' := by
 obtain ⟨A, m, c, ho, _⟩ := h.ok
 obtain ⟨A', m', c', ho', _⟩ := h'.ok
 unfold Own at ho ho'
 rw [ho] at ho'
 simp at ho'
 omega
theorem GT.read {g p p' : Nat} (hq : q 172) (hr : Rdr B v g p) (hr' : Rdr B v' g p') (hp : p' ≤ p + 1000) (hg : v.grownBy v' (some g)) : GT q B sb 1 v v' := by
 obtain ⟨A, m, c, ho, _, _, hBg⟩ := hr.ok
 have hot := oth_gr hg ho
 refine ⟨⟨hot.1, fun b t cs h hn => hot.2 b t cs h (fun e => hn (by rw [e]; exact hq))⟩, fun b t cs h ht _ => hot.2 b t cs h ht, ?_, fun g2 p2 h2 => ?_⟩
 ·exact ⟨hg.os, hg.tape, hg.output, hg.size, fun k hk => hg.block k (by have := ho.lt; omega) (by intro e; injection e with e; omega)⟩
 ·by_cases he : g2 = g
  ·subst he
   have := rdr_pos hr h2
   subst this
   exact ⟨_, by omega, hr'⟩
  ·exact ⟨p2, by omega, rdr_row h2 hg (by intro e; injection e with e; exact he e) (by intro k e; injection e with e; omega)⟩
theorem GT.set {b i : Nat} {t : TypeId} {cs : Array Value} {u : Value} (ho : Own v b t cs) (hq : q t) (ht : t ≠ 172) (hB : B ≤ b) : GT q B (some b) 0 v (v.setCell ⟨b, i, none⟩ u) := by
 have hty : ∀ (t2 : TypeId) (cs2 : Array Value), Own v b t2 cs2 → t2 = t := by
  intro t2 cs2 h
  unfold Own at h ho
  rw [h] at ho
  simp at ho
  exact ho.2
 refine ⟨⟨by simp, fun b2 t2 cs2 h hn => h.far (p := ⟨b, i, none⟩) (fun e => ?_)⟩, fun b2 t2 cs2 h _ hne => h.far (p := ⟨b, i, none⟩) (fun e => hne (by rw [e])), (Below.refl B v).setCell hB u, fun g p h => ⟨p, by omega, rdr_far h (fun e => ?_) hB⟩⟩
 ·have e : b2 = b := e
  subst e
  exact hn (by rw [hty _ _ h]; exact hq)
 ·subst e
  obtain ⟨A, m, c, h2, _⟩ := h.ok
  exact (h2.ne ho (fun e => ht e.symm)) rfl
theorem GT.trans (h : GT q B sb 0 v v') (k : GT q B sb 0 v' v'') : GT q B sb 0 v v'' :=
 ⟨⟨Nat.le_trans h.oth.1 k.oth.1, fun b t cs o hn => k.oth.2 b t cs (h.oth.2 b t cs o hn) hn⟩, fun b t cs o ht hs => k.own b t cs (h.own b t cs o ht hs) ht hs, h.bel.trans k.bel, fun g p o => by
  obtain ⟨p1, e1, o1⟩ := h.rd g p o
  obtain ⟨p2, e2, o2⟩ := k.rd g p1 o1
  exact ⟨p2, by omega, o2⟩⟩
theorem GT.set9 {b : Nat} {t : TypeId} {cs : Array Value} (ho : Own v b t cs) (hq : q t) (ht : t ≠ 172) (hB : B ≤ b) (u0 u1 u2 u3 u4 u5 u6 u7 u8 : Value) :
  GT q B (some b) 0 v (((((((((v.setCell ⟨b, 0, none⟩ u0).setCell ⟨b, 1, none⟩ u1).setCell ⟨b, 2, none⟩ u2).setCell ⟨b, 3, none⟩ u3).setCell ⟨b, 4, none⟩ u4).setCell ⟨b, 5, none⟩ u5).setCell ⟨b, 6, none⟩ u6).setCell ⟨b, 7, none⟩ u7).setCell ⟨b, 8, none⟩ u8) := by
 have o1 := ho.set_ 0 u0
 have o2 := o1.set_ 1 u1
 have o3 := o2.set_ 2 u2
 have o4 := o3.set_ 3 u3
 have o5 := o4.set_ 4 u4
 have o6 := o5.set_ 5 u5
 have o7 := o6.set_ 6 u6
 have o8 := o7.set_ 7 u7
 exact ((((((((GT.set ho hq ht hB).trans (GT.set o1 hq ht hB)).trans (GT.set o2 hq ht hB)).trans (GT.set o3 hq ht hB)).trans (GT.set o4 hq ht hB)).trans (GT.set o5 hq ht hB)).trans (GT.set o6 hq ht hB)).trans (GT.set o7 hq ht hB)).trans (GT.set o8 hq ht hB)
end
structure SBx where
 op : Nat
 box : Nat
 ty : TypeId
 old : Array Value
 new : Array Value → World → Prop
def sbo : List SBx → Nat → Option Nat
 | [], _ => none
 | e :: S, i => if e.op = i then some e.box else sbo S i
theorem sbo_some {S : List SBx} {i b : Nat} (h : sbo S i = some b) : ∃ e ∈ S, e.op = i ∧ e.box = b := by
 induction S with
 | nil => cases h
 | cons e S ih =>
  unfold sbo at h
  split at h
  ·injection h with h
   exact ⟨e, by simp, ‹_›, h⟩
  ·obtain ⟨e2, h1, h2⟩ := ih h
   exact ⟨e2, by simp [h1], h2⟩
theorem sbo_none {S : List SBx} {i : Nat} (h : sbo S i = none) : ∀ e ∈ S, e.op ≠ i := by
 induction S with
 | nil => intro e he; cases he
 | cons e S ih =>
  unfold sbo at h
  split at h
  ·cases h
  ·intro e2 he
   rcases List.mem_cons.1 he with h2 | h2
   ·rw [h2]; assumption
   ·exact ih h e2 h2
def nn (nums : List Nat) (i : Nat) : Nat := if i ∈ nums then 1 else 0
theorem cn_dn {nums : List Nat} {D : Nat → Bool} {i : Nat} (hn : nums.Nodup) (hD : D i = false) : cn (dn D i) nums = cn D nums + nn nums i := by
 unfold nn dn
 split
 ·exact cn_more hD ‹_› hn
 ·exact cn_same ‹_›
structure GStat (q : TypeId → Prop) (nums : List Nat) (F : List (Nat × TypeId × Array Value)) (M : World → Prop) (S : List SBx) : Prop where
 nd : nums.Nodup
 hF : ∀ e ∈ F, e.2.1 ≠ 172 ∧ ∀ s ∈ S, s.box ≠ e.1
 hM : ∀ v v', Oth q v v' → M v → M v'
 hS : ∀ e ∈ S, e.ty ≠ 172 ∧ (∀ s ∈ S, s.box = e.box → s.op = e.op) ∧ (∀ s ∈ S, s.op = e.op → s = e) ∧ (∀ cs v v', Oth q v v' → e.new cs v → e.new cs v')
structure GC (B : Nat) (w0 : World) (rs : List (Nat × Nat)) (nums : List Nat) (F : List (Nat × TypeId × Array Value)) (M : World → Prop) (S : List SBx) (D : Nat → Bool) (v : World) : Prop where
 bl : Below B w0 v
 rd : ∀ e ∈ rs, ∃ p, p ≤ e.2 + 1000 * cn D nums ∧ Rdr B v e.1 p
 ob : ∀ e ∈ F, Own v e.1 e.2.1 e.2.2
 mm : M v
 st : ∀ e ∈ S, ∃ cs, Own v e.box e.ty cs ∧ (D e.op = false → cs = e.old) ∧ (D e.op = true → e.new cs v)
abbrev gtt (q : TypeId → Prop) (B : Nat) (nums : List Nat) (S : List SBx) (i : Nat) (v v' : World) : Prop := GT q B (sbo S i) (nn nums i) v v'
section
variable {q : TypeId → Prop} {B i : Nat} {w0 v v' : World} {rs : List (Nat × Nat)} {nums : List Nat} {F : List (Nat × TypeId × Array Value)} {M : World → Prop} {S : List SBx} {D : Nat → Bool}
theorem GC.step (h : GC B w0 rs nums F M S D v) (hs : GStat q nums F M S) (hD : D i = false) (ht : gtt q B nums S i v v') (hi0 : sbo S i = none) : GC B w0 rs nums F M S (dn D i) v' := by
 have hi := sbo_none hi0
 refine ⟨h.bl.trans ht.bel, fun e he => ?_, fun e he => ?_, hs.hM _ _ ht.oth h.mm, fun e he => ?_⟩
 ·obtain ⟨p, h1, h2⟩ := h.rd e he
  obtain ⟨p', h3, h4⟩ := ht.rd _ _ h2
  exact ⟨p', by rw [cn_dn hs.nd hD]; omega, h4⟩
 ·refine ht.own _ _ _ (h.ob e he) (hs.hF e he).1 fun e1 => ?_
  obtain ⟨s, h1, h2, h3⟩ := sbo_some e1.symm
  exact (hs.hF e he).2 s h1 h3
 ·obtain ⟨cs, h1, h2, h3⟩ := h.st e he
  obtain ⟨k1, k2, k3, k4⟩ := hs.hS e he
  refine ⟨cs, ht.own _ _ _ h1 k1 fun e1 => ?_, fun hd => h2 (by rwa [dn_ne (hi e he)] at hd), fun hd => k4 _ _ _ ht.oth (h3 (by rwa [dn_ne (hi e he)] at hd))⟩
  obtain ⟨s, m1, m2, m3⟩ := sbo_some e1.symm
  exact hi s m1 m2
theorem GC.store {e0 : SBx} {cs0 : Array Value} (h : GC B w0 rs nums F M S D v) (hs : GStat q nums F M S) (hD : D i = false) (ht : gtt q B nums S i v v') (hm : e0 ∈ S) (hi : e0.op = i) (ho : Own v' e0.box e0.ty cs0) (hn : e0.new cs0 v') : GC B w0 rs nums F M S (dn D i) v' := by
 refine ⟨h.bl.trans ht.bel, fun e he => ?_, fun e he => ?_, hs.hM _ _ ht.oth h.mm, fun e he => ?_⟩
 ·obtain ⟨p, h1, h2⟩ := h.rd e he
  obtain ⟨p', h3, h4⟩ := ht.rd _ _ h2
  exact ⟨p', by rw [cn_dn hs.nd hD]; omega, h4⟩
 ·refine ht.own _ _ _ (h.ob e he) (hs.hF e he).1 fun e1 => ?_
  obtain ⟨s, h1, h2, h3⟩ := sbo_some e1.symm
  exact (hs.hF e he).2 s h1 h3
 ·obtain ⟨cs, h1, h2, h3⟩ := h.st e he
  obtain ⟨k1, k2, k3, k4⟩ := hs.hS e he
  by_cases hei : e.op = i
  ·obtain rfl := k3 e0 hm (by rw [hi, hei])
   exact ⟨cs0, ho, (fun hd => by rw [hei, dn_self] at hd; cases hd), fun _ => hn⟩
  ·refine ⟨cs, ht.own _ _ _ h1 k1 fun e1 => ?_, fun hd => h2 (by rwa [dn_ne hei] at hd), fun hd => k4 _ _ _ ht.oth (h3 (by rwa [dn_ne hei] at hd))⟩
   obtain ⟨s, m1, m2, m3⟩ := sbo_some e1.symm
   exact hei ((k2 s m1 m3).symm.trans m2)
end
structure KG (q : TypeId → Prop) (B : Nat) (nums : List Nat) (S : List SBx) where
 rd : List Nat
 P : (Nat → Bool) → (Nat → Value) → World → Prop
 loc : ∀ D x y v, (∀ s ∈ rd, x s = y s) → P D x v → P D y v
 keep : ∀ i D x v v', D i = false → P D x v → gtt q B nums S i v v' → P (dn D i) x v'
section
variable {q : TypeId → Prop} {B : Nat} {nums : List Nat} {S : List SBx}
def KG.eq (s : Nat) (u0 : Value) : KG q B nums S where
 rd := [s]
 P := fun _ x _ => x s = u0
 loc := fun _ x y _ h hp => by rw [← h s (by simp)]; exact hp
 keep := fun _ _ _ _ _ _ h _ => h
def KG.sat (s : Nat) (f : Value → Prop) : KG q B nums S where
 rd := [s]
 P := fun _ x _ => f (x s)
 loc := fun _ x y _ h hp => by rw [← h s (by simp)]; exact hp
 keep := fun _ _ _ _ _ _ h _ => h
def KG.lit (hq : ¬ q 3) (s : Nat) (cs : Array Value) (n : Nat) : KG q B nums S where
 rd := [s]
 P := fun _ x v => ∃ gg : Nat, x s = .slice (some ⟨gg, 0, none⟩) n n ∧ Own v gg 3 cs
 loc := fun _ x y _ h hp => by rw [← h s (by simp)]; exact hp
 keep := fun _ _ _ _ _ _ ⟨gg, h1, h2⟩ ht => ⟨gg, h1, ht.oth.2 _ _ _ h2 hq⟩
def KG.val (s : Nat) (f : Value → World → Prop) (hf : ∀ u v v', Oth q v v' → f u v → f u v') : KG q B nums S where
 rd := [s]
 P := fun _ x v => f (x s) v
 loc := fun _ x y _ h hp => by rw [← h s (by simp)]; exact hp
 keep := fun _ _ _ _ _ _ h ht => hf _ _ _ ht.oth h
end
def chg (e : TypeId) : Prop := e = 172 ∨ e = 48 ∨ e = 61
theorem MaM.chg {b : Nat} {w w' : World} {v1 v2 v3 v4 : Value} {m : Ma} (h : MaM b w v1 v2 v3 v4 m) (ho : Oth chg w w') : MaM b w' v1 v2 v3 v4 m :=
 h.oth ho (by unfold Proofs.YtibpnlojlfcpmaaGreatDoor.chg; decide) (by unfold Proofs.YtibpnlojlfcpmaaGreatDoor.chg; decide) (by unfold Proofs.YtibpnlojlfcpmaaGreatDoor.chg; decide) (by unfold Proofs.YtibpnlojlfcpmaaGreatDoor.chg; decide)
end Go.Proofs.YtibpnlojlfcpmaaGreatDoor
