/- A part of the proofs of this seat: Dpr, Dpr2. -/
import Derived.Test.YtnaagdmaggdbmaaGreatDoorQW6
set_option linter.unusedVariables false
set_option linter.unusedSimpArgs false
namespace Go.Proofs.YtnaagdmaggdbmaaGreatDoor
open Go.RowKit
set_option maxRecDepth 1000000
set_option linter.unusedVariables false
theorem l12Open_low (B : Nat) (A : Option Addr) (n c : Nat) (w : World) (hb : Bytes B w A n) (hB : B ≤ w.heap.size) (hc : n ≤ c) (hn : n ≤ 1048576) :
  Calls Tryz.prog 44 #[.slice A n c] w fun e w' => e = .returned (.pointer (some ⟨w.heap.size, 0, none⟩)) ∧ Rdr B w' w.heap.size 0 ∧ Below w.heap.size w w' := by
 by_cases h : n ≤ 2000
 ·go_enter Tryz.func44, Tryz.ntmps44
  go_wp2
  go_ret
  exact ⟨rfl, ⟨A, n, c, Own.new_ _ _ _, hb.keep fun q hq => (bA bR).cell (by omega), h, hB⟩, bA bR⟩
 ·obtain ⟨i0, hi0, hz0, hz1, hz2⟩ := info_parts byte_info
  have hs := fun W => slice_hi (P := Tryz.prog) W 22 5 i0 1 A n c Tryz.underlying22 hi0 2000 (by omega) (by omega)
  rw [cutA_zero] at hs
  go_enter Tryz.func44, Tryz.ntmps44
  go_wp2
  go_ret
  exact ⟨rfl, ⟨A, 2000, c, Own.new_ _ _ _, ⟨fun j hj => (hb.keep fun q hq => (bA bR).cell (by omega)).at_ j (by omega)⟩, Nat.le_refl _, hB⟩, bA bR⟩
abbrev intR (v v' : World) : Prop := ∀ (b : Nat) (cs : Array Value), Own v b 3 cs → Own v' b 3 cs
theorem intR_below {v v' : World} (h : Below v.heap.size v v') : intR v v' := fun _ _ o => o.below h
theorem intR_oth {v v' : World} {t : TypeId} (h : Oth (fun e => e = t) v v') (hn : ¬ 3 = t) : intR v v' := fun _ _ o => h.2 _ _ _ o hn
structure KI where
 rd : List Nat
 P : (Nat → Value) → World → Prop
 loc : ∀ x y v, (∀ s ∈ rd, x s = y s) → P x v → P y v
 keep : ∀ x v v', P x v → intR v v' → P x v'
def KI.eq (s : Nat) (u0 : Value) : KI where
 rd := [s]
 P := fun x _ => x s = u0
 loc := fun x y _ h hp => by rw [← h s (by simp)]; exact hp
 keep := fun _ _ _ h _ => h
def KI.sat (s : Nat) (q : Value → Prop) : KI where
 rd := [s]
 P := fun x _ => q (x s)
 loc := fun x y _ h hp => by rw [← h s (by simp)]; exact hp
 keep := fun _ _ _ h _ => h
def KI.lit (s : Nat) (cs : Array Value) (n : Nat) : KI where
 rd := [s]
 P := fun x v => ∃ gg : Nat, x s = .slice (some ⟨gg, 0, none⟩) n n ∧ Own v gg 3 cs
 loc := fun x y _ h hp => by rw [← h s (by simp)]; exact hp
 keep := fun _ _ _ ⟨gg, h1, h2⟩ ho => ⟨gg, h1, ho _ _ h2⟩
def KI.no : KI where
 rd := []
 P := fun _ _ => True
 loc := fun _ _ _ _ _ => trivial
 keep := fun _ _ _ _ _ => trivial
def kis (ks : List KI) (j : Nat) (x : Nat → Value) (v : World) : Prop := match ks[j]? with | some k => k.P x v | none => True
theorem kis_loc {ks : List KI} : ∀ j x y v, (∀ s ∈ (ks.map KI.rd).getD j [], x s = y s) → kis ks j x v → kis ks j y v := by
 intro j x y v h hp
 unfold kis at hp ⊢
 cases hk : ks[j]? with
 | none => trivial
 | some k =>
  rw [hk] at hp
  refine k.loc x y v (fun s hs => h s ?_) hp
  rw [List.getD_eq_getElem?_getD, List.getElem?_map, hk]
  exact hs
theorem kis_keep {ks : List KI} : ∀ (i j : Nat) x v v', i ≠ j → kis ks j x v → intR v v' → kis ks j x v' := by
 intro i j x v v' hij hp ht
 unfold kis at hp ⊢
 cases hk : ks[j]? with
 | none => trivial
 | some k =>
  rw [hk] at hp
  exact k.keep x v v' hp ht
structure PS (w0 : World) (g mb : Nat) (vb vf vl vo : Value) (m : Ma) (vs : Value) (fs : List Int) (q : Nat) (v : World) : Prop where
 rd : Rdr w0.heap.size v g q
 bl : Below w0.heap.size w0 v
 mm : MaM w0.heap.size v vb vf vl vo m
 fr : SlM intE 3 w0.heap.size v vs fs
 ob : Own v mb 34 #[vb, vf, vl, .int .i64 m.c.hand, .int .i64 m.g.count, .int .i64 m.g.next, .int .i64 m.g.round, vo, .int .i64 m.sp]
section
variable {w0 v v' : World} {g mb q : Nat} {vb vf vl vo vs : Value} {m : Ma} {fs : List Int}
theorem PS.hg (h : PS w0 g mb vb vf vl vo m vs fs q v) : w0.heap.size ≤ g := by
 obtain ⟨_, _, _, _, _, _, h⟩ := h.rd.ok
 exact h
theorem PS.below (h : PS w0 g mb vb vf vl vo m vs fs q v) (hb : Below v.heap.size v v') : PS w0 g mb vb vf vl vo m vs fs q v' :=
 ⟨rdr_below h.rd hb, bT h.bl hb, h.mm.now hb, h.fr.now hb, h.ob.below hb⟩
theorem PS.oth (h : PS w0 g mb vb vf vl vo m vs fs q v) (hg : v.grownBy v' (some g)) : othR v v' := by
 obtain ⟨A, n, c, ho, _⟩ := h.rd.ok
 exact oth_gr hg ho
theorem PS.read (h : PS w0 g mb vb vf vl vo m vs fs q v) {q' : Nat} (hr : Rdr w0.heap.size v' g q') (hg : v.grownBy v' (some g)) : PS w0 g mb vb vf vl vo m vs fs q' v' :=
 ⟨hr, bG h.bl hg (by intro k hk; injection hk with hk; have := h.hg; omega), h.mm.gr h.rd hg, h.fr.oth (h.oth hg) (by decide), (h.oth hg).2 _ _ _ h.ob (by decide)⟩
theorem PS.set1 (h : PS w0 g mb vb vf vl vo m vs fs q v) {b i : Nat} {u : Value} {t : TypeId} {cs : Array Value} (ho : Own v b t cs) (hb : w0.heap.size ≤ b) (hgb : g ≠ b) (hmb : mb ≠ b) (n1 : ¬ 3 = t) (n2 : ¬ 48 = t) (n3 : ¬ 106 = t) (n4 : ¬ 155 = t) :
  PS w0 g mb vb vf vl vo m vs fs q (v.setCell ⟨b, i, none⟩ u) :=
 ⟨rdr_far h.rd hgb hb, bS h.bl hb, h.mm.oth (stS_set (n := 0) ho).1 n1 n2 n3 n4, h.fr.oth (stS_set (n := 0) ho).1 n1, h.ob.far hmb⟩
end
def PC (w0 : World) (g mb nb kb si : Nat) (l : List Nat) (vb vf vl vo : Value) (m : Ma) (vs : Value) (fs : List Int) (q : Nat) (D : Nat → Bool) (v : World) : Prop :=
 PS w0 g mb vb vf vl vo m vs fs (q + cn D l) v ∧ Own v nb 34 (if D si = true then #[vb, vf, vl, .int .i64 m.c.hand, .int .i64 m.g.count, .int .i64 m.g.next, .int .i64 m.g.round, vo, .int .i64 m.sp] else #[.slice none 0 0, .slice none 0 0, .slice none 0 0, .int .i64 0, .int .i64 0, .int .i64 0, .int .i64 0, .slice none 0 0, .int .i64 0]) ∧ ∃ a b : Int, Own v kb 36 #[.int .i64 a, .int .i64 b] ∧ small b
section
variable {w0 v v' : World} {g mb nb kb si i q : Nat} {l : List Nat} {vb vf vl vo vs : Value} {m : Ma} {fs : List Int} {D : Nat → Bool}
theorem PC.same (h : PC w0 g mb nb kb si l vb vf vl vo m vs fs q D v) (hi : i ∉ l) (hs : si ≠ i) : PC w0 g mb nb kb si l vb vf vl vo m vs fs q (fun j => if j = i then true else D j) v := by
 unfold PC
 rw [cn_same hi]
 simp only [if_neg hs]
 exact h
theorem PC.below (h : PC w0 g mb nb kb si l vb vf vl vo m vs fs q D v) (hb : Below v.heap.size v v') (hi : i ∉ l) (hs : si ≠ i) : PC w0 g mb nb kb si l vb vf vl vo m vs fs q (fun j => if j = i then true else D j) v' := by
 obtain ⟨h1, h2, a, b, h3, h4⟩ := h
 unfold PC
 rw [cn_same hi]
 simp only [if_neg hs]
 exact ⟨h1.below hb, h2.below hb, a, b, h3.below hb, h4⟩
theorem PC.read (h : PC w0 g mb nb kb si l vb vf vl vo m vs fs q D v) (hD : D i = false) (hi : i ∈ l) (hn : l.Nodup) (hs : si ≠ i) (hr : Rdr w0.heap.size v' g (q + cn D l + 1)) (hg : v.grownBy v' (some g)) : PC w0 g mb nb kb si l vb vf vl vo m vs fs q (fun j => if j = i then true else D j) v' := by
 obtain ⟨h1, h2, a, b, h3, h4⟩ := h
 have ho := h1.oth hg
 unfold PC
 rw [cn_more hD hi hn, ← Nat.add_assoc]
 simp only [if_neg hs]
 exact ⟨h1.read hr hg, ho.2 _ _ _ h2 (by decide), a, b, ho.2 _ _ _ h3 (by decide), h4⟩
theorem PC.store (h : PC w0 g mb nb kb si l vb vf vl vo m vs fs q D v) (hD : D si = false) (hi : si ∉ l) (hb : w0.heap.size ≤ nb) (hgb : g ≠ nb) (hmb : mb ≠ nb) (hkb : kb ≠ nb) :
  PC w0 g mb nb kb si l vb vf vl vo m vs fs q (fun j => if j = si then true else D j) (((((((((v.setCell ⟨nb, 0, none⟩ vb).setCell ⟨nb, 1, none⟩ vf).setCell ⟨nb, 2, none⟩ vl).setCell ⟨nb, 3, none⟩ (.int .i64 m.c.hand)).setCell ⟨nb, 4, none⟩ (.int .i64 m.g.count)).setCell ⟨nb, 5, none⟩ (.int .i64 m.g.next)).setCell ⟨nb, 6, none⟩ (.int .i64 m.g.round)).setCell ⟨nb, 7, none⟩ vo).setCell ⟨nb, 8, none⟩ (.int .i64 m.sp)) := by
 obtain ⟨h1, h2, a, b, h3, h4⟩ := h
 unfold PC
 rw [cn_same hi]
 simp only [hD, Bool.false_eq_true, if_false] at h2
 simp only [if_true]
 have o1 := h2.set_ 0 vb
 have o2 := o1.set_ 1 vf
 have o3 := o2.set_ 2 vl
 have o4 := o3.set_ 3 (.int .i64 m.c.hand)
 have o5 := o4.set_ 4 (.int .i64 m.g.count)
 have o6 := o5.set_ 5 (.int .i64 m.g.next)
 have o7 := o6.set_ 6 (.int .i64 m.g.round)
 have o8 := o7.set_ 7 vo
 refine ⟨?_, h2.set9 _ _ _ _ _ _ _ _ _, a, b, ?_, h4⟩
 ·exact ((((((((h1.set1 h2 hb hgb hmb (by decide) (by decide) (by decide) (by decide)).set1 o1 hb hgb hmb (by decide) (by decide) (by decide) (by decide)).set1 o2 hb hgb hmb (by decide) (by decide) (by decide) (by decide)).set1 o3 hb hgb hmb (by decide) (by decide) (by decide) (by decide)).set1 o4 hb hgb hmb (by decide) (by decide) (by decide) (by decide)).set1 o5 hb hgb hmb (by decide) (by decide) (by decide) (by decide)).set1 o6 hb hgb hmb (by decide) (by decide) (by decide) (by decide)).set1 o7 hb hgb hmb (by decide) (by decide) (by decide) (by decide)).set1 o8 hb hgb hmb (by decide) (by decide) (by decide) (by decide)
 ·repeat (refine Own.far ?_ (by exact hkb))
  exact h3
theorem PC.key (h : PC w0 g mb nb kb si l vb vf vl vo m vs fs q D v) (hi : i ∉ l) (hs : si ≠ i) (hb : w0.heap.size ≤ kb) (hgb : g ≠ kb) (hmb : mb ≠ kb) (hkb : nb ≠ kb) (a b : Int) (hs2 : small b) :
  PC w0 g mb nb kb si l vb vf vl vo m vs fs q (fun j => if j = i then true else D j) ((v.setCell ⟨kb, 0, none⟩ (.int .i64 a)).setCell ⟨kb, 1, none⟩ (.int .i64 b)) := by
 obtain ⟨h1, h2, a0, b0, h3, h4⟩ := h
 unfold PC
 rw [cn_same hi]
 simp only [if_neg hs]
 have o1 := h3.set_ 0 (.int .i64 a)
 exact ⟨(h1.set1 h3 hb hgb hmb (by decide) (by decide) (by decide) (by decide)).set1 o1 hb hgb hmb (by decide) (by decide) (by decide) (by decide), (h2.far hkb).far hkb, a, b, by simpa using o1.set_ 1 (.int .i64 b), hs2⟩
end
theorem stS9_mach {v : World} {b : Nat} {cs : Array Value} (ho : Own v b 34 cs) (u0 u1 u2 u3 u4 u5 u6 u7 u8 : Value) :
  intR v (((((((((v.setCell ⟨b, 0, none⟩ u0).setCell ⟨b, 1, none⟩ u1).setCell ⟨b, 2, none⟩ u2).setCell ⟨b, 3, none⟩ u3).setCell ⟨b, 4, none⟩ u4).setCell ⟨b, 5, none⟩ u5).setCell ⟨b, 6, none⟩ u6).setCell ⟨b, 7, none⟩ u7).setCell ⟨b, 8, none⟩ u8) :=
 intR_oth (stS_set9 ho u0 u1 u2 u3 u4 u5 u6 u7 u8).1 (by decide)
theorem intR_key {v : World} {b : Nat} {cs : Array Value} (ho : Own v b 36 cs) (u0 u1 : Value) : intR v ((v.setCell ⟨b, 0, none⟩ u0).setCell ⟨b, 1, none⟩ u1) := by
 have o1 := ho.set_ 0 u0
 exact fun c cs h => (stS_set (n := 0) (i := 1) (u := u1) o1).1.2 _ _ _ ((stS_set (n := 0) (i := 0) (u := u0) ho).1.2 _ _ _ h (by decide)) (by decide)
end Go.Proofs.YtnaagdmaggdbmaaGreatDoor
namespace Go.Proofs.YtnaagdmaggdbmaaGreatDoor
open Go.RowKit
set_option maxRecDepth 1000000
set_option linter.unusedVariables false
theorem MineE.mv {α : Type} {E : Enc α} {e : TypeId} {B : Nat} {w w' : World} {A : Option Addr} {l : List α} (h : MineE E e B w A l) (hs : w.heap.size ≤ w'.heap.size) (hk : ∀ g cs, A = some ⟨g, 0, none⟩ → Own w g e cs → Own w' g e cs) : MineE E e B w' A l := by
 refine ⟨⟨h.is.len, fun hn => ?_⟩, fun hl => ?_⟩
 ·obtain ⟨g, cs, rfl, hbg, ho, _⟩ := h.own hn
  obtain ⟨b, o, e, hb, hc⟩ := h.is.at_ hn
  injection e with e
  injection e with e1 e2
  subst e1 e2
  refine ⟨g, 0, rfl, by omega, fun j u hu => ?_⟩
  have hh := hc j u hu
  rw [ho.cell] at hh
  rw [(hk g cs rfl ho).cell]
  exact hh
 ·obtain ⟨g, cs, e, hbg, ho, hs⟩ := h.own hl
  exact ⟨g, cs, e, hbg, hk g cs e ho, hs⟩
theorem SlM.mv {α : Type} {E : Enc α} {e : TypeId} {B n c : Nat} {w w' : World} {A : Option Addr} {l : List α} (h : SlM E e B w (.slice A n c) l) (hs : w.heap.size ≤ w'.heap.size) (hk : ∀ g cs, A = some ⟨g, 0, none⟩ → Own w g e cs → Own w' g e cs) : SlM E e B w' (.slice A n c) l := by
 obtain ⟨A', c', e', h2, h3, h4⟩ := h
 injection e' with e1 e2 e3
 subst e1
 exact ⟨A, c', by rw [e2, e3], h2, h3, h4.mv hs hk⟩
def isS (u : Value) : Prop := ∃ z : Int, u = .int .i64 z ∧ small z
def isKS (u : Value) : Prop := ∃ a b : Int, u = .agg #[.int .i64 a, .int .i64 b] ∧ small b
theorem sm_of {zs : List Int} (h : ∀ z ∈ zs, -1000 ≤ z ∧ z ≤ 1000001) {z : Int} (hz : z ∈ zs) : small z := h z hz
def DPR (w : World) (v : Value) (w' : World) : Prop := ∃ (m : Ma) (v1 v2 v3 v4 : Value) (a b r : Int) (A : Option Addr) (c : Nat) (fs : List Int), v = .tuple #[.agg #[v1, v2, v3, .int .i64 m.c.hand, .int .i64 m.g.count, .int .i64 m.g.next, .int .i64 m.g.round, v4, .int .i64 m.sp], .agg #[.int .i64 a, .int .i64 b], .slice A fs.length c, .int .i64 r] ∧ MaM w.heap.size w' v1 v2 v3 v4 m ∧ Sz 19 m ∧ SlM intE 3 w.heap.size w' (.slice A fs.length c) fs ∧ fs.length ≤ 3 ∧ small b ∧ Below w.heap.size w w'
set_option maxHeartbeats 4000000 in
theorem DrawPutRange_any (A : Option Addr) (n c : Nat) (w : World) (hb : Bytes w.heap.size w A n) (hc : n ≤ c) (hn : n ≤ 1048576) :
  Calls Tryz.prog 13 #[.slice A n c] w (Post2 fun v w' => DPR w v w') := by
 have ho := (Own.new_ w 34 #[.slice none 0 0, .slice none 0 0, .slice none 0 0, .int .i64 0, .int .i64 0, .int .i64 0, .int .i64 0, .slice none 0 0, .int .i64 0]).alloc (o := .cells #[.int .i64 0, .int .i64 0] 36)
 have hk := ownAt (W := w.alloc (.cells #[.slice none 0 0, .slice none 0 0, .slice none 0 0, .int .i64 0, .int .i64 0, .int .i64 0, .int .i64 0, .slice none 0 0, .int .i64 0] 34)) (g := w.heap.size + 1) (t := 36) (cs := #[.int .i64 0, .int .i64 0]) (by simp)
 have hb0 : Below w.heap.size w ((w.alloc (.cells #[.slice none 0 0, .slice none 0 0, .slice none 0 0, .int .i64 0, .int .i64 0, .int .i64 0, .int .i64 0, .slice none 0 0, .int .i64 0] 34)).alloc (.cells #[.int .i64 0, .int .i64 0] 36)) := bA (bA bR)
 have hs0 : ((w.alloc (.cells #[.slice none 0 0, .slice none 0 0, .slice none 0 0, .int .i64 0, .int .i64 0, .int .i64 0, .int .i64 0, .slice none 0 0, .int .i64 0] 34)).alloc (.cells #[.int .i64 0, .int .i64 0] 36)).heap.size = w.heap.size + 2 := by simp
 generalize hW : (w.alloc (.cells #[.slice none 0 0, .slice none 0 0, .slice none 0 0, .int .i64 0, .int .i64 0, .int .i64 0, .int .i64 0, .slice none 0 0, .int .i64 0] 34)).alloc (.cells #[.int .i64 0, .int .i64 0] 36) = W0 at ho hk hb0 hs0
 have KO := Lib.hid (l12Open_low w.heap.size A n c W0 (hb.keep fun q hq => hb0.cell hq) (by omega) hc hn)
 have HN := Lib.hid ho
 have HK := Lib.hid hk
 have HB := Lib.hid hb0
 clear ho hk hb0 hb
 go_enter Tryz.func13, Tryz.ntmps13
 go_wp2_with fail
 refine KO.out.mono ?_
 rintro e w1 ⟨rfl, hrd, hb1⟩
 have hn := HN.out.below hb1
 have hk := HK.out.below hb1
 have hbl := bT HB.out hb1
 rw [hs0] at hrd ⊢
 clear HN HK HB KO hb1
 have HRD := Lib.hid hrd
 have HN := Lib.hid hn
 have HK := Lib.hid hk
 have HB := Lib.hid hbl
 clear hrd hn hk hbl
 have hs1 := HB.out.size
 clear hW
 generalize hg : w.heap.size + 2 = g at *
 go_wp2_with fail
 refine (l6Draw_any w.heap.size g 0 w1 HRD.out (by omega) hs1).mono ?_
 rintro e w2 ⟨_, rfl, m0, q1, q2, q3, q4, p2, rfl, hM2, hz2, hrd, hp2, hgr⟩
 have hn := own_gr HN.out hgr (by omega)
 have hk := own_gr HK.out hgr (by omega)
 have hb2 := bG HB.out hgr (by intro k hk; injection hk with hk; omega)
 clear HRD HN HK
 have HRD := Lib.hid hrd
 have HN := Lib.hid hn
 have HK := Lib.hid hk
 clear hrd hn hk
 have HM := Lib.hid hM2
 have HB2 := Lib.hid hb2
 have hs2 := hb2.size
 clear HB hgr hM2 hb2
 go_wp2_with fail
 refine (l6Wrong_any w.heap.size g p2 17 _ _ _ _ m0 w2 HRD.out (by omega) HM.out hz2 (by omega) hs2).mono ?_
 clear hz2
 rintro e w3 ⟨_, rfl, m, q1, q2, q3, q4, p3, rfl, hM3, hz3, hrd, hp3, hgr⟩
 obtain ⟨A1, c1, rfl, _⟩ := hM3.t.b
 obtain ⟨A2, c2, rfl, _⟩ := hM3.t.f
 obtain ⟨A3, c3, rfl, _⟩ := hM3.l
 obtain ⟨A4, c4, rfl, _⟩ := hM3.o
 have HZ := Lib.hid hz3
 have HA : Hid (∀ b : Nat, A1 = some ⟨b, 0, none⟩ → b < w3.heap.size) := by
  intro b e
  obtain ⟨A', c', e', _, _, h4⟩ := hM3.t.b
  injection e' with e1
  subst e1
  obtain ⟨ga, csa, hA, _, hoA, _⟩ := h4.own hz3.b1
  rw [hA] at e
  injection e with e
  injection e with e
  subst e
  exact hoA.lt
 have hg3 : g < w3.heap.size := rdr_lt hrd
 have ho4 := (Own.new_ w3 34 #[.slice A1 m.t.bs.length c1, .slice A2 m.t.fs.length c2, .slice A3 m.c.ls.length c3, .int .i64 m.c.hand, .int .i64 m.g.count, .int .i64 m.g.next, .int .i64 m.g.round, .slice A4 m.g.os.length c4, .int .i64 m.sp]).alloc (o := .cells #[] 3)
 have hs4 : (w3.alloc (.cells #[.slice A1 m.t.bs.length c1, .slice A2 m.t.fs.length c2, .slice A3 m.c.ls.length c3, .int .i64 m.c.hand, .int .i64 m.g.count, .int .i64 m.g.next, .int .i64 m.g.round, .slice A4 m.g.os.length c4, .int .i64 m.sp] 34)).heap.size = w3.heap.size + 1 := by simp
 have hx4 := owns_lit (base := w3.heap.size + 1) (e := 3) (w3.alloc (.cells #[.slice A1 m.t.bs.length c1, .slice A2 m.t.fs.length c2, .slice A3 m.c.ls.length c3, .int .i64 m.c.hand, .int .i64 m.g.count, .int .i64 m.g.next, .int .i64 m.g.round, .slice A4 m.g.os.length c4, .int .i64 m.sp] 34)) 1 (by omega)
 rw [hs4] at hx4
 have hb4 : Below w3.heap.size w3 ((w3.alloc (.cells #[.slice A1 m.t.bs.length c1, .slice A2 m.t.fs.length c2, .slice A3 m.c.ls.length c3, .int .i64 m.c.hand, .int .i64 m.g.count, .int .i64 m.g.next, .int .i64 m.g.round, .slice A4 m.g.os.length c4, .int .i64 m.sp] 34)).alloc (.cells #[] 3)) := bA (bA bR)
 generalize hW4 : (w3.alloc (.cells #[.slice A1 m.t.bs.length c1, .slice A2 m.t.fs.length c2, .slice A3 m.c.ls.length c3, .int .i64 m.c.hand, .int .i64 m.g.count, .int .i64 m.g.next, .int .i64 m.g.round, .slice A4 m.g.os.length c4, .int .i64 m.sp] 34)).alloc (.cells #[] 3) = w4 at ho4 hx4 hb4
 have hn := (own_gr HN.out hgr (by omega)).below hb4
 have hk := (own_gr HK.out hgr (by omega)).below hb4
 have hbb := bT (bG HB2.out hgr (by intro k hk; injection hk with hk; omega)) hb4
 have hrd := rdr_below hrd hb4
 clear HRD HN HK
 have HRD := Lib.hid hrd
 have HN := Lib.hid hn
 have HK := Lib.hid hk
 clear hrd hn hk
 clear HM HB2
 have HM := Lib.hid (hM3.now hb4)
 have HB := Lib.hid hbb
 have HX := Lib.hid ho4
 have HL := Lib.hid hx4
 have hs5 := hbb.size
 clear hgr hM3 hb4 hbb ho4 hx4 hz3
 generalize hmb : w3.heap.size = mb at *
 go_wp2_with fail
 refine (pick_any w.heap.size g p3 6 w4 HRD.out (by omega) (by omega)).mono ?_
 rintro e w5 ⟨x, rfl, hx0, hx1, hrd, hgr⟩
 have hx2 := hx1 (by omega)
 obtain ⟨x, rfl⟩ := Int.eq_ofNat_of_zero_le hx0
 have hx3 : x ≤ 5 := by omega
 have hn := own_gr HN.out hgr (by omega)
 have hk := own_gr HK.out hgr (by omega)
 have hxo := own_gr HX.out hgr (by omega)
 have hl := ownsRow_gr HL.out HRD.out hgr (by decide)
 have hm := HM.out.gr HRD.out hgr
 have hbb := bG HB.out hgr (by intro k hk; injection hk with hk; omega)
 clear HRD HN HK
 have HRD := Lib.hid hrd
 have HN := Lib.hid hn
 have HK := Lib.hid hk
 clear hrd hn hk
 clear HX HL HM HB hgr hx0 hx1 hx2
 have HX := Lib.hid hxo
 have HL := Lib.hid hl
 have HM := Lib.hid hm
 have HB := Lib.hid hbb
 clear hxo hl hm hbb hW4
 go_wp2_with fail
 refine (num_lit w.heap.size g (p3 + 1) [2, 1, 3, 0] w5 _ _ rfl rfl HRD.out (by omega) (by simp) (by simp)).mono ?_
 rintro e w6 ⟨z, rfl, hz6, hrd, hgr⟩
 obtain ⟨k0, rfl, hk0, hk1⟩ := nat_of (a := 0) (b := 3) (by decide) hz6
 have hn := own_gr HN.out hgr (by omega)
 have hk := own_gr HK.out hgr (by omega)
 have hxo := own_gr HX.out hgr (by omega)
 have hl := ownsRow_gr HL.out HRD.out hgr (by decide)
 have hm := HM.out.gr HRD.out hgr
 have hbb := bG HB.out hgr (by intro k hk; injection hk with hk; omega)
 clear HRD HN HK
 have HRD := Lib.hid hrd
 have HN := Lib.hid hn
 have HK := Lib.hid hk
 clear hrd hn hk
 clear HX HL HM HB hgr hz6
 have HX := Lib.hid hxo
 have HL := Lib.hid hl
 have HM := Lib.hid hm
 have HB := Lib.hid hbb
 clear hxo hl hm hbb
 have hp6 : p3 + 1 + 1 ≤ 200 := by omega
 generalize hp : p3 + 1 + 1 = p at *
 go_wp2
 go_loopw [8, 10] (fun u8 u wr => ∃ (k : Nat) (l : List Int), k + l.length ≤ 3 ∧ u = .int .i64 k ∧ wr.ownsRow (mb + 1) 3 1 u8 l.length (intE.cells l) ∧ Own wr mb 34 #[.slice A1 m.t.bs.length c1, .slice A2 m.t.fs.length c2, .slice A3 m.c.ls.length c3, .int .i64 m.c.hand, .int .i64 m.g.count, .int .i64 m.g.next, .int .i64 m.g.round, .slice A4 m.g.os.length c4, .int .i64 m.sp] ∧ Own wr w.heap.size 34 #[.slice none 0 0, .slice none 0 0, .slice none 0 0, .int .i64 0, .int .i64 0, .int .i64 0, .int .i64 0, .slice none 0 0, .int .i64 0] ∧ Own wr (w.heap.size + 1) 36 #[.int .i64 0, .int .i64 0] ∧ MaM w.heap.size wr (.slice A1 m.t.bs.length c1) (.slice A2 m.t.fs.length c2) (.slice A3 m.c.ls.length c3) (.slice A4 m.g.os.length c4) m ∧ Rdr w.heap.size wr g p ∧ Below w.heap.size w wr) (fun _ u _ => (intOf u).toNat)
 case atStart => exact ⟨k0, [], by simpa using hk1, rfl, HL.out, HX.out, HN.out, HK.out, HM.out, HRD.out, HB.out⟩
 case round =>
  obtain ⟨k, l, hkl, rfl, hL, hX, hN, hK, hM, hR, hB⟩ := hrel
  clear HX HL HM HB HRD HN HK
  obtain ⟨A8, c8, rfl, _⟩ := own_rd hL
  have hsB := hX.lt
  by_cases hlt : 0 < k
  ·have hki : (0 : Int) < (k : Int) := by omega
   have hll : ((l.length : Nat) : Int) ≤ 3 := by omega
   have hll0 : (0 : Int) ≤ ((l.length : Nat) : Int) := by omega
   obtain ⟨v7, w7, hrun, hown7, hg7, _⟩ := run_append_i (mb + 1) wr (.slice A8 l.length c8) l.length l (Int.tmod ((x : Int) + (l.length : Int)) 6) hL rfl (by omega) hsB
   have hbl : ∀ b, (Value.slice A8 l.length c8).ownBlock = some b → mb + 1 ≤ b := own_block hL
   have hne : ∀ {b : Nat} {t : TypeId} {cs : Array Value}, Own wr b t cs → 3 ≠ t → some b ≠ (Value.slice A8 l.length c8).ownBlock := by
    intro b t cs h ht
    rcases own_ne hL h ht with h2 | h2
    ·rw [h2]; simp
    ·exact fun e => h2 e.symm
   have hgn : some g ≠ (Value.slice A8 l.length c8).ownBlock := by
    obtain ⟨_, _, _, hor, _⟩ := hR.ok
    exact hne hor (by decide)
   have hx7 := own_other (hX.alloc (o := .cells #[.int .i64 (Int.tmod ((x : Int) + (l.length : Int)) 6)] 3)) hg7 (hne hX (by decide))
   have hn7 := own_other (hN.alloc (o := .cells #[.int .i64 (Int.tmod ((x : Int) + (l.length : Int)) 6)] 3)) hg7 (hne hN (by decide))
   have hk7 := own_other (hK.alloc (o := .cells #[.int .i64 (Int.tmod ((x : Int) + (l.length : Int)) 6)] 3)) hg7 (hne hK (by decide))
   have hr7 := rdr_row (rdr_alloc hR (.cells #[.int .i64 (Int.tmod ((x : Int) + (l.length : Int)) 6)] 3)) hg7 hgn (fun b hb => by have := hbl b hb; omega)
   have hb7 := bG (bA hB (o := .cells #[.int .i64 (Int.tmod ((x : Int) + (l.length : Int)) 6)] 3)) hg7 (fun b hb => by have := hbl b hb; omega)
   have hm7 : MaM w.heap.size w7 (.slice A1 m.t.bs.length c1) (.slice A2 m.t.fs.length c2) (.slice A3 m.c.ls.length c3) (.slice A4 m.g.os.length c4) m := by
    have hot : Oth (fun e => e = 3) wr w7 := ⟨Nat.le_trans (by simp) hg7.size, fun b e cs h hn => own_other (h.alloc (o := .cells #[.int .i64 (Int.tmod ((x : Int) + (l.length : Int)) 6)] 3)) hg7 (hne h (fun e => hn e.symm))⟩
    refine ⟨⟨hM.t.b.mv hot.1 (fun b cs e h => own_other (h.alloc (o := .cells #[.int .i64 (Int.tmod ((x : Int) + (l.length : Int)) 6)] 3)) hg7 (fun h2 => ?_)), hM.t.f.oth hot (by decide)⟩, hM.l.oth hot (by decide), hM.o.oth hot (by decide)⟩
    have h3 := hbl b h2.symm
    have h4 := HA.out b e
    omega
   obtain ⟨A9, c9, rfl, _⟩ := own_rd hown7
   have HL := Lib.hid hown7
   have HX := Lib.hid hx7
   have HN := Lib.hid hn7
   have HK := Lib.hid hk7
   have HM := Lib.hid hm7
   have HRD := Lib.hid hr7
   have HB := Lib.hid hb7
   clear hown7 hx7 hn7 hk7 hm7 hr7 hb7 hg7 hgn hne hbl hL hX hN hK hM hR hB
   go_wp2_with (at_builtin; refine wpList_append_run _ rfl (.tmp 27) (.tmp 33) 23 rfl _ _ _ _ rfl rfl hrun ?_)
   go_roundw
   case rel =>
    exact ⟨k - 1, l ++ [Int.tmod ((x : Int) + (l.length : Int)) 6], by simp; omega, by rw [show ((k - 1 : Nat) : Int) = (k : Int) - 1 by omega], by simpa using HL.out, HX.out, HN.out, HK.out, HM.out, HRD.out, HB.out⟩
   case measure => simp [intOf]; omega
  ·obtain rfl : k = 0 := by omega
   have hgm : g < mb := by omega
   go_wp2
   refine wp_region_rel2 (by kernel_rfl) [35, 36, 37, 38, 39, 40, 41, 42, 43, 44, 45, 4, 5] [[35], [36], [37], [38], [39], [40], [41], [42], [43], [44], [45], [], [], [4], [5]] (PC w g mb w.heap.size (w.heap.size + 1) 11 [2, 5, 10] (.slice A1 m.t.bs.length c1) (.slice A2 m.t.fs.length c2) (.slice A3 m.c.ls.length c3) (.slice A4 m.g.os.length c4) m (.slice A8 l.length c8) l p) (kis [KI.eq 35 (.agg #[.slice A1 m.t.bs.length c1, .slice A2 m.t.fs.length c2, .slice A3 m.c.ls.length c3, .int .i64 m.c.hand, .int .i64 m.g.count, .int .i64 m.g.next, .int .i64 m.g.round, .slice A4 m.g.os.length c4, .int .i64 m.sp]), KI.eq 36 (.pointer (some ⟨g, 0, none⟩)), KI.sat 37 isN, KI.eq 38 (.pointer (some ⟨g, 0, none⟩)), KI.lit 39 #[.int .i64 10, .int .i64 20, .int .i64 210, .int .i64 127, .int .i64 254] 5, KI.sat 40 isS, KI.sat 41 isKS, KI.eq 42 (.slice A8 l.length c8), KI.eq 43 (.pointer (some ⟨g, 0, none⟩)), KI.lit 44 #[.int .i64 3, .int .i64 1, .int .i64 7, .int .i64 8] 4, KI.sat 45 isN, KI.no, KI.no, KI.eq 4 (.slice A8 l.length c8), KI.sat 5 isN]) (fun _ => intR) (by kernel_rfl) ?_ (kis_loc (ks := [KI.eq 35 (.agg #[.slice A1 m.t.bs.length c1, .slice A2 m.t.fs.length c2, .slice A3 m.c.ls.length c3, .int .i64 m.c.hand, .int .i64 m.g.count, .int .i64 m.g.next, .int .i64 m.g.round, .slice A4 m.g.os.length c4, .int .i64 m.sp]), KI.eq 36 (.pointer (some ⟨g, 0, none⟩)), KI.sat 37 isN, KI.eq 38 (.pointer (some ⟨g, 0, none⟩)), KI.lit 39 #[.int .i64 10, .int .i64 20, .int .i64 210, .int .i64 127, .int .i64 254] 5, KI.sat 40 isS, KI.sat 41 isKS, KI.eq 42 (.slice A8 l.length c8), KI.eq 43 (.pointer (some ⟨g, 0, none⟩)), KI.lit 44 #[.int .i64 3, .int .i64 1, .int .i64 7, .int .i64 8] 4, KI.sat 45 isN, KI.no, KI.no, KI.eq 4 (.slice A8 l.length c8), KI.sat 5 isN])) (fun i j x v v' h1 h2 h3 => kis_keep i j x v v' h1 h2 h3) ?_ ?_
   ·refine ⟨⟨?_, bD hB, hM.now (bD bR), (((slm_own (l := l) rfl hL).mono (show w.heap.size ≤ mb + 1 by omega)).now (bD bR)), hX.drew⟩, hN.drew, 0, 0, hK.drew, by unfold small; omega⟩
    rw [cn_zero]
    exact rdr_below hR (bD bR)
   ·intro i o ho D x v hD hC hd K hK
    match i, ho with
    | 0, ho =>
     simp only [List.getElem?_toArray, List.getElem?_cons_zero, List.getElem?_cons_succ, Option.some.injEq] at ho
     subst ho
     simp only [fillA, Act.put, List.setIfInBounds_toArray, List.set_cons_zero, List.set_cons_succ] at hK ⊢
     have hx := hC.1.ob
     have z0 := hx.cell_ 0 (v := .slice A1 m.t.bs.length c1) rfl
     have z1 := hx.cell_ 1 (v := .slice A2 m.t.fs.length c2) rfl
     have z2 := hx.cell_ 2 (v := .slice A3 m.c.ls.length c3) rfl
     have z3 := hx.cell_ 3 (v := .int .i64 m.c.hand) rfl
     have z4 := hx.cell_ 4 (v := .int .i64 m.g.count) rfl
     have z5 := hx.cell_ 5 (v := .int .i64 m.g.next) rfl
     have z6 := hx.cell_ 6 (v := .int .i64 m.g.round) rfl
     have z7 := hx.cell_ 7 (v := .slice A4 m.g.os.length c4) rfl
     have z8 := hx.cell_ 8 (v := .int .i64 m.sp) rfl
     go_simp
     exact hK _ _ (intR_below bR) (hC.same (by decide) (by decide)) rfl
    | 1, ho =>
     simp only [List.getElem?_toArray, List.getElem?_cons_zero, List.getElem?_cons_succ, Option.some.injEq] at ho
     subst ho
     simp only [fillA, Act.put, List.setIfInBounds_toArray, List.set_cons_zero, List.set_cons_succ] at hK ⊢
     go_simp
     exact hK _ _ (intR_below bR) (hC.same (by decide) (by decide)) rfl
    | 2, ho =>
     simp only [List.getElem?_toArray, List.getElem?_cons_zero, List.getElem?_cons_succ, Option.some.injEq] at ho
     subst ho
     simp only [fillA, Act.put, List.setIfInBounds_toArray, List.set_cons_zero, List.set_cons_succ] at hK ⊢
     have d0 := hd 1 ⟨⟨1, .data⟩, by simp, rfl, rfl⟩
     change x 36 = .pointer (some ⟨g, 0, none⟩) at d0
     simp only [d0] at hK ⊢
     have hcn : cn D [2, 5, 10] ≤ 3 := cn_le D _
     go_wp2_with fail
     refine (pick_any w.heap.size g (p + cn D [2, 5, 10]) 4 v hC.1.rd (by omega) (by omega)).mono ?_
     rintro e v' ⟨z, rfl, _, _, hrd, hgr⟩
     go_simp
     exact hK _ _ (intR_oth (hC.1.oth hgr) (by decide)) (hC.read hD (by decide) (by decide) (by decide) hrd hgr) ⟨_, rfl⟩
    | 3, ho =>
     simp only [List.getElem?_toArray, List.getElem?_cons_zero, List.getElem?_cons_succ, Option.some.injEq] at ho
     subst ho
     simp only [fillA, Act.put, List.setIfInBounds_toArray, List.set_cons_zero, List.set_cons_succ] at hK ⊢
     go_simp
     exact hK _ _ (intR_below bR) (hC.same (by decide) (by decide)) rfl
    | 4, ho =>
     simp only [List.getElem?_toArray, List.getElem?_cons_zero, List.getElem?_cons_succ, Option.some.injEq] at ho
     subst ho
     simp only [fillA, Act.put, List.setIfInBounds_toArray, List.set_cons_zero, List.set_cons_succ] at hK ⊢
     go_simp
     exact hK _ _ (intR_below (bA bR)) (hC.below (bA bR) (by decide) (by decide)) ⟨_, rfl, Own.new_ _ _ _⟩
    | 5, ho =>
     simp only [List.getElem?_toArray, List.getElem?_cons_zero, List.getElem?_cons_succ, Option.some.injEq] at ho
     subst ho
     simp only [fillA, Act.put, List.setIfInBounds_toArray, List.set_cons_zero, List.set_cons_succ] at hK ⊢
     have d0 := hd 3 ⟨⟨3, .data⟩, by simp, rfl, rfl⟩
     change x 38 = .pointer (some ⟨g, 0, none⟩) at d0
     have d1 := hd 4 ⟨⟨4, .data⟩, by simp, rfl, rfl⟩
     obtain ⟨gd1, d1, od1⟩ := d1
     change x 39 = .slice (some ⟨gd1, 0, none⟩) 5 5 at d1
     simp only [d0, d1] at hK ⊢
     have hcn : cn D [2, 5, 10] ≤ 3 := cn_le D _
     obtain ⟨Ar, nr, cr, hor, _⟩ := hC.1.rd.ok
     go_wp2_with fail
     refine (num_any w.heap.size g (p + cn D [2, 5, 10]) gd1 [10, 20, 210, 127, 254] v hC.1.rd od1 (od1.ne hor (by decide)) (by omega) (by simp) (by simp)).mono ?_
     rintro e v' ⟨z, rfl, hz, hrd, hgr⟩
     go_simp
     exact hK _ _ (intR_oth (hC.1.oth hgr) (by decide)) (hC.read hD (by decide) (by decide) (by decide) hrd hgr) ⟨_, rfl, sm_of (by decide) hz⟩
    | 6, ho =>
     simp only [List.getElem?_toArray, List.getElem?_cons_zero, List.getElem?_cons_succ, Option.some.injEq] at ho
     subst ho
     simp only [fillA, Act.put, List.setIfInBounds_toArray, List.set_cons_zero, List.set_cons_succ] at hK ⊢
     have d0 := hd 2 ⟨⟨2, .data⟩, by simp, rfl, rfl⟩
     obtain ⟨n0, d0⟩ := d0
     change x 37 = .int .i64 n0 at d0
     have d1 := hd 5 ⟨⟨5, .data⟩, by simp, rfl, rfl⟩
     obtain ⟨n1, d1, hs1⟩ := d1
     change x 40 = .int .i64 n1 at d1
     simp only [d0, d1] at hK ⊢
     go_wp2_with fail
     refine (sKeyFor_any n0 n1 _).mono ?_
     rintro e v' ⟨rfl, hb⟩
     go_simp
     exact hK _ _ (intR_below hb) (hC.below hb (by decide) (by decide)) ⟨_, _, rfl, hs1⟩
    | 7, ho =>
     simp only [List.getElem?_toArray, List.getElem?_cons_zero, List.getElem?_cons_succ, Option.some.injEq] at ho
     subst ho
     simp only [fillA, Act.put, List.setIfInBounds_toArray, List.set_cons_zero, List.set_cons_succ] at hK ⊢
     go_simp
     exact hK _ _ (intR_below bR) (hC.same (by decide) (by decide)) rfl
    | 8, ho =>
     simp only [List.getElem?_toArray, List.getElem?_cons_zero, List.getElem?_cons_succ, Option.some.injEq] at ho
     subst ho
     simp only [fillA, Act.put, List.setIfInBounds_toArray, List.set_cons_zero, List.set_cons_succ] at hK ⊢
     go_simp
     exact hK _ _ (intR_below bR) (hC.same (by decide) (by decide)) rfl
    | 9, ho =>
     simp only [List.getElem?_toArray, List.getElem?_cons_zero, List.getElem?_cons_succ, Option.some.injEq] at ho
     subst ho
     simp only [fillA, Act.put, List.setIfInBounds_toArray, List.set_cons_zero, List.set_cons_succ] at hK ⊢
     go_simp
     exact hK _ _ (intR_below (bA bR)) (hC.below (bA bR) (by decide) (by decide)) ⟨_, rfl, Own.new_ _ _ _⟩
    | 10, ho =>
     simp only [List.getElem?_toArray, List.getElem?_cons_zero, List.getElem?_cons_succ, Option.some.injEq] at ho
     subst ho
     simp only [fillA, Act.put, List.setIfInBounds_toArray, List.set_cons_zero, List.set_cons_succ] at hK ⊢
     have d0 := hd 8 ⟨⟨8, .data⟩, by simp, rfl, rfl⟩
     change x 43 = .pointer (some ⟨g, 0, none⟩) at d0
     have d1 := hd 9 ⟨⟨9, .data⟩, by simp, rfl, rfl⟩
     obtain ⟨gd1, d1, od1⟩ := d1
     change x 44 = .slice (some ⟨gd1, 0, none⟩) 4 4 at d1
     simp only [d0, d1] at hK ⊢
     have hcn : cn D [2, 5, 10] ≤ 3 := cn_le D _
     obtain ⟨Ar, nr, cr, hor, _⟩ := hC.1.rd.ok
     go_wp2_with fail
     refine (num_any w.heap.size g (p + cn D [2, 5, 10]) gd1 [3, 1, 7, 8] v hC.1.rd od1 (od1.ne hor (by decide)) (by omega) (by simp) (by simp)).mono ?_
     rintro e v' ⟨z, rfl, hz, hrd, hgr⟩
     go_simp
     exact hK _ _ (intR_oth (hC.1.oth hgr) (by decide)) (hC.read hD (by decide) (by decide) (by decide) hrd hgr) ⟨_, rfl⟩
    | 11, ho =>
     simp only [List.getElem?_toArray, List.getElem?_cons_zero, List.getElem?_cons_succ, Option.some.injEq] at ho
     subst ho
     simp only [fillA, Act.put, List.setIfInBounds_toArray, List.set_cons_zero, List.set_cons_succ] at hK ⊢
     have d0 := hd 0 ⟨⟨0, .data⟩, by simp, rfl, rfl⟩
     change x 35 = .agg #[.slice A1 m.t.bs.length c1, .slice A2 m.t.fs.length c2, .slice A3 m.c.ls.length c3, .int .i64 m.c.hand, .int .i64 m.g.count, .int .i64 m.g.next, .int .i64 m.g.round, .slice A4 m.g.os.length c4, .int .i64 m.sp] at d0
     have ho2 := hC.2.1
     rw [hD] at ho2
     simp only [Bool.false_eq_true, if_false] at ho2
     have r0x := ho2.cell_ 0 (v := .slice none 0 0) rfl
     have r1x := ho2.cell_ 1 (v := .slice none 0 0) rfl
     have r2x := ho2.cell_ 2 (v := .slice none 0 0) rfl
     have r3x := ho2.cell_ 3 (v := .int .i64 0) rfl
     have r4x := ho2.cell_ 4 (v := .int .i64 0) rfl
     have r5x := ho2.cell_ 5 (v := .int .i64 0) rfl
     have r6x := ho2.cell_ 6 (v := .int .i64 0) rfl
     have r7x := ho2.cell_ 7 (v := .slice none 0 0) rfl
     have r8x := ho2.cell_ 8 (v := .int .i64 0) rfl
     have z0x := ho2.free 0
     have z1x := ho2.free 1
     have z2x := ho2.free 2
     have z3x := ho2.free 3
     have z4x := ho2.free 4
     have z5x := ho2.free 5
     have z6x := ho2.free 6
     have z7x := ho2.free 7
     have z8x := ho2.free 8
     have hlo := ho2.lt
     simp only [d0] at hK ⊢
     go_simp
     exact hK undef _ (stS9_mach ho2 _ _ _ _ _ _ _ _ _) (hC.store hD (by decide) (Nat.le_refl _) (by omega) (by omega) (by omega)) trivial
    | 12, ho =>
     simp only [List.getElem?_toArray, List.getElem?_cons_zero, List.getElem?_cons_succ, Option.some.injEq] at ho
     subst ho
     simp only [fillA, Act.put, List.setIfInBounds_toArray, List.set_cons_zero, List.set_cons_succ] at hK ⊢
     have d0 := hd 6 ⟨⟨6, .data⟩, by simp, rfl, rfl⟩
     obtain ⟨ka, kb, d0, hs1⟩ := d0
     change x 41 = .agg #[.int .i64 ka, .int .i64 kb] at d0
     obtain ⟨a0, b0, ho2, hs2⟩ := hC.2.2
     have z0 := ho2.cell_ 0 (v := .int .i64 a0) rfl
     have z1 := ho2.cell_ 1 (v := .int .i64 b0) rfl
     have y0 := ho2.free 0
     have y1 := ho2.free 1
     have hlo := ho2.lt
     simp only [d0] at hK ⊢
     go_simp
     exact hK undef _ (intR_key ho2 _ _) (hC.key (by decide) (by decide) (by omega) (by omega) (by omega) (by omega) ka kb hs1) trivial
    | 13, ho =>
     simp only [List.getElem?_toArray, List.getElem?_cons_zero, List.getElem?_cons_succ, Option.some.injEq] at ho
     subst ho
     simp only [fillA, Act.put, List.setIfInBounds_toArray, List.set_cons_zero, List.set_cons_succ] at hK ⊢
     have d0 := hd 7 ⟨⟨7, .data⟩, by simp, rfl, rfl⟩
     change x 42 = .slice A8 l.length c8 at d0
     simp only [d0] at hK ⊢
     go_simp
     exact hK _ _ (intR_below bR) (hC.same (by decide) (by decide)) rfl
    | 14, ho =>
     simp only [List.getElem?_toArray, List.getElem?_cons_zero, List.getElem?_cons_succ, Option.some.injEq] at ho
     subst ho
     simp only [fillA, Act.put, List.setIfInBounds_toArray, List.set_cons_zero, List.set_cons_succ] at hK ⊢
     have d0 := hd 10 ⟨⟨10, .data⟩, by simp, rfl, rfl⟩
     obtain ⟨n0, d0⟩ := d0
     change x 45 = .int .i64 n0 at d0
     simp only [d0] at hK ⊢
     go_simp
     exact hK _ _ (intR_below bR) (hC.same (by decide) (by decide)) ⟨_, rfl⟩
    | _ + 15, ho => simp at ho
   intro D xa w9 hD hC hd
   obtain ⟨hps, hon, a, b, hok, hsb⟩ := hC
   rw [hD 11 (by decide)] at hon
   simp only [if_true] at hon
   have d13 := hd 13 (by decide)
   change xa 4 = .slice A8 l.length c8 at d13
   obtain ⟨r, d14⟩ := hd 14 (by decide)
   change xa 5 = .int .i64 r at d14
   simp only [fillA, Act.put, List.setIfInBounds_toArray, List.set_cons_zero, List.set_cons_succ, d13, d14]
   clear hd d13 d14 hD hL hX hN hK hM hR hB
   have p0t := hon.cell_ 0 (v := .slice A1 m.t.bs.length c1) rfl
   have p1t := hon.cell_ 1 (v := .slice A2 m.t.fs.length c2) rfl
   have p2t := hon.cell_ 2 (v := .slice A3 m.c.ls.length c3) rfl
   have p3t := hon.cell_ 3 (v := .int .i64 m.c.hand) rfl
   have p4t := hon.cell_ 4 (v := .int .i64 m.g.count) rfl
   have p5t := hon.cell_ 5 (v := .int .i64 m.g.next) rfl
   have p6t := hon.cell_ 6 (v := .int .i64 m.g.round) rfl
   have p7t := hon.cell_ 7 (v := .slice A4 m.g.os.length c4) rfl
   have p8t := hon.cell_ 8 (v := .int .i64 m.sp) rfl
   have k0 := hok.cell_ 0 (v := .int .i64 a) rfl
   have k1 := hok.cell_ 1 (v := .int .i64 b) rfl
   have HPS := Lib.hid hps
   clear hps hon hok
   go_wp2
   refine bodyPost_ret (v := .tuple #[.agg #[.slice A1 m.t.bs.length c1, .slice A2 m.t.fs.length c2, .slice A3 m.c.ls.length c3, .int .i64 m.c.hand, .int .i64 m.g.count, .int .i64 m.g.next, .int .i64 m.g.round, .slice A4 m.g.os.length c4, .int .i64 m.sp], .agg #[.int .i64 a, .int .i64 b], .slice A8 l.length c8, .int .i64 r]) (by simp [results, Tryz.results13, go_sem, p0t, p1t, p2t, p3t, p4t, p5t, p6t, p7t, p8t, k0, k1]) rfl ⟨_, rfl, m, _, _, _, _, a, b, r, A8, c8, l, rfl, HPS.out.mm, HZ.out, HPS.out.fr, by omega, hsb, HPS.out.bl⟩
end Go.Proofs.YtnaagdmaggdbmaaGreatDoor
