/- A part of the proofs of this seat: Gn, Ipl, RgsS, TbI. -/
import Derived.Deep.RegionHeldLaw
import Derived.Deep.LoopGhost
import Derived.Below
import Derived.Deep.CutRange
import Derived.StillTailTactics
import Derived.Test.YtibpnlojlfcpmaaGreatDoorRRgM
set_option linter.unusedVariables false
set_option linter.unusedSimpArgs false
set_option maxRecDepth 1000000
namespace Go.Proofs.YtibpnlojlfcpmaaGreatDoor
open Go.RowKit
def dn (D : Nat → Bool) (i : Nat) : Nat → Bool := fun j => if j = i then true else D j
theorem dn_ne {D : Nat → Bool} {i j : Nat} (h : j ≠ i) : dn D i j = D j := by unfold dn; rw [if_neg h]
structure GT (q : TypeId → Prop) (B : Nat) (sb : Option Nat) (n : Nat) (v v' : World) : Prop where
 oth : Oth q v v'
 own : ∀ (b : Nat) (t : TypeId) (cs : Array Value), Own v b t cs → t ≠ 172 → some b ≠ sb → Own v' b t cs
 bel : Below B v v'
 rd : ∀ g p, Rdr B v g p → ∃ p', p' ≤ p + 1000 * n ∧ Rdr B v' g p'
section
variable {q : TypeId → Prop} {B n : Nat} {sb : Option Nat} {v v' v'' : World}
theorem GT.same : GT q B sb n v v := ⟨⟨Nat.le_refl _, fun _ _ _ h _ => h⟩, fun _ _ _ h _ _ => h, Below.refl _ _, fun g p h => ⟨p, by omega, h⟩⟩
theorem GT.below (hb : Below v.heap.size v v') (hB : B ≤ v.heap.size) : GT q B sb n v v' :=
 ⟨Oth.of_below hb, fun _ _ _ h _ _ => h.below hb, hb.mono hB, fun g p h => ⟨p, by omega, rdr_below h hb⟩⟩
theorem GT.set {b i : Nat} {t : TypeId} {cs : Array Value} {u : Value} (ho : Own v b t cs) (hq : q t) (ht : t ≠ 172) (hB : B ≤ b) : GT q B (some b) 0 v (v.setCell ⟨b, i, none⟩ u) := by
 have hty : ∀ (t2 : TypeId) (cs2 : Array Value), Own v b t2 cs2 → t2 = t := by
  intro t2 cs2 h
  unfold Own at h ho
  rw [h] at ho
  simp at ho
  exact ho.2
 refine ⟨⟨by simp, fun b2 t2 cs2 h hn => h.far (p := ⟨b, i, none⟩) (fun e => ?_)⟩, fun b2 t2 cs2 h _ hne => h.far (p := ⟨b, i, none⟩) (fun e => hne (by rw [e])), (Below.refl B v).setCell hB u, fun g p h => ⟨p, by omega, rdr_far h (fun e => ?_) hB⟩⟩
 ·have e : b2 = b := e
  subst e
  exact hn (by rw [hty _ _ h]; exact hq)
 ·subst e
  obtain ⟨A, m, c, h2, _⟩ := h.ok
  exact (h2.ne ho (fun e => ht e.symm)) rfl
theorem GT.trans (h : GT q B sb 0 v v') (k : GT q B sb 0 v' v'') : GT q B sb 0 v v'' :=
 ⟨⟨Nat.le_trans h.oth.1 k.oth.1, fun b t cs o hn => k.oth.2 b t cs (h.oth.2 b t cs o hn) hn⟩, fun b t cs o ht hs => k.own b t cs (h.own b t cs o ht hs) ht hs, h.bel.trans k.bel, fun g p o => by
  obtain ⟨p1, e1, o1⟩ := h.rd g p o
  obtain ⟨p2, e2, o2⟩ := k.rd g p1 o1
  exact ⟨p2, by omega, o2⟩⟩
theorem GT.set9 {b : Nat} {t : TypeId} {cs : Array Value} (ho : Own v b t cs) (hq : q t) (ht : t ≠ 172) (hB : B ≤ b) (u0 u1 u2 u3 u4 u5 u6 u7 u8 : Value) :
  GT q B (some b) 0 v (((((((((v.setCell ⟨b, 0, none⟩ u0).setCell ⟨b, 1, none⟩ u1).setCell ⟨b, 2, none⟩ u2).setCell ⟨b, 3, none⟩ u3).setCell ⟨b, 4, none⟩ u4).setCell ⟨b, 5, none⟩ u5).setCell ⟨b, 6, none⟩ u6).setCell ⟨b, 7, none⟩ u7).setCell ⟨b, 8, none⟩ u8) := by
 have o1 := ho.set_ 0 u0
 have o2 := o1.set_ 1 u1
 have o3 := o2.set_ 2 u2
 have o4 := o3.set_ 3 u3
 have o5 := o4.set_ 4 u4
 have o6 := o5.set_ 5 u5
 have o7 := o6.set_ 6 u6
 have o8 := o7.set_ 7 u7
 exact ((((((((GT.set ho hq ht hB).trans (GT.set o1 hq ht hB)).trans (GT.set o2 hq ht hB)).trans (GT.set o3 hq ht hB)).trans (GT.set o4 hq ht hB)).trans (GT.set o5 hq ht hB)).trans (GT.set o6 hq ht hB)).trans (GT.set o7 hq ht hB)).trans (GT.set o8 hq ht hB)
end
structure SBx where
 op : Nat
 box : Nat
 ty : TypeId
 old : Array Value
 new : Array Value → World → Prop
def sbo : List SBx → Nat → Option Nat
 | [], _ => none
 | e :: S, i => if e.op = i then some e.box else sbo S i
theorem sbo_some {S : List SBx} {i b : Nat} (h : sbo S i = some b) : ∃ e ∈ S, e.op = i ∧ e.box = b := by
 induction S with
 | nil => cases h
 | cons e S ih =>
  unfold sbo at h
  split at h
  ·injection h with h
   exact ⟨e, by simp, ‹_›, h⟩
  ·obtain ⟨e2, h1, h2⟩ := ih h
   exact ⟨e2, by simp [h1], h2⟩
theorem sbo_none {S : List SBx} {i : Nat} (h : sbo S i = none) : ∀ e ∈ S, e.op ≠ i := by
 induction S with
 | nil => intro e he; cases he
 | cons e S ih =>
  unfold sbo at h
  split at h
  ·cases h
  ·intro e2 he
   rcases List.mem_cons.1 he with h2 | h2
   ·rw [h2]; assumption
   ·exact ih h e2 h2
def nn (nums : List Nat) (i : Nat) : Nat := if i ∈ nums then 1 else 0
theorem cn_dn {nums : List Nat} {D : Nat → Bool} {i : Nat} (hn : nums.Nodup) (hD : D i = false) : cn (dn D i) nums = cn D nums + nn nums i := by
 unfold nn dn
 split
 ·exact cn_more hD ‹_› hn
 ·exact cn_same ‹_›
structure GStat (q : TypeId → Prop) (nums : List Nat) (F : List (Nat × TypeId × Array Value)) (M : World → Prop) (S : List SBx) : Prop where
 nd : nums.Nodup
 hF : ∀ e ∈ F, e.2.1 ≠ 172 ∧ ∀ s ∈ S, s.box ≠ e.1
 hM : ∀ v v', Oth q v v' → M v → M v'
 hS : ∀ e ∈ S, e.ty ≠ 172 ∧ (∀ s ∈ S, s.box = e.box → s.op = e.op) ∧ (∀ s ∈ S, s.op = e.op → s = e) ∧ (∀ cs v v', Oth q v v' → e.new cs v → e.new cs v')
structure GC (B : Nat) (w0 : World) (rs : List (Nat × Nat)) (nums : List Nat) (F : List (Nat × TypeId × Array Value)) (M : World → Prop) (S : List SBx) (D : Nat → Bool) (v : World) : Prop where
 bl : Below B w0 v
 rd : ∀ e ∈ rs, ∃ p, p ≤ e.2 + 1000 * cn D nums ∧ Rdr B v e.1 p
 ob : ∀ e ∈ F, Own v e.1 e.2.1 e.2.2
 mm : M v
 st : ∀ e ∈ S, ∃ cs, Own v e.box e.ty cs ∧ (D e.op = false → cs = e.old) ∧ (D e.op = true → e.new cs v)
abbrev gtt (q : TypeId → Prop) (B : Nat) (nums : List Nat) (S : List SBx) (i : Nat) (v v' : World) : Prop := GT q B (sbo S i) (nn nums i) v v'
section
variable {q : TypeId → Prop} {B i : Nat} {w0 v v' : World} {rs : List (Nat × Nat)} {nums : List Nat} {F : List (Nat × TypeId × Array Value)} {M : World → Prop} {S : List SBx} {D : Nat → Bool}
theorem GC.step (h : GC B w0 rs nums F M S D v) (hs : GStat q nums F M S) (hD : D i = false) (ht : gtt q B nums S i v v') (hi0 : sbo S i = none) : GC B w0 rs nums F M S (dn D i) v' := by
 have hi := sbo_none hi0
 refine ⟨h.bl.trans ht.bel, fun e he => ?_, fun e he => ?_, hs.hM _ _ ht.oth h.mm, fun e he => ?_⟩
 ·obtain ⟨p, h1, h2⟩ := h.rd e he
  obtain ⟨p', h3, h4⟩ := ht.rd _ _ h2
  exact ⟨p', by rw [cn_dn hs.nd hD]; omega, h4⟩
 ·refine ht.own _ _ _ (h.ob e he) (hs.hF e he).1 fun e1 => ?_
  obtain ⟨s, h1, h2, h3⟩ := sbo_some e1.symm
  exact (hs.hF e he).2 s h1 h3
 ·obtain ⟨cs, h1, h2, h3⟩ := h.st e he
  obtain ⟨k1, k2, k3, k4⟩ := hs.hS e he
  refine ⟨cs, ht.own _ _ _ h1 k1 fun e1 => ?_, fun hd => h2 (by rwa [dn_ne (hi e he)] at hd), fun hd => k4 _ _ _ ht.oth (h3 (by rwa [dn_ne (hi e he)] at hd))⟩
  obtain ⟨s, m1, m2, m3⟩ := sbo_some e1.symm
  exact hi s m1 m2
end
structure KG (q : TypeId → Prop) (B : Nat) (nums : List Nat) (S : List SBx) where
 rd : List Nat
 P : (Nat → Bool) → (Nat → Value) → World → Prop
 loc : ∀ D x y v, (∀ s ∈ rd, x s = y s) → P D x v → P D y v
 keep : ∀ i D x v v', D i = false → P D x v → gtt q B nums S i v v' → P (dn D i) x v'
section
variable {q : TypeId → Prop} {B : Nat} {nums : List Nat} {S : List SBx}
def KG.eq (s : Nat) (u0 : Value) : KG q B nums S where
 rd := [s]
 P := fun _ x _ => x s = u0
 loc := fun _ x y _ h hp => by rw [← h s (by simp)]; exact hp
 keep := fun _ _ _ _ _ _ h _ => h
def KG.lit (hq : ¬ q 3) (s : Nat) (cs : Array Value) (n : Nat) : KG q B nums S where
 rd := [s]
 P := fun _ x v => ∃ gg : Nat, x s = .slice (some ⟨gg, 0, none⟩) n n ∧ Own v gg 3 cs
 loc := fun _ x y _ h hp => by rw [← h s (by simp)]; exact hp
 keep := fun _ _ _ _ _ _ ⟨gg, h1, h2⟩ ht => ⟨gg, h1, ht.oth.2 _ _ _ h2 hq⟩
def KG.val (s : Nat) (f : Value → World → Prop) (hf : ∀ u v v', Oth q v v' → f u v → f u v') : KG q B nums S where
 rd := [s]
 P := fun _ x v => f (x s) v
 loc := fun _ x y _ h hp => by rw [← h s (by simp)]; exact hp
 keep := fun _ _ _ _ _ _ h ht => hf _ _ _ ht.oth h
end
def chg (e : TypeId) : Prop := e = 172 ∨ e = 48 ∨ e = 61
theorem chg_ma : chg 48 := .inr (.inl rfl)
theorem chg_int : ¬ chg 3 := by unfold chg; decide
theorem MaM.chg {b : Nat} {w w' : World} {v1 v2 v3 v4 : Value} {m : Ma} (h : MaM b w v1 v2 v3 v4 m) (ho : Oth chg w w') : MaM b w' v1 v2 v3 v4 m :=
 h.oth ho (by unfold Proofs.YtibpnlojlfcpmaaGreatDoor.chg; decide) (by unfold Proofs.YtibpnlojlfcpmaaGreatDoor.chg; decide) (by unfold Proofs.YtibpnlojlfcpmaaGreatDoor.chg; decide) (by unfold Proofs.YtibpnlojlfcpmaaGreatDoor.chg; decide)
set_option maxHeartbeats 4000000 in
theorem sRangesOf_any (vb vf vl vo : Value) (m : Ma) (s : Int) (w : World) (hM : MaR w vb vf vl vo m) :
    Calls Tryz.prog 14 #[.agg #[vb, vf, vl, .int .i64 m.c.hand, .int .i64 m.g.count, .int .i64 m.g.next, .int .i64 m.g.round, vo, .int .i64 m.sp], .int .i64 s] w (Post2 fun v w' => ∃ pl, v = .tuple #[pl, .bool (rgsO m s)] ∧ RgR w.heap.size w' pl (rgsV m s) ∧ Below w.heap.size w w') := by
  obtain ⟨Af, cf, rfl, hfc, hfm, hL⟩ := id hM.t.f
  have HM := Hd hM
  clear hM hL hfm
  obtain ⟨W0, hW, hbx, hb0, hs0⟩ := box1 w #[vb, .slice Af m.t.fs.length cf, vl, .int .i64 m.c.hand, .int .i64 m.g.count, .int .i64 m.g.next, .int .i64 m.g.round, vo, .int .i64 m.sp] 48
  obtain ⟨W1, hW1, _, hb1, hs1⟩ := box1 W0 #[] 22
  have hown := owns_lit (base := W0.heap.size) (e := 22) W0 1 (Nat.le_refl _)
  rw [hW1] at hown
  have hr1 : RgS W0.heap.size W0 [] (.slice (some ⟨W0.heap.size, 0, none⟩) 0 0) W1 := ⟨⟨[], hown, GsM.nil⟩, hb1⟩
  have HX1 := Hd (hbx.below hb1)
  have HB0 := Hd hb0
  have HX0 := Hd hbx
  have hsz : W0.heap.size = w.heap.size + 1 := hs0
  have HR1 := Hd hr1
  have HS0 := Hd hsz
  clear hbx hb0 hb1 hown hr1 hsz hs0 hs1
  go_enter Tryz.func14, Tryz.ntmps14
  go_upto_region 2 with fail
  try rw [hW1]
  clear hW1
  obtain ⟨p0a, p1a, p2a, p3a, p4a, p5a, p6a, p7a, p8a⟩ := cells9 HX1.out
  go_wp2_with fail
  refine (sMachineValid_any vb (.slice Af m.t.fs.length cf) vl vo m _ (HM.out.now (bT HB0.out HR1.out.bl))).mono ?_
  rintro e w2 ⟨rfl, hb2⟩
  have HR2 := Hd (HR1.out.below hb2)
  clear hb2 p0a p1a p2a p3a p4a p5a p6a p7a p8a HX1 HR1
  cases h1 : mav m with
  | false =>
    have HA : Hid (rgsO m s = false) := by show _ = _; unfold rgsO; rw [h1]; rfl
    go_wp2
    go_ret2
    exact ⟨_, rfl, .slice (some ⟨W0.heap.size, 0, none⟩) 0 0, by rw [HA.out]; rfl, by rw [rgsV_no HA.out]; exact HR2.out.res.mono (by have := HS0.out; omega), bT HB0.out HR2.out.bl⟩
  | true =>
  cases h2 : inR s 16 with
  | false =>
    have HA : Hid (rgsO m s = false) := by show _ = _; unfold rgsO; rw [h1, h2]; rfl
    go_wp2_with fail
    refine (l1Space_any _ _).mono ?_
    rintro e w' ⟨rfl, rfl⟩
    rw [h2]
    go_wp2
    go_ret2
    exact ⟨_, rfl, .slice (some ⟨W0.heap.size, 0, none⟩) 0 0, by rw [HA.out]; rfl, by rw [rgsV_no HA.out]; exact HR2.out.res.mono (by have := HS0.out; omega), bT HB0.out HR2.out.bl⟩
  | true =>
  have HA : Hid (rgsO m s = true) := by show _ = _; unfold rgsO; rw [h1, h2]; rfl
  have HTV := Hd (mav_parts h1).1
  have HMV := Hd h1
  have hkl : (kys m.t).length ≤ 16 := by have := kys_len m.t; have := ((tv_parts (mav_parts h1).1).1).2.1; omega
  have hfl : m.t.fs.length ≤ 16 := ((tv_parts (mav_parts h1).1).1).2.1
  go_wp2_with fail
  refine (l1Space_any _ _).mono ?_
  rintro e w' ⟨rfl, rfl⟩
  rw [h2]
  clear h1 h2
  have hx2 := HX0.out.below HR2.out.bl
  have x0 := hx2.cell_ 0 (v := vb) rfl
  have x1 := hx2.cell_ 1 (v := .slice Af m.t.fs.length cf) rfl
  clear hx2
  go_wp2_with fail
  refine (KeysOf_any vb (.slice Af m.t.fs.length cf) m.t _ (HM.out.now (bT HB0.out HR2.out.bl)).t (by omega)).mono ?_
  rintro e w5 ⟨_, rfl, hko, hb5⟩
  obtain ⟨K, kc, rfl, hkc, _⟩ := own_rd hko
  have HKO := Hd hko
  have HR5 := Hd (HR2.out.below hb5)
  clear hko hb5 x0 x1 HR2
  go_wp2
  go_loopw [6, 8, 9] (fun pl la u wr => ∃ (k : Nat) (a : List Rng) (lp : Int), k ≤ (kys m.t).length ∧ u = .int .i64 k ∧ la = .int .i64 lp ∧ Hid (lp = lpg s ((kys m.t).take k)) ∧ Hid (a = rgs m.t s ((kys m.t).take k)) ∧ Hid (RgS W0.heap.size W0 a pl wr) ∧ Hid (wr.ownsRow w2.heap.size 61 2 (.slice K (kys m.t).length kc) (kys m.t).length (kcells (kys m.t)))) (fun _ _ u _ => (kys m.t).length - (intOf u).toNat)
  case atStart => exact ⟨0, [], -1, by omega, rfl, rfl, rfl, rfl, HR5.out, HKO.out⟩
  case round =>
    obtain ⟨k, a, lp, hk, rfl, rfl, hlp, ha, hR, hKO⟩ := hrel
    clear HR5 HKO
    by_cases hlt : k < (kys m.t).length
    · have hki : (k : Int) < ((kys m.t).length : Int) := by omega
      have hk0 : (0 : Int) ≤ (k : Int) := by omega
      obtain ⟨bq, oq, x, y, hKe, hbq2, y0, y1, e1⟩ := (show Ks wr.heap.size wr K (kys m.t) from (by obtain ⟨A', c', e', _, _, hrd⟩ := own_rd hKO.out; injection e' with e9; subst e9; exact hrd)).key2 hlt
      subst hKe
      have hsn : rgs m.t s ((kys m.t).take (k + 1)) = rgA m.t s a (x, y) := by rw [List.take_add_one, e1, ha.out]; exact rgs_snoc _ _ _ _
      have hln : lpg s ((kys m.t).take (k + 1)) = lpg s ((kys m.t).take k ++ [(x, y)]) := by rw [List.take_add_one, e1]; rfl
      have HSN := Hd hsn
      have HLN := Hd hln
      have HEK := Hd e1
      have HMEM := Hd (List.mem_of_getElem? e1)
      clear e1 hsn hln
      by_cases hxs : x = s
      · subst hxs
        obtain ⟨i, f, hi, ef, hrt⟩ := key_at HMV.out HMEM.out
        simp only at hi
        have hil := (List.getElem?_eq_some_iff.1 ef).1
        have hyk := (kys_ok HMEM.out).1
        have hkv : kval (x, y) = true := by have h9 := (takO_iff.1 (keys_takO HMV.out (s := x) (p := y) ((kys_perm HTV.out).mem_iff.1 HMEM.out))).2; unfold fOK at h9; simp only [Bool.and_eq_true] at h9; exact h9.1.2
        have HFN : Hid (∀ W, TaR W vb (.slice Af m.t.fs.length cf) m.t → Calls Tryz.prog 57 #[.agg #[vb, .slice Af m.t.fs.length cf], .agg #[.int .i64 x, .int .i64 y]] W fun r w' => ∃ n : Int, r = .returned (.tuple #[.int .i64 (i : Int), .int .i64 n]) ∧ Below W.heap.size W w') := Hd (fun W h => by have h9 := l3Find_any vb (.slice Af m.t.fs.length cf) m.t x y W h HTV.out hkv; rw [hi] at h9; exact h9)
        have hxr := HX0.out.below hR.out.bl
        have t0 := hxr.cell_ 0 (v := vb) rfl
        have t1 := hxr.cell_ 1 (v := .slice Af m.t.fs.length cf) rfl
        have HEF := Hd ef
        have HRT := Hd hrt
        have hii : (i : Int) < (m.t.fs.length : Int) := by omega
        have hi0 : (0 : Int) ≤ (i : Int) := by omega
        have hy1 : 0 ≤ y := hyk.2.2.1
        have hy2 : y ≤ 255 := hyk.2.2.2
        have HNL : Hid (y = lpg x ((kys m.t).take (k + 1))) := Hd (HLN.out.trans (lpg_snoc (k := (x, y)) rfl)).symm
        clear hi ef hrt hyk hkv hxr
        go_wp2
        go_region_held_law (fun w' => w'.cell? ⟨w.heap.size, 0, none⟩ = some vb ∧ w'.cell? ⟨w.heap.size, 1, none⟩ = some (.slice Af m.t.fs.length cf) ∧ w'.cell? ⟨bq, oq + k * 2, none⟩ = some (.int .i64 x) ∧ w'.cell? ⟨bq, oq + k * 2 + 1, none⟩ = some (.int .i64 y)) (go_keep) (first
          | (go_at_call 57
             refine (HFN.out _ (HM.out.now (bT HB0.out (bT hR.out.bl (bD (bR (w := wr)))))).t).mono ?_
             rintro _ wq ⟨nn, rfl, hbq⟩
             have HQ := Hd (bT (bD (bR (w := wr))) hbq)
             have hxq := HX0.out.below (bT hR.out.bl HQ.out)
             have t0q := hxq.cell_ 0 (v := vb) rfl
             have t1q := hxq.cell_ 1 (v := .slice Af m.t.fs.length cf) rfl
             have y0q := (HQ.out.cell (p := ⟨bq, oq + k * 2, none⟩) hbq2).trans y0
             have y1q := (HQ.out.cell (p := ⟨bq, oq + k * 2 + 1, none⟩) hbq2).trans y1
             clear hbq hxq))
        all_goals
          have HRQ := Hd (hR.out.below HQ.out)
          have HKQ := Hd (own_kept hKO.out HQ.out)
          obtain ⟨b', o', eA, hbb', d0, d1, d2, d3, d4⟩ := ((HM.out.now (bT HB0.out HRQ.out.bl)).t.fsl).fr HEF.out
          subst eA
          have hal : a.length ≤ 16 := by
            have h9 := (rg_pre (s := x) HTV.out k).len
            rw [← ha.out, List.length_take] at h9
            omega
          have HPOS := Hd (rg_pre (s := x) HTV.out k).pos
          have HLST := Hd (rg_pre (s := x) HTV.out k).last
          rw [← ha.out] at HPOS HLST
          rw [← hlp.out] at HLST
          have hsz0 : W0.heap.size ≤ wq.heap.size := HRQ.out.bl.size
          have HAPP := Hd (HRQ.out.appK (Nat.le_refl _) hsz0 (by omega))
          obtain ⟨A8, n8, c8, rfl, hn8⟩ := HRQ.out.sn
          clear t0 t1 y0 y1 d0 d1 d2 d4 hsz0 hR hKO
          by_cases hae : a = []
          · subst hae
            have HN0 : Hid (n8 = 0) := Hd (by simpa using hn8.symm)
            have hz1 : IntKind.i64.wrap ((n8 : Int) - 1) = -1 := by rw [HN0.out]; decide
            have HNX : Hid (rgs m.t x ((kys m.t).take (k + 1)) = [] ++ [(y, 1, f.r)]) := Hd (HSN.out.trans ((rgA_first (t := m.t) (s := x) (k := (x, y)) rfl).trans (by rw [HRT.out]; rfl)))
            clear hn8
            obtain ⟨v9, w9, hrun, hr9, hk9⟩ := HAPP.out _ (bR (w := wq)) (y, 1, f.r)
            have HR9 := Hd hr9
            have HK9 := Hd (own_row_keep HKQ.out hk9 (by decide))
            obtain ⟨u0, u1⟩ := own_keyc HK9.out rfl HEK.out
            have v0 := (own_keyc HKQ.out rfl HEK.out).2
            clear HAPP HRQ hr9 hk9 u0
            go_wp2_with (at_builtin; refine wpList_append_run _ rfl (.tmp 94) (.tmp 102) 35 rfl _ _ _ _ rfl rfl hrun ?_)
            go_roundw
            case rel => exact ⟨k + 1, ([] : List Rng) ++ [(y, 1, f.r)], y, by omega, by simp, rfl, HNL.out, HNX.out.symm, HR9.out, HK9.out⟩
            case measure => simp [intOf]; omega
          · obtain ⟨b, ⟨p0, c0, r0⟩, rfl⟩ : ∃ b z, a = b ++ [z] := ⟨a.dropLast, a.getLast hae, (List.dropLast_concat_getLast hae).symm⟩
            obtain ⟨q1, q2, q3⟩ := HPOS.out (p0, c0, r0) (by simp)
            have q4 := HLST.out (p0, c0, r0) (getLast_app _ _)
            simp only at q1 q2 q3 q4
            obtain ⟨g, A, o, c, hpl, hAl, hbmp⟩ := HRQ.out.bump (Nat.le_refl _) (c0 + 1)
            injection hpl with e1 e2 e3
            subst e1
            have HBM := Hd hbmp
            obtain ⟨c8e, hog, _⟩ := hbmp wq bR
            generalize hj : b.length = j at *
            have hj0 : (0 : Int) < (n8 : Int) := by omega
            have hj4 : 0 < n8 := by omega
            have hj1 : IntKind.i64.wrap ((n8 : Int) - 1) = (j : Int) := by rw [show (n8 : Int) - 1 = (j : Int) by omega]; exact IntWalk.i64_in _ (by omega)
            have hj2 : (j : Int) < (n8 : Int) := by omega
            have hj3 : (0 : Int) ≤ (j : Int) := by omega
            have hw1 : IntKind.i64.wrap (lp + 1) = p0 + c0 := by rw [← q4]; exact IntWalk.i64_in _ (by omega)
            have hw2 : IntKind.i64.wrap (c0 + 1) = c0 + 1 := IntWalk.i64_in _ (by omega)
            have s0 := hog.cell_ 0 (v := .int .i64 p0) rfl
            have s1 := hog.cell_ 1 (v := .int .i64 c0) rfl
            have s2 := hog.cell_ 2 (v := .int .i64 r0) rfl
            have s3 := hog.free 1
            have hgl := hog.lt
            clear hog hbmp hn8 hae hal q1 q2 q3 q4 e2 e3 hj
            by_cases hc1 : y = p0 + c0
            · have hc1b : (y == p0 + c0) = true := by rw [beq_iff_eq]; exact hc1
              by_cases hc2 : r0 = f.r
              · have hc2b : (r0 == f.r) = true := by rw [beq_iff_eq]; exact hc2
                have HNX : Hid (rgs m.t x ((kys m.t).take (k + 1)) = b ++ [(p0, c0 + 1, r0)]) := Hd (HSN.out.trans (rgA_more (t := m.t) (s := x) (a := b) (x := (p0, c0, r0)) (k := (x, y)) rfl ⟨hc1.symm, hc2.trans HRT.out.symm⟩))
                clear hc1 hc2
                obtain ⟨_, hog, hnx⟩ := HBM.out _ (bR (w := wq))
                have HNR := Hd (hnx.below (bD (bR (w := wq.setCell ⟨g, 1, none⟩ (.int .i64 (c0 + 1))))))
                have HKN := Hd (own_kept (own_row_set HKQ.out hog (by decide) 1 (.int .i64 (c0 + 1))) (bD (bR (w := wq.setCell ⟨g, 1, none⟩ (.int .i64 (c0 + 1))))))
                obtain ⟨u0, u1⟩ := own_keyc HKN.out rfl HEK.out
                clear hog hnx HBM HAPP u0
                go_wp2
                go_still_tail 12, (by kernel_rfl)
                go_wp2
                go_roundw
                case rel => exact ⟨k + 1, (b ++ [(p0, c0 + 1, r0)]), y, by omega, by simp, rfl, HNL.out, HNX.out.symm, HNR.out, HKN.out⟩
                case measure => simp [intOf]; omega
              · have hc2b : (r0 == f.r) = false := by rw [beq_eq_false_iff_ne]; exact hc2
                have HNX : Hid (rgs m.t x ((kys m.t).take (k + 1)) = b ++ [(p0, c0, r0)] ++ [(y, 1, f.r)]) := Hd (HSN.out.trans ((rgA_new (t := m.t) (s := x) (a := b) (x := (p0, c0, r0)) (k := (x, y)) rfl (fun h => hc2 (h.2.trans HRT.out))).trans (by rw [HRT.out])))
                clear hc1 hc2 HBM
                obtain ⟨v9, w9, hrun, hr9, hk9⟩ := HAPP.out _ (bR (w := wq)) (y, 1, f.r)
                have HR9 := Hd hr9
                have HK9 := Hd (own_row_keep HKQ.out hk9 (by decide))
                obtain ⟨u0, u1⟩ := own_keyc HK9.out rfl HEK.out
                have v0 := (own_keyc HKQ.out rfl HEK.out).2
                clear HAPP HRQ hr9 hk9 u0
                go_wp2_with (at_builtin; refine wpList_append_run _ rfl (.tmp 94) (.tmp 102) 35 rfl _ _ _ _ rfl rfl hrun ?_)
                go_roundw
                case rel => exact ⟨k + 1, (b ++ [(p0, c0, r0)]) ++ [(y, 1, f.r)], y, by omega, by simp, rfl, HNL.out, HNX.out.symm, HR9.out, HK9.out⟩
                case measure => simp [intOf]; omega
            · have hc1b : (y == p0 + c0) = false := by rw [beq_eq_false_iff_ne]; exact hc1
              have HNX : Hid (rgs m.t x ((kys m.t).take (k + 1)) = b ++ [(p0, c0, r0)] ++ [(y, 1, f.r)]) := Hd (HSN.out.trans ((rgA_new (t := m.t) (s := x) (a := b) (x := (p0, c0, r0)) (k := (x, y)) rfl (fun h => hc1 h.1.symm)).trans (by rw [HRT.out])))
              clear hc1 HBM
              obtain ⟨v9, w9, hrun, hr9, hk9⟩ := HAPP.out _ (bR (w := wq)) (y, 1, f.r)
              have HR9 := Hd hr9
              have HK9 := Hd (own_row_keep HKQ.out hk9 (by decide))
              obtain ⟨u0, u1⟩ := own_keyc HK9.out rfl HEK.out
              have v0 := (own_keyc HKQ.out rfl HEK.out).2
              clear HAPP HRQ hr9 hk9 u0
              go_wp2_with (at_builtin; refine wpList_append_run _ rfl (.tmp 94) (.tmp 102) 35 rfl _ _ _ _ rfl rfl hrun ?_)
              go_roundw
              case rel => exact ⟨k + 1, (b ++ [(p0, c0, r0)]) ++ [(y, 1, f.r)], y, by omega, by simp, rfl, HNL.out, HNX.out.symm, HR9.out, HK9.out⟩
              case measure => simp [intOf]; omega
      · have hne : (x == s) = false := by rw [beq_eq_false_iff_ne]; exact hxs
        have HNX : Hid (rgs m.t s ((kys m.t).take (k + 1)) = a) := Hd (HSN.out.trans (rgA_skip hxs))
        have HNL : Hid (lp = lpg s ((kys m.t).take (k + 1))) := Hd ((HLN.out.trans (lpg_skip hxs)).trans hlp.out.symm).symm
        go_wp2
        go_roundw
        case rel => exact ⟨k + 1, a, lp, by omega, by simp, rfl, HNL.out, HNX.out.symm, hR, hKO⟩
        case measure => simp [intOf]; omega
    · obtain rfl : k = (kys m.t).length := by omega
      have hki : decide (((kys m.t).length : Int) < ((kys m.t).length : Int)) = false := by simp
      have HV : Hid (rgsV m s = a) := by show _ = _; rw [ha.out, List.take_length]; unfold rgsV; rw [if_pos HA.out]
      obtain ⟨A8, n8, c8, rfl, _⟩ := hR.out.sn
      go_wp2
      go_ret2
      exact ⟨_, rfl, .slice A8 n8 c8, by rw [HA.out]; rfl, by rw [HV.out]; exact hR.out.res.mono (by have := HS0.out; omega), bT HB0.out hR.out.bl⟩
theorem row_oth {q : TypeId → Prop} {base n : Nat} {e : TypeId} {sz : Nat} {w v : World} {rv : Value} {xs : List Value} (h : w.ownsRow base e sz rv n xs) (ho : Oth q w v) (he : ¬ q e) : v.ownsRow base e sz rv n xs := by
 obtain ⟨h1, h2⟩ := h
 rcases h2 with ⟨e1, h0⟩ | ⟨g', cap, cur, e1, hb, hoo, hc⟩
 ·exact ⟨h1, .inl ⟨e1, h0⟩⟩
 ·exact ⟨h1, .inr ⟨g', cap, cur, e1, hb, ho.2 _ _ _ (show Own w g' e cur from hoo) he, hc⟩⟩
theorem SlM.clip {B n c : Nat} {w : World} {A : Option Addr} {l : List Int} (h : SlM intE 3 B w (.slice A n c) l) : SlM intE 3 B w (.slice A n n) l := by
 obtain ⟨A', c', e', h2, h3, h4⟩ := h
 injection e' with e1 e2 e3
 subst e1 e2
 exact ⟨A, l.length, rfl, Nat.le_refl _, by omega, h4⟩
theorem MineE.grow {α : Type} {E : Enc α} {e : TypeId} {B : Nat} {w w' : World} {A : Option Addr} {l : List α} {row : Option Nat} (h : MineE E e B w A l) (hg : w.grownBy w' row) (hr : ∀ k, row = some k → k < B) : MineE E e B w' A l := by
 refine ⟨⟨h.is.len, fun hn => ?_⟩, fun hl => ?_⟩
 ·obtain ⟨g, cs, rfl, hbg, ho, _⟩ := h.own hn
  obtain ⟨b, o, e, hb, hc⟩ := h.is.at_ hn
  injection e with e
  injection e with e1 e2
  subst e1 e2
  have ho2 := own_other ho hg (fun e => by have := hr _ e.symm; omega)
  refine ⟨g, 0, rfl, by have := hg.size; omega, fun j u hu => ?_⟩
  have hh := hc j u hu
  rw [ho.cell] at hh
  rw [ho2.cell]
  exact hh
 ·obtain ⟨g, cs, e, hbg, ho, hs⟩ := h.own hl
  exact ⟨g, cs, e, hbg, own_other ho hg (fun e => by have := hr _ e.symm; omega), hs⟩
theorem MaM.grow {B : Nat} {w w' : World} {v1 v2 v3 v4 : Value} {m : Ma} {row : Option Nat} (h : MaM B w v1 v2 v3 v4 m) (hg : w.grownBy w' row) (hr : ∀ k, row = some k → k < B) : MaM B w' v1 v2 v3 v4 m := by
 obtain ⟨⟨⟨A1, c1, r1, l1, k1, m1⟩, ⟨A2, c2, r2, l2, k2, m2⟩⟩, ⟨A3, c3, r3, l3, k3, m3⟩, ⟨A4, c4, r4, l4, k4, m4⟩⟩ := h
 exact ⟨⟨⟨A1, c1, r1, l1, k1, m1.grow hg hr⟩, ⟨A2, c2, r2, l2, k2, m2.grow hg hr⟩⟩, ⟨A3, c3, r3, l3, k3, m3.grow hg hr⟩, ⟨A4, c4, r4, l4, k4, m4.grow hg hr⟩⟩
def Apart (c1 pl : Value) : Prop := ∀ (a : Addr) (n c : Nat), c1 = .slice (some a) n c → 0 < n → pl.ownBlock ≠ some a.block
theorem apart_none {c1 : Value} {n c : Nat} : Apart c1 (.slice none n c) := fun _ _ _ _ _ h => by cases h
theorem Apart.clip {c1 : Value} {A : Option Addr} {n c n' c' : Nat} (h : Apart c1 (.slice A n c)) : Apart c1 (.slice A n' c') := by
 cases A with
 | none => exact apart_none
 | some a => exact h
structure TBs (w w3 : World) (k : Nat) (mk : Ma) (l : List Int) (c1 c2 c3 c4 pl : Value) (v : World) : Prop where
 ob : Own v w3.heap.size 48 #[c1, c2, c3, .int .i64 mk.c.hand, .int .i64 mk.g.count, .int .i64 mk.g.next, .int .i64 mk.g.round, c4, .int .i64 mk.sp]
 mr : MaR v c1 c2 c3 c4 mk
 mm : 0 < k → MaM w.heap.size v c1 c2 c3 c4 mk
 row : v.ownsRow (w3.heap.size + 1) 3 1 pl l.length (intE.cells l)
 rb : Own v (w.heap.size + 1) 48 #[.slice none 0 0, .slice none 0 0, .slice none 0 0, .int .i64 0, .int .i64 0, .int .i64 0, .int .i64 0, .slice none 0 0, .int .i64 0]
 bl : Below w3.heap.size w3 v
 ap : Apart c1 pl
theorem TBs.below {w w3 : World} {k : Nat} {mk : Ma} {l : List Int} {c1 c2 c3 c4 pl : Value} {v v' : World} (h : TBs w w3 k mk l c1 c2 c3 c4 pl v) (hb : Below v.heap.size v v') : TBs w w3 k mk l c1 c2 c3 c4 pl v' :=
 ⟨h.ob.below hb, h.mr.now hb, fun hk => (h.mm hk).now hb, own_kept h.row hb, h.rb.below hb, bT h.bl hb, h.ap⟩
theorem TBs.put {w w3 : World} {k : Nat} {mk m2 : Ma} {l : List Int} {c1 c2 c3 c4 pl : Value} {v : World} (h : TBs w w3 k mk l c1 c2 c3 c4 pl v) (hw : w.heap.size + 2 ≤ w3.heap.size) {u1 u2 u3 u4 : Value} (hm : MaM w.heap.size v u1 u2 u3 u4 m2) (hap : Apart u1 pl) :
  TBs w w3 (k + 1) m2 l u1 u2 u3 u4 pl (((((((((v.setCell ⟨w3.heap.size, 0, none⟩ u1).setCell ⟨w3.heap.size, 1, none⟩ u2).setCell ⟨w3.heap.size, 2, none⟩ u3).setCell ⟨w3.heap.size, 3, none⟩ (.int .i64 m2.c.hand)).setCell ⟨w3.heap.size, 4, none⟩ (.int .i64 m2.g.count)).setCell ⟨w3.heap.size, 5, none⟩ (.int .i64 m2.g.next)).setCell ⟨w3.heap.size, 6, none⟩ (.int .i64 m2.g.round)).setCell ⟨w3.heap.size, 7, none⟩ u4).setCell ⟨w3.heap.size, 8, none⟩ (.int .i64 m2.sp)) := by
 have hT := GT.set9 (q := chg) (B := w3.heap.size) h.ob chg_ma (by decide) (Nat.le_refl _) u1 u2 u3 (.int .i64 m2.c.hand) (.int .i64 m2.g.count) (.int .i64 m2.g.next) (.int .i64 m2.g.round) u4 (.int .i64 m2.sp)
 have hm2 := hm.chg hT.oth
 exact ⟨h.ob.set9 _ _ _ _ _ _ _ _ _, hm2.r, fun _ => hm2, row_oth h.row hT.oth chg_int, hT.own _ _ _ h.rb (by decide) (by intro e; injection e with e; omega), h.bl.trans hT.bel, hap⟩
theorem own_rs3 {w : World} {g : Nat} {x : Rng} (h : Own w g 3 (r3 x)) : Rs intE w.heap.size w (some ⟨g, 0, none⟩) [x.1, x.2.1, x.2.2] := by
 refine ⟨rfl, fun _ => ⟨g, 0, rfl, h.lt, fun j u hj => ?_⟩⟩
 rw [Nat.zero_add, h.cell]
 have e : intE.cells [x.1, x.2.1, x.2.2] = (r3 x).toList := by simp [Enc.cells, intE]
 rw [e] at hj
 simpa using hj
theorem RgR.now {B : Nat} {w w' : World} {pl : Value} {a : List Rng} (h : RgR B w pl a) (hb : Below w.heap.size w w') : RgR B w' pl a :=
 let ⟨gs, A, c, e, h1, h2⟩ := h; ⟨gs, A, c, e, h1.now hb, h2.below hb⟩
theorem RgR.at_ {B n c : Nat} {w : World} {A : Option Addr} {a : List Rng} (h : RgR B w (.slice A n c) a) {k : Nat} {x : Rng} (hk : a[k]? = some x) :
  ∃ b o g, A = some ⟨b, o, none⟩ ∧ b < w.heap.size ∧ w.cell? ⟨b, o + k, none⟩ = some (.slice (some ⟨g, 0, none⟩) 3 3) ∧ Own w g 3 (r3 x) := by
 obtain ⟨gs, A', c', e, ⟨A2, c2, e2, _, _, h4⟩, hg⟩ := h
 injection e2 with e3
 subst e3
 have hl := hg.len
 have hlt := (List.getElem?_eq_some_iff.1 hk).1
 have hgk : gs[k]? = some gs[k] := List.getElem?_eq_getElem (by omega)
 obtain ⟨b, o, e5, hb, hc⟩ := h4.is.sl hgk
 exact ⟨b, o, _, e5, hb, hc, (hg.at_ k _ x hgk hk).2⟩
theorem RgR.len {B n c : Nat} {w : World} {A : Option Addr} {a : List Rng} (h : RgR B w (.slice A n c) a) : n = a.length ∧ a.length ≤ 9223372036854775807 := by
 obtain ⟨gs, A', c', e, ⟨A2, c2, e2, h2, h3, _⟩, hg⟩ := h
 injection e with _ e4
 have := hg.len
 unfold maxLen at h3
 exact ⟨e4, by omega⟩
end Go.Proofs.YtibpnlojlfcpmaaGreatDoor
