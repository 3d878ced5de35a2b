/- A part of the proofs of this seat: Draw, Draw2, DrpT, FgS, KyI, Reg, Sz, TchP. -/
import Derived.Deep.LoopGhost
import Derived.Shelf.SlSortCmp.NoneTotal
import Derived.Deep.CutRange
import Derived.Test.YtibpnlojlfcpmaaGreatDoorADrpS
set_option linter.unusedVariables false
set_option linter.unusedSimpArgs false
set_option maxRecDepth 1000000
namespace Go.Proofs.YtibpnlojlfcpmaaGreatDoor
open Go.RowKit
set_option maxHeartbeats 4000000 in
theorem sDropPage_any (vl : Value) (c : Ca) (tag page : Int) (w : World) (hT : SlR lnE w vl c.ls) :
  Calls Tryz.prog 179 #[.agg #[vl, .int .i64 c.hand], .int .i64 tag, .int .i64 page] w (Post2 fun v w' => ∃ v1, v = .tuple #[.agg #[v1, .int .i64 (dpV c tag page).hand], .bool (dpO c tag page)] ∧ SlM lnE 129 w.heap.size w' v1 (dpV c tag page).ls ∧ Below w.heap.size w w') := by
 have HV := Hd hT
 obtain ⟨A, cc, rfl, hbc, hbm, hL⟩ := hT
 have HL := Hd hL
 have hbx := (Own.new_ w 43 #[.slice A c.ls.length cc, .int .i64 c.hand]).alloc (o := .cells #[.slice none 0 0, .int .i64 0] 43)
 have hbo := ownAt (W := w.alloc (.cells #[.slice A c.ls.length cc, .int .i64 c.hand] 43)) (g := w.heap.size + 1) (t := 43) (cs := #[.slice none 0 0, .int .i64 0]) (by simp)
 have hb0 : Below w.heap.size w ((w.alloc (.cells #[.slice A c.ls.length cc, .int .i64 c.hand] 43)).alloc (.cells #[.slice none 0 0, .int .i64 0] 43)) := bA (bA bR)
 have hs0 : ((w.alloc (.cells #[.slice A c.ls.length cc, .int .i64 c.hand] 43)).alloc (.cells #[.slice none 0 0, .int .i64 0] 43)).heap.size = w.heap.size + 2 := by simp
 generalize hW : (w.alloc (.cells #[.slice A c.ls.length cc, .int .i64 c.hand] 43)).alloc (.cells #[.slice none 0 0, .int .i64 0] 43) = W0 at hbx hbo hb0 hs0
 have q0 := hbx.cell_ 0 (v := .slice A c.ls.length cc) rfl
 have q1 := hbx.cell_ 1 (v := .int .i64 c.hand) rfl
 have HX0 := Hd hbx
 have HR0 := Hd hbo
 have HB0 := Hd hb0
 have HS0 : Hid (w.heap.size + 2 ≤ W0.heap.size) := Nat.le_of_eq hs0.symm
 clear hbx hbo hb0 hL
 go_enter Tryz.func179, Tryz.ntmps179
 go_wp2_with fail
 refine (sFindLine_any _ c tag page _ (HV.out.now HB0.out)).mono ?_
 rintro e w1 ⟨rfl, hb1⟩
 have HX1 := Hd (HX0.out.below hb1)
 have HR1 := Hd (HR0.out.below hb1)
 have HB1 := Hd (bT HB0.out hb1)
 have HS1 := Hd (Nat.le_trans HS0.out hb1.size)
 clear hb1
 clear q0 q1
 cases h1 : dpO c tag page with
 | false =>
  have HD := Hd (dpV_no h1)
  have hl1 := HR1.out.lt
  have r0 := HR1.out.cell_ 0 (v := .slice none 0 0) rfl
  have r1 := HR1.out.cell_ 1 (v := .int .i64 0) rfl
  have f0 := HR1.out.free 0
  have f1 := HR1.out.free 1
  go_wp2
  have o3 := (HR1.out.set_ 0 (.slice none 0 0)).set_ 1 (.int .i64 0)
  have t0 := o3.cell_ 0 (v := .slice none 0 0) rfl
  have t1 := o3.cell_ 1 (v := .int .i64 0) rfl
  refine bodyPost_ret (v := .tuple #[.agg #[.slice none 0 0, .int .i64 0], .bool false]) (by simp [results, Tryz.results179, go_sem, t0, t1]) rfl ⟨_, rfl, _, by rw [HD.out, h1]; rfl, by rw [HD.out]; exact SlM.nil_ _, bS (bS HB1.out (by simp)) (by simp)⟩
 | true =>
  have h2 := h1
  unfold dpO at h2
  simp only [Bool.and_eq_true, decide_eq_true_eq] at h2
  obtain ⟨⟨⟨hcv, _⟩, _⟩, h4⟩ := h2
  have hcl := (cav_parts hcv).2.1
  obtain ⟨k, x, hk, ex, _⟩ := plcI_lt h4
  have HD : Hid (dpV c tag page = ⟨c.ls.set k lnz, c.hand⟩) := by show _ = _; unfold dpV; rw [h1, if_pos rfl, hk, Int.toNat_natCast]
  have HF : Hid (flV c tag page = (k : Int)) := by show _ = _; unfold flV; rw [h1, if_pos rfl, hk]
  rw [HF.out]
  have hkl := (List.getElem?_eq_some_iff.1 ex).1
  have EX := Hd ex
  clear hk ex h4 hcv HF
  have q0 := HX1.out.cell_ 0 (v := .slice A c.ls.length cc) rfl
  have q1 := HX1.out.cell_ 1 (v := .int .i64 c.hand) rfl
  go_wp2_with fail
  refine (l4Copy_any _ c _ (HV.out.now HB1.out) (by omega)).mono ?_
  rintro e w2 ⟨_, rfl, v1, rfl, hM2, hb2⟩
  have hs1 := HS1.out
  have hlt1 := HR1.out.lt
  obtain ⟨A2, c2, rfl, l2, k2, m2⟩ := hM2
  obtain ⟨g2, cs2, rfl, hg2, O2, _⟩ := m2.own (by omega)
  have HX2 := Hd (HX1.out.below hb2)
  have HR2 := Hd (HR1.out.below hb2)
  have HB2 := Hd (bT HB1.out hb2)
  have HS2 := Hd (Nat.le_trans HS1.out hb2.size)
  clear hb2
  clear q0 q1
  have ho5 := Own.new_ w2 43 #[.slice (some ⟨g2, 0, none⟩) c.ls.length c2, .int .i64 c.hand]
  have hb5 : Below w2.heap.size w2 (w2.alloc (.cells #[.slice (some ⟨g2, 0, none⟩) c.ls.length c2, .int .i64 c.hand] 43)) := bA bR
  generalize hW5 : w2.alloc (.cells #[.slice (some ⟨g2, 0, none⟩) c.ls.length c2, .int .i64 c.hand] 43) = w5 at ho5 hb5
  have M5 := m2.below hb5
  have O5 := O2.below hb5
  have HX5 := Hd (HX2.out.below hb5)
  have HR5 := Hd (HR2.out.below hb5)
  have HB5 := Hd (bT HB2.out hb5)
  have HS5 := Hd (Nat.le_trans HS2.out hb5.size)
  clear hb5
  clear m2 O2
  have o50 := ho5.cell_ 0 (v := .slice (some ⟨g2, 0, none⟩) c.ls.length c2) rfl
  have o51 := ho5.cell_ 1 (v := .int .i64 c.hand) rfl
  have z0 := O5.free (k * 6)
  have z1 := O5.free (k * 6 + 1)
  have z2 := O5.free (k * 6 + 2)
  have z3 := O5.free (k * 6 + 3)
  have z4 := O5.free (k * 6 + 4)
  have z5 := O5.free (k * 6 + 5)
  obtain ⟨bq, oq, eq1, _, y0, y1, y2, y3, y4, y5⟩ := M5.is.ln EX.out
  injection eq1 with eq1
  injection eq1 with eq1 eq2
  subst eq1 eq2
  rw [Nat.zero_add] at y0 y1 y2 y3 y4 y5
  have HM5 := Hd M5
  have HO5 := Hd ho5
  have hne : w2.heap.size ≠ g2 := HO5.out.ne O5 (by decide)
  have hne2 : g2 ≠ w2.heap.size := fun h => hne h.symm
  have hlo := HO5.out.lt
  have q3 : w.heap.size + 1 ≠ g2 := HR5.out.ne O5 (by decide)
  have q4 : g2 ≠ w.heap.size + 1 := fun h => q3 h.symm
  have hlr := HR5.out.lt
  have r0 := HR5.out.cell_ 0 (v := .slice none 0 0) rfl
  have r1 := HR5.out.cell_ 1 (v := .int .i64 0) rfl
  have f0 := HR5.out.free 0
  have f1 := HR5.out.free 1
  have HML := Hd (HM5.out.wln hkl lnz)
  clear M5 O5 ho5
  go_wp2
  have g1 := ((((((HR5.out.far (p := ⟨g2, k * 6, none⟩) (u := .bool false) q3).far (p := ⟨g2, k * 6 + 1, none⟩) (u := .int .i64 0) q3).far (p := ⟨g2, k * 6 + 2, none⟩) (u := .int .i64 0) q3).far (p := ⟨g2, k * 6 + 3, none⟩) (u := .int .i64 0) q3).far (p := ⟨g2, k * 6 + 4, none⟩) (u := .int .i64 0) q3).far (p := ⟨g2, k * 6 + 5, none⟩) (u := .bool false) q3)
  have o3 := (g1.set_ 0 (.slice (some ⟨g2, 0, none⟩) c.ls.length c2)).set_ 1 (.int .i64 c.hand)
  have t0 := o3.cell_ 0 (v := .slice (some ⟨g2, 0, none⟩) c.ls.length c2) rfl
  have t1 := o3.cell_ 1 (v := .int .i64 c.hand) rfl
  refine bodyPost_ret (v := .tuple #[.agg #[.slice (some ⟨g2, 0, none⟩) c.ls.length c2, .int .i64 c.hand], .bool true]) (by simp [results, Tryz.results179, go_sem, t0, t1]) rfl ⟨_, rfl, _, by rw [HD.out, h1], ?_, ?_⟩
  ·rw [HD.out]
   exact (slm_of (by simp) (by simpa using l2) k2 ((HML.out.far (p := ⟨w.heap.size + 1, 0, none⟩) (u := .slice (some ⟨g2, 0, none⟩) c.ls.length c2) hlt1).far (p := ⟨w.heap.size + 1, 1, none⟩) (u := .int .i64 c.hand) hlt1)).mono (by have := HB1.out.size; omega)
  ·repeat (refine bS ?_ (by simp <;> omega))
   exact HB5.out
theorem tagT_ok {m : Ma} (h : tgv m.g = true) (s p : Int) : tagv (tagT m s p) = true := by
 unfold tagT
 split
 ·decide
 ·unfold tgT
  split
  ·rename_i h1
   unfold tgO at h1
   simp only [Bool.and_eq_true, decide_eq_true_eq] at h1
   obtain ⟨k, o, hk, eo, _⟩ := ownI_lt h1.2
   obtain ⟨b, ht⟩ := tgv_parts h
   obtain ⟨q, eq, _, q1, q2, _⟩ := tok_at ht (List.getElem?_eq_some_iff.1 eo).1
   rw [eo] at eq
   injection eq with eq
   subst eq
   rw [hk, Int.toNat_natCast, List.getD_eq_getElem?_getD, eo]
   exact tagv_iff.2 ⟨by simp only [Option.getD_some]; omega, by simp only [Option.getD_some]; omega⟩
  ·decide
theorem tlast_top {os : List (Int × Int)} {n : Int} : ∀ {k : Nat}, tok os n k = true → ∀ (j : Nat) (q : Int × Int), j < k → os[j]? = some q → q.2 ≤ tlast os k
  | 0, _, j, q, hj, _ => absurd hj (by omega)
  | k + 1, h, j, q, hj, e => by
    obtain ⟨o, eo, _, _, _, h1, _⟩ := tok_at h (Nat.lt_succ_self k)
    have h2 : tok os n k = true := by unfold tok at h; rw [Bool.and_eq_true] at h; exact h.1
    rw [tlast_of eo]
    rcases Nat.lt_or_ge j k with hlt | hge
    · have := tlast_top h2 j q hlt e
      omega
    · obtain rfl : j = k := by omega
      rw [eo] at e
      injection e with e
      rw [e]; exact Int.le_refl _
theorem tok_pre {os : List (Int × Int)} {n : Int} {m : Nat} : ∀ {k : Nat}, k ≤ m → tok os n m = true → tok os n k = true := by
 induction m with
 | zero =>
  intro k hk h
  obtain rfl : k = 0 := by omega
  rfl
 | succ m ih =>
  intro k hk h
  rcases Nat.lt_or_ge k (m + 1) with hlt | hge
  ·exact ih (by omega) (by unfold tok at h; rw [Bool.and_eq_true] at h; exact h.1)
  ·obtain rfl : k = m + 1 := by omega
   exact h
theorem spc_own {g : Tg} (hg : tgv g = true) {k : Nat} {o : Int × Int} (eo : g.os[k]? = some o) : spc g.os o.2 = some k := by
 obtain ⟨_, ht⟩ := tgv_parts hg
 have hk := (List.getElem?_eq_some_iff.1 eo).1
 refine spc_at eo (fun j q hj e hq => ?_) rfl
 obtain ⟨o', eo', _, _, _, h1, _⟩ := tok_at ht hk
 rw [eo] at eo'
 injection eo' with eo'
 have := tlast_top (tok_pre (Nat.le_of_lt hk) ht) j q hj e
 rw [eo'] at hq
 omega
theorem MV.tag {m : Ma} (M : MV m) (p : Int) : ((128 ≤ p) ↔ tagT m m.sp p = -1) ∧ (∀ x : Ln, x.p = p → x.t = tagT m m.sp p → ∃ s, lnSp m x = some s ∧ keyI s p = keyI m.sp p) := by
 obtain ⟨k, o, hk, eo, ho⟩ := ownI_lt M.o
 obtain ⟨b1, b2⟩ := tgO_yes M.g hk eo
 obtain ⟨_, ht⟩ := tgv_parts M.g
 obtain ⟨o', eo', _, q1, q2, _⟩ := tok_at ht (List.getElem?_eq_some_iff.1 eo).1
 rw [eo] at eo'
 injection eo' with eo'
 subst eo'
 by_cases h : 128 ≤ p
 ·have e1 : tagT m m.sp p = -1 := if_pos h
  refine ⟨⟨fun _ => e1, fun _ => h⟩, fun x hx _ => ⟨0, lnSp_sh (by rw [hx]; exact h), ?_⟩⟩
  unfold keyI
  rw [if_pos h, if_pos h]
 ·have e1 : tagT m m.sp p = o.2 := by unfold tagT; rw [if_neg h, b2]
  refine ⟨⟨fun h' => absurd h' h, fun h' => by rw [e1] at h'; omega⟩, fun x hx hxt => ⟨m.sp, ?_, rfl⟩⟩
  unfold lnSp
  rw [if_neg (by rw [hx]; exact h), hxt, e1, spc_own M.g eo]
  simp only
  rw [List.getD_eq_getElem?_getD, eo]
  simp only [Option.getD_some]
  rw [ho]
structure Bytes (B : Nat) (w : World) (A : Option Addr) (n : Nat) : Prop where
 at_ : ∀ j, j < n → ∃ (b o v : Nat), A = some ⟨b, o, none⟩ ∧ b < B ∧ w.cell? ⟨b, o + j, none⟩ = some (.int .u8 (v : Int)) ∧ v ≤ 255
theorem Bytes.keep {B : Nat} {w w' : World} {A : Option Addr} {n : Nat} (h : Bytes B w A n) (hk : ∀ p : Addr, p.block < B → w'.cell? p = w.cell? p) : Bytes B w' A n :=
 ⟨fun j hj => let ⟨b, o, v, e, hb, hc, h1⟩ := h.at_ j hj; ⟨b, o, v, e, hb, (hk _ hb).trans hc, h1⟩⟩
structure Rdr (B : Nat) (w : World) (g : Nat) (p : Nat) : Prop where
 ok : ∃ A n c, Own w g 172 #[.slice A n c, .int .i64 p] ∧ Bytes B w A n ∧ n ≤ 2000 ∧ B ≤ g
theorem rdr_grown {B : Nat} {w w' : World} {g p : Nat} (h : Rdr B w g p) (hg : w.grownBy w' none) : Rdr B w' g p := by
 obtain ⟨A, n, c, ho, hb, hn, hB⟩ := h.ok
 refine ⟨A, n, c, (hg.block g ho.lt (by simp)).trans ho, hb.keep fun q hq => World.cell?_of_block (hg.block q.block (by have := ho.lt; omega) (by simp)), hn, hB⟩
theorem rdr_grownb {B : Nat} {w w' : World} {g p k : Nat} (h : Rdr B w g p) (hg : w.grownBy w' (some k)) (hk : g < k) : Rdr B w' g p := by
 obtain ⟨A, n, c, ho, hb, hn, hB⟩ := h.ok
 refine ⟨A, n, c, (hg.block g ho.lt (by simp; omega)).trans ho, hb.keep fun q hq => World.cell?_of_block (hg.block q.block (by have := ho.lt; omega) (by simp; omega)), hn, hB⟩
theorem rdr_lt {B : Nat} {w : World} {g p : Nat} (h : Rdr B w g p) : g < w.heap.size := by
 obtain ⟨A, n, c, ho, _⟩ := h.ok
 exact ho.lt
theorem gr_below {w w' : World} {g : Nat} (hb : Below w.heap.size w w') : w.grownBy w' (some g) := ⟨hb.os, hb.tape, hb.output, hb.size, fun k hk _ => hb.block k hk⟩
theorem rdr_below {B : Nat} {w w' : World} {g p : Nat} (h : Rdr B w g p) (hb : Below w.heap.size w w') : Rdr B w' g p := rdr_grown h ⟨hb.os, hb.tape, hb.output, hb.size, fun k hk _ => hb.block k hk⟩
theorem oth_gr {w w' : World} {g : Nat} {ty : TypeId} {cs : Array Value} (hg : w.grownBy w' (some g)) (ho : Own w g ty cs) : Oth (fun e => e = ty) w w' := by
 refine ⟨hg.size, fun g' e cs' h hne => (hg.block g' h.lt ?_).trans h⟩
 intro hh
 injection hh with hh
 subst hh
 unfold Own at h ho
 rw [ho] at h
 injection h with h
 injection h with _ h2
 exact hne h2.symm
theorem MaM.gr {B B' : Nat} {w w' : World} {g p : Nat} {v1 v2 v3 v4 : Value} {m : Ma} (h : MaM B w v1 v2 v3 v4 m) (hr : Rdr B' w g p) (hg : w.grownBy w' (some g)) : MaM B w' v1 v2 v3 v4 m := by
 obtain ⟨A, n, c, ho, _⟩ := hr.ok
 exact h.oth (oth_gr hg ho) (by decide) (by decide) (by decide) (by decide)
theorem g_set {w0 w : World} {r : Option Nat} {b i : Nat} {u : Value} (hb : w0.heap.size ≤ b) (h : w0.grownBy w r) : w0.grownBy (w.setCell ⟨b, i, none⟩ u) r :=
 ⟨h.os, h.tape, h.output, by simpa using h.size, fun k hk hne => (Below.heap_setCell w _ u k (by intro e; have e : k = b := e; omega)).trans (h.block k hk hne)⟩
theorem rdr_set1 {B : Nat} {w : World} {g p b i : Nat} {u : Value} (hb : g < b) (h : Rdr B w g p) : Rdr B (w.setCell ⟨b, i, none⟩ u) g p := by
 have hl := rdr_lt h
 exact rdr_grownb h ⟨rfl, rfl, rfl, by simp, fun k hk hne => Below.heap_setCell w _ u k (by rintro rfl; exact hne rfl)⟩ hb
def cn (D : Nat → Bool) : List Nat → Nat
 | [] => 0
 | a :: l => (if D a = true then 1 else 0) + cn D l
theorem cn_same {D : Nat → Bool} {i : Nat} : ∀ {l : List Nat}, i ∉ l → cn (fun j => if j = i then true else D j) l = cn D l
  | [], _ => rfl
  | a :: l, h => by
    have h1 : a ≠ i := fun e => h (by simp [e])
    unfold cn
    rw [cn_same (fun h2 => h (by simp [h2])), if_neg h1]
abbrev othR (v v' : World) : Prop := Oth (fun e => e = 172) v v'
structure KX (si : Nat) where
 rd : List Nat
 P : Nat → (Nat → Value) → World → Prop
 loc : ∀ j x y v, (∀ s ∈ rd, x s = y s) → P j x v → P j y v
 kb : ∀ j x v v', P j x v → othR v v' → P j x v'
 ks : ∀ j x v v', j ≠ si → P j x v → stS 48 9 v v' → P j x v'
section
variable {si : Nat}
def KX.eq (s : Nat) (u0 : Value) : KX si where
 rd := [s]
 P := fun _ x _ => x s = u0
 loc := fun _ x y _ h hp => by rw [← h s (by simp)]; exact hp
 kb := fun _ _ _ _ h _ => h
 ks := fun _ _ _ _ _ h _ => h
def KX.lit (s : Nat) (cs : Array Value) (n : Nat) : KX si where
 rd := [s]
 P := fun _ x v => ∃ gg : Nat, x s = .slice (some ⟨gg, 0, none⟩) n n ∧ Own v gg 3 cs
 loc := fun _ x y _ h hp => by rw [← h s (by simp)]; exact hp
 kb := fun _ _ _ _ ⟨gg, h1, h2⟩ ho => ⟨gg, h1, ho.2 _ _ _ h2 (by decide)⟩
 ks := fun _ _ _ _ _ ⟨gg, h1, h2⟩ hs => ⟨gg, h1, hs.1.2 _ _ _ h2 (by decide)⟩
def KX.tup (s B : Nat) (f : Ma → Value → Value → Value → Value → Value → Prop) : KX si where
 rd := [s]
 P := fun _ x v => ∃ (m : Ma) (e1 e2 e3 e4 : Value), f m e1 e2 e3 e4 (x s) ∧ MaM B v e1 e2 e3 e4 m
 loc := fun _ x y _ h hp => by rw [← h s (by simp)]; exact hp
 kb := fun _ _ _ _ ⟨m, e1, e2, e3, e4, h1, h2⟩ ho => ⟨m, e1, e2, e3, e4, h1, h2.oth ho (by decide) (by decide) (by decide) (by decide)⟩
 ks := fun _ _ _ _ _ ⟨m, e1, e2, e3, e4, h1, h2⟩ hs => ⟨m, e1, e2, e3, e4, h1, h2.oth hs.1 (by decide) (by decide) (by decide) (by decide)⟩
def KX.part (t s i : Nat) : KX si where
 rd := [t, s]
 P := fun _ x _ => ∃ vs : Array Value, x t = .tuple vs ∧ vs[i]? = some (x s)
 loc := fun _ x y _ h hp => by rw [← h s (by simp), ← h t (by simp)]; exact hp
 kb := fun _ _ _ _ h _ => h
 ks := fun _ _ _ _ _ h _ => h
def KX.box (s b : Nat) : KX si where
 rd := [s]
 P := fun _ x v => ∃ (gb : Nat) (cs : Array Value), x s = .pointer (some ⟨gb, 0, none⟩) ∧ b ≤ gb ∧ cs.size = 9 ∧ Own v gb 48 cs
 loc := fun _ x y _ h hp => by rw [← h s (by simp)]; exact hp
 kb := fun _ _ _ _ ⟨gb, cs, h1, h2, h3, h4⟩ ho => ⟨gb, cs, h1, h2, h3, ho.2 _ _ _ h4 (by decide)⟩
 ks := fun _ _ _ _ _ ⟨gb, cs, h1, h2, h3, h4⟩ hs => let ⟨cs', e1, e2⟩ := hs.2 gb cs h3 h4; ⟨gb, cs', h1, h2, e1, e2⟩
def KX.put (t nb B : Nat) (f : Ma → Value → Value → Value → Value → Value → Prop) : KX si where
 rd := [t]
 P := fun j x v => j = si ∧ ∃ (m : Ma) (e1 e2 e3 e4 : Value), f m e1 e2 e3 e4 (x t) ∧ MaM B v e1 e2 e3 e4 m ∧ Own v nb 48 #[e1, e2, e3, .int .i64 m.c.hand, .int .i64 m.g.count, .int .i64 m.g.next, .int .i64 m.g.round, e4, .int .i64 m.sp]
 loc := fun _ x y _ h hp => by rw [← h t (by simp)]; exact hp
 kb := fun _ _ _ _ ⟨hj, m, e1, e2, e3, e4, h3, h4, h5⟩ ho => ⟨hj, m, e1, e2, e3, e4, h3, h4.oth ho (by decide) (by decide) (by decide) (by decide), ho.2 _ _ _ h5 (by decide)⟩
 ks := fun _ _ _ _ hne ⟨hj, _⟩ _ => absurd hj hne
end
structure DC (B : Nat) (w : World) (g q : Nat) (F : List (Nat × TypeId × Array Value)) (vb vf vl vo : Value) (m : Ma) (v : World) : Prop where
 rd : Rdr B v g q
 gr : w.grownBy v (some g)
 mm : MaM B v vb vf vl vo m
 ob : ∀ e ∈ F, Own v e.1 e.2.1 e.2.2
 ty : ∀ e ∈ F, e.2.1 ≠ 172
section
variable {B g q : Nat} {F : List (Nat × TypeId × Array Value)} {w : World} {vb vf vl vo : Value} {m : Ma} {v v' : World}
theorem DC.below (h : DC B w g q F vb vf vl vo m v) (hb : Below v.heap.size v v') : DC B w g q F vb vf vl vo m v' :=
 ⟨rdr_below h.rd hb, gT h.gr (gr_below hb), h.mm.now hb, fun e he => (h.ob e he).below hb, h.ty⟩
theorem DC.oth (h : DC B w g q F vb vf vl vo m v) (hg : v.grownBy v' (some g)) : othR v v' := by
 obtain ⟨A, n, c, ho, _⟩ := h.rd.ok
 exact oth_gr hg ho
theorem DC.set1 (h : DC B w g q F vb vf vl vo m v) {b i : Nat} {u : Value} (hw : w.heap.size ≤ b) (hg : g < w.heap.size) (hm : ∀ e ∈ F, e.1 ≠ b) {cs : Array Value} (ho : Own v b 48 cs) : DC B w g q F vb vf vl vo m (v.setCell ⟨b, i, none⟩ u) :=
 ⟨rdr_set1 (by omega) h.rd, g_set hw h.gr, h.mm.farT ho, fun e he => (h.ob e he).far (hm e he), h.ty⟩
theorem DC.set9 (h : DC B w g q F vb vf vl vo m v) {b : Nat} (hw : w.heap.size ≤ b) (hg : g < w.heap.size) (hm : ∀ e ∈ F, e.1 ≠ b) {cs : Array Value} (ho : Own v b 48 cs) (u0 u1 u2 u3 u4 u5 u6 u7 u8 : Value) :
  DC B w g q F vb vf vl vo m (((((((((v.setCell ⟨b, 0, none⟩ u0).setCell ⟨b, 1, none⟩ u1).setCell ⟨b, 2, none⟩ u2).setCell ⟨b, 3, none⟩ u3).setCell ⟨b, 4, none⟩ u4).setCell ⟨b, 5, none⟩ u5).setCell ⟨b, 6, none⟩ u6).setCell ⟨b, 7, none⟩ u7).setCell ⟨b, 8, none⟩ u8) := by
 have o1 := ho.set_ 0 u0
 have o2 := o1.set_ 1 u1
 have o3 := o2.set_ 2 u2
 have o4 := o3.set_ 3 u3
 have o5 := o4.set_ 4 u4
 have o6 := o5.set_ 5 u5
 have o7 := o6.set_ 6 u6
 have o8 := o7.set_ 7 u7
 exact ((((((((h.set1 hw hg hm ho).set1 hw hg hm o1).set1 hw hg hm o2).set1 hw hg hm o3).set1 hw hg hm o4).set1 hw hg hm o5).set1 hw hg hm o6).set1 hw hg hm o7).set1 hw hg hm o8
theorem DC.own (h : DC B w g q F vb vf vl vo m v) {b : Nat} {t : TypeId} {cs : Array Value} (he : (b, t, cs) ∈ F) : Own v b t cs := h.ob _ he
end
def CX (B : Nat) (w : World) (g q : Nat) (F : List (Nat × TypeId × Array Value)) (vb vf vl vo : Value) (m : Ma) (l : List Nat) (si : Nat) (nb : Option Nat) (D : Nat → Bool) (v : World) : Prop :=
 DC B w g (q + cn D l) F vb vf vl vo m v ∧ (∀ b, nb = some b → D si = false → ∃ cs : Array Value, cs.size = 9 ∧ Own v b 48 cs)
section
variable {B g q si i : Nat} {w v v' : World} {F : List (Nat × TypeId × Array Value)} {vb vf vl vo : Value} {m : Ma} {l : List Nat} {nb : Option Nat} {D : Nat → Bool}
theorem upd_f (hs : i ≠ si) (h : (fun j => if j = i then true else D j) si = false) : D si = false := by
 simp only at h
 rw [if_neg (fun e => hs e.symm)] at h
 exact h
theorem CX.below (h : CX B w g q F vb vf vl vo m l si nb D v) (hb : Below v.heap.size v v') (hi : i ∉ l) (hs : i ≠ si) : CX B w g q F vb vf vl vo m l si nb (fun j => if j = i then true else D j) v' := by
 unfold CX
 rw [cn_same hi]
 exact ⟨h.1.below hb, fun b hn hd => let ⟨cs, h1, h2⟩ := h.2 b hn (upd_f hs hd); ⟨cs, h1, h2.below hb⟩⟩
end
theorem drp_no {m : Ma} {s p : Int} (h : tagO m s p = true) (hc : dpO m.c (tagT m s p) p = false) (hv : cav m.c = true) (hg : tgv m.g = true) (hp : inR p 256 = true) : drpC m s p = m.c := by
 refine drpC_neg fun h4 => ?_
 unfold dpO at hc
 rw [hv, tagT_ok hg, hp, decide_eq_true h4] at hc
 cases hc
theorem drp_yes {m : Ma} {s p : Int} (h : tagO m s p = true) (hc : dpO m.c (tagT m s p) p = true) : drpC m s p = dpV m.c (tagT m s p) p := by
 unfold drpC dpV
 rw [hc, if_pos rfl]
 unfold dpO at hc
 simp only [Bool.and_eq_true, decide_eq_true_eq] at hc
 rw [if_pos ⟨h, hc.2⟩]
set_option maxHeartbeats 4000000 in
theorem l6Forget_any (vb vf vl vo : Value) (m : Ma) (s p : Int) (w : World) (hM : MaR w vb vf vl vo m) (hm : mav m = true) (hp : inR p 256 = true) :
  Calls Tryz.prog 108 #[.agg #[vb, vf, vl, .int .i64 m.c.hand, .int .i64 m.g.count, .int .i64 m.g.next, .int .i64 m.g.round, vo, .int .i64 m.sp], .agg #[.int .i64 s, .int .i64 p]] w (Post2 fun v w' => ∃ v1 v2 v3 v4, v = .agg #[v1, v2, v3, .int .i64 (drpM m m.t s p).c.hand, .int .i64 (drpM m m.t s p).g.count, .int .i64 (drpM m m.t s p).g.next, .int .i64 (drpM m m.t s p).g.round, v4, .int .i64 (drpM m m.t s p).sp] ∧ MaM w.heap.size w' v1 v2 v3 v4 (drpM m m.t s p) ∧ Below w.heap.size w w') := by
 obtain ⟨htv, hcv, hgv, _⟩ := mav_parts hm
 obtain ⟨a1, a2, a3, a4⟩ := mav_len hm
 obtain ⟨W0, hW, hbx, hbk, hbo, hb0, hs0⟩ := box3 w #[vb, vf, vl, .int .i64 m.c.hand, .int .i64 m.g.count, .int .i64 m.g.next, .int .i64 m.g.round, vo, .int .i64 m.sp] 48 #[.int .i64 s, .int .i64 p] 61 #[.slice none 0 0, .slice none 0 0, .slice none 0 0, .int .i64 0, .int .i64 0, .int .i64 0, .int .i64 0, .slice none 0 0, .int .i64 0] 48
 have HX0 := Hd hbx
 have HK0 := Hd hbk
 have HR0 := Hd hbo
 have HB0 := Hd hb0
 have HS0 : Hid (w.heap.size + 3 ≤ W0.heap.size) := Nat.le_of_eq hs0.symm
 clear hbx hbk hbo hb0
 have HM := Hd hM
 clear hM
 obtain ⟨m00, m10, m20, m30, m40, m50, m60, m70, m80⟩ := cells9 HX0.out
 go_enter Tryz.func108, Tryz.ntmps108
 go_wp2_with fail
 refine (l6Copy_any vb vf vl vo m _ (HM.out.now HB0.out) a1 a2 a3 a4).mono ?_
 rintro e w3 ⟨_, rfl, q1, q2, q3, q4, rfl, hM3, hb3⟩
 have hM3' := hM3.mono (B' := w.heap.size + 3) HS0.out
 obtain ⟨B1, d1, rfl, _⟩ := hM3.t.b
 obtain ⟨B2, d2, rfl, _⟩ := hM3.t.f
 obtain ⟨B3, d3, rfl, _⟩ := hM3.l
 obtain ⟨B4, d4, rfl, _⟩ := hM3.o
 have HX3 := Hd (HX0.out.below hb3)
 have HK3 := Hd (HK0.out.below hb3)
 have HR3 := Hd (HR0.out.below hb3)
 have HB3 := Hd (bT HB0.out hb3)
 have HS3 := Hd (Nat.le_trans HS0.out hb3.size)
 clear hb3
 clear m00 m10 m20 m30 m40 m50 m60 m70 m80
 have ho4 := Own.new_ w3 48 #[.slice B1 m.t.bs.length d1, .slice B2 m.t.fs.length d2, .slice B3 m.c.ls.length d3, .int .i64 m.c.hand, .int .i64 m.g.count, .int .i64 m.g.next, .int .i64 m.g.round, .slice B4 m.g.os.length d4, .int .i64 m.sp]
 have hb4 : Below w3.heap.size w3 (w3.alloc (.cells #[.slice B1 m.t.bs.length d1, .slice B2 m.t.fs.length d2, .slice B3 m.c.ls.length d3, .int .i64 m.c.hand, .int .i64 m.g.count, .int .i64 m.g.next, .int .i64 m.g.round, .slice B4 m.g.os.length d4, .int .i64 m.sp] 48)) := bA bR
 have hgt : w.heap.size + 3 ≤ w3.heap.size := HS3.out
 generalize hW4 : w3.alloc (.cells #[.slice B1 m.t.bs.length d1, .slice B2 m.t.fs.length d2, .slice B3 m.c.ls.length d3, .int .i64 m.c.hand, .int .i64 m.g.count, .int .i64 m.g.next, .int .i64 m.g.round, .slice B4 m.g.os.length d4, .int .i64 m.sp] 48) = w4 at ho4 hb4
 have HM4 := Hd (hM3'.now hb4)
 have HO4 := Hd ho4
 have HX4 := Hd (HX3.out.below hb4)
 have HK4 := Hd (HK3.out.below hb4)
 have HR4 := Hd (HR3.out.below hb4)
 have HB4 := Hd (bT HB3.out hb4)
 have HS4 := Hd (Nat.le_trans HS3.out hb4.size)
 clear hb4
 clear hM3 hM3' ho4
 obtain ⟨m04, m14, m24, m34, m44, m54, m64, m74, m84⟩ := cells9 HX4.out
 have k04 := HK4.out.cell_ 0 (v := .int .i64 s) rfl
 have k14 := HK4.out.cell_ 1 (v := .int .i64 p) rfl
 go_wp2_with fail
 refine (l6Tag_any vb vf vl vo m s p _ (HM.out.now HB4.out) hgv).mono ?_
 rintro e w5 ⟨rfl, hb5⟩
 have HM5 := Hd (HM4.out.now hb5)
 have HO5 := Hd (HO4.out.below hb5)
 have HX5 := Hd (HX4.out.below hb5)
 have HK5 := Hd (HK4.out.below hb5)
 have HR5 := Hd (HR4.out.below hb5)
 have HB5 := Hd (bT HB4.out hb5)
 have HS5 := Hd (Nat.le_trans HS4.out hb5.size)
 clear hb5
 clear m04 m14 m24 m34 m44 m54 m64 m74 m84
 clear k04 k14 hW4
 cases hto : tagO m s p with
 | false =>
  have HV : Hid (drpM m m.t s p = m) := by show _ = _; unfold drpM; rw [drpC_no hto]
  obtain ⟨r0x, r1x, r2x, r3x, r4x, r5x, r6x, r7x, r8x⟩ := cells9 HR5.out
  obtain ⟨z0x, z1x, z2x, z3x, z4x, z5x, z6x, z7x, z8x⟩ := free9 HR5.out
  obtain ⟨p0o, p1o, p2o, p3o, p4o, p5o, p6o, p7o, p8o⟩ := cells9 HO5.out
  have hlr := HR5.out.lt
  have hlo := HO5.out.lt
  go_wp2
  have o3 := HR5.out.set9 (.slice B1 m.t.bs.length d1) (.slice B2 m.t.fs.length d2) (.slice B3 m.c.ls.length d3) (.int .i64 (m).c.hand) (.int .i64 m.g.count) (.int .i64 m.g.next) (.int .i64 m.g.round) (.slice B4 m.g.os.length d4) (.int .i64 m.sp)
  obtain ⟨p0t, p1t, p2t, p3t, p4t, p5t, p6t, p7t, p8t⟩ := cells9 o3
  refine bodyPost_ret (v := .agg #[.slice B1 m.t.bs.length d1, .slice B2 m.t.fs.length d2, .slice B3 m.c.ls.length d3, .int .i64 m.c.hand, .int .i64 m.g.count, .int .i64 m.g.next, .int .i64 m.g.round, .slice B4 m.g.os.length d4, .int .i64 m.sp]) (by simp [results, Tryz.results108, go_sem, p0t, p1t, p2t, p3t, p4t, p5t, p6t, p7t, p8t]) rfl ⟨_, rfl, _, _, _, _, by rw [HV.out], ?_, ?_⟩
  ·rw [HV.out]
   exact (HM5.out.far9 HR5.out _ _ _ _ _ _ _ _ _).mono (by omega)
  ·repeat (refine bS ?_ (by simp <;> omega))
   exact HB5.out
 | true =>
  obtain ⟨m05, m15, m25, m35, m45, m55, m65, m75, m85⟩ := cells9 HX5.out
  have k05 := HK5.out.cell_ 0 (v := .int .i64 s) rfl
  have k15 := HK5.out.cell_ 1 (v := .int .i64 p) rfl
  go_wp2_with fail
  refine (sDropPage_any vl m.c (tagT m s p) p _ (HM.out.l.now HB5.out)).mono ?_
  rintro e w6 ⟨_, rfl, v1, rfl, hL6, hb6⟩
  obtain ⟨B5, d5, rfl, _⟩ := hL6
  have hs5 := HS5.out
  have ho7 := Own.new_ w6 43 #[.slice B5 (dpV m.c (tagT m s p) p).ls.length d5, .int .i64 (dpV m.c (tagT m s p) p).hand]
  have hb7 : Below w6.heap.size w6 (w6.alloc (.cells #[.slice B5 (dpV m.c (tagT m s p) p).ls.length d5, .int .i64 (dpV m.c (tagT m s p) p).hand] 43)) := bA bR
  have HL6 : Hid (SlM lnE 129 w5.heap.size w6 (.slice B5 (dpV m.c (tagT m s p) p).ls.length d5) (dpV m.c (tagT m s p) p).ls) := ⟨B5, d5, rfl, by assumption⟩
  generalize hW7 : w6.alloc (.cells #[.slice B5 (dpV m.c (tagT m s p) p).ls.length d5, .int .i64 (dpV m.c (tagT m s p) p).hand] 43) = w7 at ho7 hb7
  have HM7 := Hd (HM5.out.now (bT hb6 hb7))
  have HO7 := Hd (HO5.out.below (bT hb6 hb7))
  have HL7 := Hd ((HL6.out.now hb7).mono hs5)
  have HC7 := Hd ho7
  have HX6 := Hd (HX5.out.below hb6)
  have HK6 := Hd (HK5.out.below hb6)
  have HR6 := Hd (HR5.out.below hb6)
  have HB6 := Hd (bT HB5.out hb6)
  have HS6 := Hd (Nat.le_trans HS5.out hb6.size)
  clear hb6
  have HX7 := Hd (HX6.out.below hb7)
  have HK7 := Hd (HK6.out.below hb7)
  have HR7 := Hd (HR6.out.below hb7)
  have HB7 := Hd (bT HB6.out hb7)
  have HS7 := Hd (Nat.le_trans HS6.out hb7.size)
  clear hb7
  clear m05 m15 m25 m35 m45 m55 m65 m75 m85
  clear k05 k15 ho7 HL6
  cases hdo : dpO m.c (tagT m s p) p with
  | false =>
   have HV : Hid (drpM m m.t s p = m) := by show _ = _; unfold drpM; rw [drp_no hto hdo hcv hgv hp]
   obtain ⟨r0x, r1x, r2x, r3x, r4x, r5x, r6x, r7x, r8x⟩ := cells9 HR7.out
   obtain ⟨z0x, z1x, z2x, z3x, z4x, z5x, z6x, z7x, z8x⟩ := free9 HR7.out
   obtain ⟨p0o, p1o, p2o, p3o, p4o, p5o, p6o, p7o, p8o⟩ := cells9 HO7.out
   have hlr := HR7.out.lt
   have hlo := HO7.out.lt
   go_wp2
   have o3 := HR7.out.set9 (.slice B1 m.t.bs.length d1) (.slice B2 m.t.fs.length d2) (.slice B3 m.c.ls.length d3) (.int .i64 (m).c.hand) (.int .i64 m.g.count) (.int .i64 m.g.next) (.int .i64 m.g.round) (.slice B4 m.g.os.length d4) (.int .i64 m.sp)
   obtain ⟨p0t, p1t, p2t, p3t, p4t, p5t, p6t, p7t, p8t⟩ := cells9 o3
   refine bodyPost_ret (v := .agg #[.slice B1 m.t.bs.length d1, .slice B2 m.t.fs.length d2, .slice B3 m.c.ls.length d3, .int .i64 m.c.hand, .int .i64 m.g.count, .int .i64 m.g.next, .int .i64 m.g.round, .slice B4 m.g.os.length d4, .int .i64 m.sp]) (by simp [results, Tryz.results108, go_sem, p0t, p1t, p2t, p3t, p4t, p5t, p6t, p7t, p8t]) rfl ⟨_, rfl, _, _, _, _, by rw [HV.out], ?_, ?_⟩
   ·rw [HV.out]
    exact (HM7.out.far9 HR7.out _ _ _ _ _ _ _ _ _).mono (by omega)
   ·repeat (refine bS ?_ (by simp <;> omega))
    exact HB7.out
  | true =>
   have HV : Hid (drpM m m.t s p = { m with c := dpV m.c (tagT m s p) p }) := by show _ = _; unfold drpM; rw [drp_yes hto hdo]
   have c0 := HC7.out.cell_ 0 (v := .slice B5 (dpV m.c (tagT m s p) p).ls.length d5) rfl
   have c1 := HC7.out.cell_ 1 (v := .int .i64 (dpV m.c (tagT m s p) p).hand) rfl
   have hlc := HC7.out.lt
   obtain ⟨r0x, r1x, r2x, r3x, r4x, r5x, r6x, r7x, r8x⟩ := cells9 HR7.out
   obtain ⟨z0x, z1x, z2x, z3x, z4x, z5x, z6x, z7x, z8x⟩ := free9 HR7.out
   obtain ⟨p0o, p1o, p2o, p3o, p4o, p5o, p6o, p7o, p8o⟩ := cells9 HO7.out
   have g2 := HO7.out.free 2
   have g3 := HO7.out.free 3
   have hlr := HR7.out.lt
   have hlo := HO7.out.lt
   have hrn : w.heap.size + 1 + 1 ≠ w3.heap.size := by omega
   have hrm : w3.heap.size ≠ w.heap.size + 1 + 1 := by omega
   have hcn : w6.heap.size ≠ w3.heap.size := HC7.out.ne HO7.out (by decide)
   have hcm : w3.heap.size ≠ w6.heap.size := fun h => hcn h.symm
   generalize hVV : dpV m.c (tagT m s p) p = V at *
   go_wp2
   have g1 := (HR7.out.far (p := ⟨w3.heap.size, 2, none⟩) (u := .slice B5 V.ls.length d5) hrn).far (p := ⟨w3.heap.size, 3, none⟩) (u := .int .i64 V.hand) hrn
   have hb9 : Below w.heap.size w ((w7.setCell ⟨w3.heap.size, 2, none⟩ (.slice B5 V.ls.length d5)).setCell ⟨w3.heap.size, 3, none⟩ (.int .i64 V.hand)) := bS (bS HB7.out (by simp; omega)) (by simp; omega)
   have hmm : MaM (w.heap.size + 3) w7 (.slice B1 m.t.bs.length d1) (.slice B2 m.t.fs.length d2) (.slice B5 V.ls.length d5) (.slice B4 m.g.os.length d4) { m with c := V } := ⟨HM7.out.t, HL7.out, HM7.out.o⟩
   have hmm2 := (hmm.farT (u := .slice B5 V.ls.length d5) (i := 2) HO7.out).farT (u := .int .i64 V.hand) (i := 3) (HO7.out.set_ 2 (.slice B5 V.ls.length d5))
   have o3 := g1.set9 (.slice B1 m.t.bs.length d1) (.slice B2 m.t.fs.length d2) (.slice B5 V.ls.length d5) (.int .i64 V.hand) (.int .i64 m.g.count) (.int .i64 m.g.next) (.int .i64 m.g.round) (.slice B4 m.g.os.length d4) (.int .i64 m.sp)
   obtain ⟨p0t, p1t, p2t, p3t, p4t, p5t, p6t, p7t, p8t⟩ := cells9 o3
   refine bodyPost_ret (v := .agg #[.slice B1 m.t.bs.length d1, .slice B2 m.t.fs.length d2, .slice B5 V.ls.length d5, .int .i64 ({ m with c := V } : Ma).c.hand, .int .i64 ({ m with c := V } : Ma).g.count, .int .i64 ({ m with c := V } : Ma).g.next, .int .i64 ({ m with c := V } : Ma).g.round, .slice B4 m.g.os.length d4, .int .i64 ({ m with c := V } : Ma).sp]) (by simp [results, Tryz.results108, go_sem, p0t, p1t, p2t, p3t, p4t, p5t, p6t, p7t, p8t]) rfl ⟨_, rfl, _, _, _, _, by rw [HV.out], ?_, ?_⟩
   ·rw [HV.out]
    exact (hmm2.far9 g1 _ _ _ _ _ _ _ _ _).mono (by omega)
   ·repeat (refine bS ?_ (by simp <;> omega))
    exact HB7.out
def encK (x : Key) : List Value := [.int .i64 x.1, .int .i64 x.2]
def cmpK (x y : Key) : Int := if kb x y = true then -1 else 1
theorem lt_cmpK (x y : Key) : ltOf cmpK x y = kb x y := by
 unfold ltOf cmpK
 cases kb x y <;> simp
theorem swoK : Sort.SWO (ltOf cmpK) where
 irrefl x := by rw [lt_cmpK, kb_no]; omega
 trans x y z h1 h2 := by rw [lt_cmpK] at *; rw [kb_iff] at *; omega
 ntrans x y z h1 h2 := by rw [lt_cmpK] at *; rw [kb_no] at *; omega
theorem kcells_at : ∀ (l : List Key) (t : Nat), t < l.length * 2 → (kcells l)[t]? = some ((encK l.toArray[t / 2]!)[t % 2]!)
  | [], t, h => by simp at h
  | x :: l, 0, _ => rfl
  | x :: l, 1, _ => rfl
  | x :: l, t + 2, h => by
    have ih := kcells_at l t (by simp only [List.length_cons] at h; omega)
    have e1 : (t + 2) / 2 = t / 2 + 1 := by omega
    have e2 : (t + 2) % 2 = t % 2 := by omega
    rw [e1, e2]
    show (kcells l)[t]? = _
    rw [ih]
    congr 3
    have h2 : t / 2 < l.length := by simp only [List.length_cons] at h; omega
    simp [h2]
theorem flat_at (l : List Key) (t : Nat) (h : t < l.length * 2) : (kcells l)[t]? = some (Sort.flatK encK 2 l.toArray)[t]! := by
 rw [kcells_at l t h, Sort.get_flatK encK 2 l.toArray t (by simpa using h)]
theorem holds_own {w : World} {base g c n : Nat} {e : TypeId} {l : List Key} (h : w.ownsRow base e 2 (.slice (some ⟨g, 0, none⟩) n c) n (kcells l)) (hl : l.length = n) (hn : 0 < n) : Sort.HoldsK encK 2 w g 0 l.toArray := by
 obtain ⟨hb, hc, hm, cur, ho, hs, ht⟩ := own_open h hn
 intro j hj
 rw [Sort.size_flatK] at hj
 have hj2 : j < l.length * 2 := by simpa using hj
 have hlt : j < n * 2 := by omega
 have he : cur[j]? = some (Sort.flatK encK 2 l.toArray)[j]! := by
  rw [← flat_at l j hj2, ← ht, List.getElem?_take, if_pos hlt, Array.getElem?_toList]
 rw [Nat.zero_add]
 exact ⟨ho.cell_ j he, ho.free j⟩
theorem sort_grown (w : World) (g m : Nat) (d : Array Key) (os : Array Obj) : w.grownBy (sortWorldK encK 2 w g 0 m d os) (some g) := by
 refine ⟨rfl, rfl, rfl, size_sortWorldK_c encK 2 w g 0 m d os, fun k hk hne => ?_⟩
 unfold sortWorldK
 rw [Sort.heap_grow_old _ _ (by rw [Sort.putRowK, Sort.size_putRow]; exact hk)]
 show (w.heap.modify g _)[k]? = w.heap[k]?
 rw [Array.getElem?_modify, if_neg (fun h => hne (by rw [h]))]
theorem sort_own {w : World} {base g c n m : Nat} {e : TypeId} {l l' : List Key} {os : Array Obj} (h : w.ownsRow base e 2 (.slice (some ⟨g, 0, none⟩) n c) n (kcells l)) (hl' : l'.length = n) (hn : 0 < n) :
  (sortWorldK encK 2 w g 0 m l'.toArray os).ownsRow base e 2 (.slice (some ⟨g, 0, none⟩) n c) n (kcells l') := by
 have hgl : g < w.heap.size := (h.lt g rfl).2
 obtain ⟨hb, hc, hm, cur, ho, hs, ht⟩ := own_open h hn
 have ho' : Own (sortWorldK encK 2 w g 0 m l'.toArray os) g e (Sort.putCells id 0 (Sort.flatK encK 2 l'.toArray) cur) := by
  unfold Own sortWorldK
  rw [Sort.heap_grow_old _ _ (by rw [Sort.putRowK, Sort.size_putRow]; exact hgl)]
  show (w.heap.modify g _)[g]? = _
  rw [Array.getElem?_modify, if_pos rfl]
  have ho2 : w.heap[g]? = some (.cells cur e (0, 0)) := ho
  rw [ho2]
  rfl
 refine ⟨by rw [kcells_length, hl'], .inr ⟨g, c, _, rfl, hb, ho', hc, hm, by rw [Sort.putCells, Array.size_mapIdx]; exact hs, ?_⟩⟩
 refine List.ext_getElem? fun t => ?_
 rw [List.getElem?_take]
 split
 ·rename_i hlt
  have hl2 : t < l'.length * 2 := by omega
  rw [flat_at l' t hl2, Array.getElem?_toList, Sort.putCells, Array.getElem?_mapIdx]
  have hcs : t < cur.size := by rw [hs]; have := Nat.mul_le_mul_right 2 hc; omega
  rw [Array.getElem?_eq_getElem hcs, Option.map_some, if_pos (by rw [Sort.size_flatK]; simp; omega)]
  rfl
 ·rename_i hge
  rw [List.getElem?_eq_none (by rw [kcells_length]; omega)]
theorem sorted_kso {l : List Key} {d' : Array Key} (hp : Sort.PermIn 0 l.toArray.size l.toArray d') (hs : Sort.SortedIn (ltOf cmpK) 0 l.toArray.size d') : d'.toList.length = l.length ∧ KSo d'.toList ∧ d'.toList.Perm l := by
 obtain ⟨h1, _, h3⟩ := hp
 have hsz : d'.size = l.length := by simpa using h1
 refine ⟨by simpa using hsz, ?_, ?_⟩
 ·unfold KSo
  rw [List.pairwise_iff_getElem]
  intro i j hi hj hij
  have := hs i j (Nat.zero_le _) hij (by simp at hj ⊢; omega)
  rw [lt_cmpK] at this
  simp only [Array.length_toList] at hi hj
  rw [getElem!_pos d' j hj, getElem!_pos d' i hi] at this
  simpa using this
 ·rw [Array.extract_eq_self_of_le (by rw [hsz]; simp), Array.extract_eq_self_of_le (Nat.le_refl _)] at h3
  simpa using h3
theorem keyBefore_is (a b c d : Int) (w : World) :
  Calls Tryz.prog 77 #[.agg #[.int .i64 a, .int .i64 b], .agg #[.int .i64 c, .int .i64 d]] w fun r w' => r = .returned (.bool (kb (a, b) (c, d))) ∧ w' = (w.alloc (.cells #[.int .i64 a, .int .i64 b] 61)).alloc (.cells #[.int .i64 c, .int .i64 d] 61) := by
 have hx := (Own.new_ w 61 #[.int .i64 a, .int .i64 b]).alloc (o := .cells #[.int .i64 c, .int .i64 d] 61)
 have hy := ownAt (W := w.alloc (.cells #[.int .i64 a, .int .i64 b] 61)) (g := w.heap.size + 1) (t := 61) (cs := #[.int .i64 c, .int .i64 d]) (by simp)
 generalize hW : (w.alloc (.cells #[.int .i64 a, .int .i64 b] 61)).alloc (.cells #[.int .i64 c, .int .i64 d] 61) = W0 at hx hy
 have x0 := hx.cell_ 0 (v := .int .i64 a) rfl
 have x1 := hx.cell_ 1 (v := .int .i64 b) rfl
 have y0 := hy.cell_ 0 (v := .int .i64 c) rfl
 have y1 := hy.cell_ 1 (v := .int .i64 d) rfl
 clear hx hy
 go_enter Tryz.func77, Tryz.ntmps77
 cases h1 : decide (a < c) with
 | true =>
  have HZ : Hid (kb (a, b) (c, d) = true) := by show _ = _; unfold kb; rw [h1]; rfl
  go_wp2
  go_ret
  exact ⟨by rw [HZ.out]; rfl, rfl⟩
 | false =>
  cases h2 : (a == c) with
  | true =>
   have HZ : Hid (kb (a, b) (c, d) = decide (b < d)) := by show _ = _; unfold kb; rw [h1]; have := beq_iff_eq.1 h2; subst this; simp
   go_wp2
   go_ret
   exact ⟨by rw [HZ.out]; rfl, rfl⟩
  | false =>
   have HZ : Hid (kb (a, b) (c, d) = false) := by show _ = _; unfold kb; rw [h1]; have : a ≠ c := beq_eq_false_iff_ne.1 h2; simp [this]
   go_wp2
   go_ret
   exact ⟨by rw [HZ.out]; rfl, rfl⟩
set_option maxHeartbeats 1000000 in
theorem keysOf1_is (x y : Key) (W : World) : Calls Tryz.prog 76 #[.agg #[.int .i64 x.1, .int .i64 x.2], .agg #[.int .i64 y.1, .int .i64 y.2]] W fun e w' => e = .returned (.int .i64 (cmpK x y)) ∧ ∃ q os', w' = Sort.grow (W.drewN q) os' := by
 obtain ⟨a, b⟩ := x
 obtain ⟨c, d⟩ := y
 have hx := (Own.new_ W 61 #[.int .i64 a, .int .i64 b]).alloc (o := .cells #[.int .i64 c, .int .i64 d] 61)
 have hy := ownAt (W := W.alloc (.cells #[.int .i64 a, .int .i64 b] 61)) (g := W.heap.size + 1) (t := 61) (cs := #[.int .i64 c, .int .i64 d]) (by simp)
 have hg : (((W.alloc (.cells #[.int .i64 a, .int .i64 b] 61)).alloc (.cells #[.int .i64 c, .int .i64 d] 61)).alloc (.cells #[.int .i64 a, .int .i64 b] 61)).alloc (.cells #[.int .i64 c, .int .i64 d] 61) = Sort.grow (W.drewN 0) (((#[.cells #[.int .i64 a, .int .i64 b] 61] ++ #[.cells #[.int .i64 c, .int .i64 d] 61]) ++ #[.cells #[.int .i64 a, .int .i64 b] 61]) ++ #[.cells #[.int .i64 c, .int .i64 d] 61]) := by
  rw [Sort.alloc_eq_grow, Sort.alloc_eq_grow, Sort.alloc_eq_grow, Sort.alloc_eq_grow, Sort.grow_grow, Sort.grow_grow, Sort.grow_grow]
  rfl
 have HG := Hd hg
 clear hg
 generalize hW : (W.alloc (.cells #[.int .i64 a, .int .i64 b] 61)).alloc (.cells #[.int .i64 c, .int .i64 d] 61) = W0 at hx hy HG
 have x0 := hx.cell_ 0 (v := .int .i64 a) rfl
 have x1 := hx.cell_ 1 (v := .int .i64 b) rfl
 have y0 := hy.cell_ 0 (v := .int .i64 c) rfl
 have y1 := hy.cell_ 1 (v := .int .i64 d) rfl
 clear hx hy
 go_enter Tryz.func76, Tryz.ntmps76
 go_wp2_with fail
 refine (keyBefore_is a b c d _).mono ?_
 rintro e w1 ⟨rfl, rfl⟩
 cases hz : kb (a, b) (c, d) with
 | true =>
  have HZ : Hid (cmpK (a, b) (c, d) = -1) := if_pos hz
  go_wp2
  go_ret
  exact ⟨by rw [HZ.out]; rfl, _, _, HG.out⟩
 | false =>
  have HZ : Hid (cmpK (a, b) (c, d) = 1) := if_neg (by rw [hz]; decide)
  go_wp2
  go_ret
  exact ⟨by rw [HZ.out]; rfl, _, _, HG.out⟩
theorem keysOf1_lays (g size : Nat) (w : World) : CmpLays Tryz.prog 76 #[] encK 2 cmpK g 0 size w := fun _ _ _ _ x y => keysOf1_is x y _
theorem sortKeys_own (base g c : Nat) (l : List Key) (w : World) (h : w.ownsRow base 61 2 (.slice (some ⟨g, 0, none⟩) l.length c) l.length (kcells l)) (hn : 0 < l.length) (hb : l.length ≤ 1048576) :
  Calls Tryz.prog 75 #[.slice (some ⟨g, 0, none⟩) l.length c, .func (.func 76) #[] #[]] w fun e w' => e = .returned (.tuple #[]) ∧ w'.ownsRow base 61 2 (.slice (some ⟨g, 0, none⟩) l.length c) l.length (kcells (ksrt l)) ∧ w.grownBy w' (some g) := by
 have eg : ∀ args w, (callFunc 76 args).run Tryz.prog w = .ok (.enter 76 args) w := enters_of Tryz.func76 (by kernel_rfl) rfl
 have hcon := AnyQ.slices_SortFunc Tryz.ksort 2 Tryz.isAgg61 Tryz.sizeOf61 encK (fun _ => rfl) (fun x v hv => by simp [encK] at hv; rcases hv with rfl | rfl <;> rfl) cmpK swoK 76 #[] g 0 c l.toArray w eg (keysOf1_lays g _ w) (holds_own h rfl hn) (h.lt g rfl).2 (by simp; omega)
 have hs : l.toArray.size = l.length := by simp
 rw [hs] at hcon
 refine hcon.mono ?_
 rintro e w' ⟨rfl, d', n, os, hp, hso, rfl⟩
 rw [← hs] at hp hso
 obtain ⟨h1, h2, h3⟩ := sorted_kso hp hso
 have he : d'.toList = ksrt l := ksrt_of h2 h3
 refine ⟨rfl, ?_, sort_grown w g n d' os⟩
 rw [← he]
 have := sort_own (m := n) (os := os) h h1 hn
 simpa using this
theorem clipK_any (A : Option Addr) (n c : Nat) (w : World) (hn : n ≤ c) : Calls Tryz.prog 78 #[.slice A n c] w fun r w' => r = .returned (.slice A n n) ∧ w' = w := by
 obtain ⟨i0, hi0, _⟩ := info_parts key_info
 have hs := fun W => slice_max (P := Tryz.prog) W 58 61 i0 A n c Tryz.underlying58 hi0 hn
 go_enter Tryz.func78, Tryz.ntmps78
 go_wp2
 go_ret
 exact ⟨rfl, rfl⟩
set_option maxHeartbeats 4000000 in
theorem KeysOf_imp (vb vf : Value) (t : Tab) (w : World) (hT : TaR w vb vf t) (hfree : Free w) :
  Calls Tryz.prog 24 #[.agg #[vb, vf]] w (Post2 fun v w' => ∃ A c, v = .slice A (kys t).length c ∧ (kys t).length ≤ c ∧ (Ks w'.heap.size w' A (kys t) ∧ ∀ b o, A = some ⟨b, o, none⟩ → w.heap.size ≤ b) ∧ Below w.heap.size w w') := by
 obtain ⟨Ab, cb, rfl, _⟩ := id hT.b
 obtain ⟨Af, cf, rfl, hbc, hbm, hL⟩ := id hT.f
 have HT := Hd hT
 have HF := Hd hfree
 clear hT hL hfree
 have ho := Own.new_ w 40 #[.slice Ab t.bs.length cb, .slice Af t.fs.length cf]
 have hb0 : Below w.heap.size w (w.alloc (.cells #[.slice Ab t.bs.length cb, .slice Af t.fs.length cf] 40)) := bA bR
 have hs0 : (w.alloc (.cells #[.slice Ab t.bs.length cb, .slice Af t.fs.length cf] 40)).heap.size = w.heap.size + 1 := by simp
 generalize hW : w.alloc (.cells #[.slice Ab t.bs.length cb, .slice Af t.fs.length cf] 40) = W0 at ho hb0 hs0
 have HO := Hd ho
 have HB := Hd hb0
 have o0 := ho.cell_ 0 (v := .slice Ab t.bs.length cb) rfl
 have o1 := ho.cell_ 1 (v := .slice Af t.fs.length cf) rfl
 clear ho hb0
 go_enter Tryz.func24, Tryz.ntmps24
 go_wp2_with fail
 refine (TableValid_any _ _ t W0 (HT.out.now HB.out) (HF.out.now HB.out)).mono ?_
 rintro e w1 ⟨rfl, hb1⟩
 have HO1 := Hd (HO.out.below hb1)
 have HB1 := Hd (bT HB.out hb1)
 have hs1 : w.heap.size + 1 ≤ w1.heap.size := by have := hb1.size; omega
 clear o0 o1 HO HB hb1 hW
 cases htv : tv t with
 | false =>
  have HE := Hd (kys_no htv)
  clear htv
  go_wp2
  go_ret
  exact ⟨_, rfl, none, 0, by rw [HE.out]; rfl, by rw [HE.out]; simp, ⟨by rw [HE.out]; exact ⟨by simp [kcells], fun h => absurd h (by simp)⟩, fun b o h => by cases h⟩, HB1.out⟩
 | true =>
  obtain ⟨⟨_, hfl, _⟩, _⟩ := tv_parts htv
  have HKE : Hid (kys t = ksrt (keysL t.fs)) := Hd (by unfold kys; rw [if_pos htv])
  have o0 := HO1.out.cell_ 0 (v := .slice Ab t.bs.length cb) rfl
  have o1 := HO1.out.cell_ 1 (v := .slice Af t.fs.length cf) rfl
  clear htv
  go_wp2
  go_loopw [3, 12] (fun out u wr => ∃ (k : Nat) (l : List Key), k ≤ t.fs.length ∧ u = .int .i64 k ∧ l.length ≤ k ∧ Hid (l = keysL (t.fs.take k)) ∧ Hid (wr.ownsRow (w.heap.size + 1) 61 2 out l.length (kcells l)) ∧ Hid (Below w.heap.size w wr) ∧ w.heap.size + 1 ≤ wr.heap.size) (fun _ u _ => t.fs.length - (intOf u).toNat)
  case atStart => exact ⟨0, [], by omega, rfl, by simp, Hd (by simp [keysL]), Hd (World.ownsRow_nil _ _ _ _), HB1, hs1⟩
  case round =>
   obtain ⟨k, l, hk, rfl, hlk, HP, HX, HR, hsr⟩ := hrel
   clear o0 o1
   by_cases hlt : k < t.fs.length
   ·have hki : (k : Int) < (t.fs.length : Int) := by omega
    obtain ⟨y, ey⟩ : ∃ y, t.fs[k]? = some y := ⟨_, List.getElem?_eq_getElem hlt⟩
    have hfs := (HT.out.now HR.out).fsl
    obtain ⟨bq, oq, rfl, hbq, y0, y1, y2, y3, y4⟩ := hfs.fr ey
    have HEY := Hd ey
    clear hfs ey
    have hk0 : (0 : Int) ≤ (k : Int) := by omega
    have hf := Own.new_ wr 66 #[.bool y.used, .int .i64 y.s, .int .i64 y.p, .int .i64 y.r, .int .i64 y.n]
    have hbf : Below wr.heap.size wr (wr.alloc (.cells #[.bool y.used, .int .i64 y.s, .int .i64 y.p, .int .i64 y.r, .int .i64 y.n] 66)) := bA bR
    generalize hWF : wr.alloc (.cells #[.bool y.used, .int .i64 y.s, .int .i64 y.p, .int .i64 y.r, .int .i64 y.n] 66) = wf at hf hbf
    go_upto_region 7 with fail
    try rw [hWF]
    have HX2 := Hd (own_kept HX.out hbf)
    have HR2 := Hd (bT HR.out hbf)
    have hsf : w.heap.size + 1 ≤ wf.heap.size := by have := hbf.size; omega
    have f0 := hf.cell_ 0 (v := .bool y.used) rfl
    have f1 := hf.cell_ 1 (v := .int .i64 y.s) rfl
    have f2 := hf.cell_ 2 (v := .int .i64 y.p) rfl
    clear hf y0 y1 y2 y3 y4 HX HR hbf hWF
    cases hu : y.used with
    | false =>
     rw [hu] at f0
     have HP2 : Hid (l = keysL (t.fs.take (k + 1))) := Hd (by rw [keysL_take HEY.out, hu]; simpa using HP.out)
     clear hu
     go_wp2
     go_roundw
     case rel => exact ⟨k + 1, l, by omega, by simp, by omega, HP2, HX2, HR2, hsf⟩
     case measure => simp [intOf]; omega
    | true =>
     rw [hu] at f0
     have HP2 : Hid (l ++ [(y.s, y.p)] = keysL (t.fs.take (k + 1))) := Hd (by rw [keysL_take HEY.out, hu, HP.out]; rfl)
     clear hu
     have hX2 := HX2.out
     obtain ⟨A8, c8, rfl, _⟩ := own_rd HX2.out
     obtain ⟨v7, w7, hrun, hown7, hg7, _⟩ := run_append_key (w.heap.size + 1) wf (.slice A8 l.length c8) l.length l y.s y.p hX2 rfl (by omega) hsf
     have hbl : ∀ b, (Value.slice A8 l.length c8).ownBlock = some b → w.heap.size + 1 ≤ b := own_block hX2
     have HX7 : Hid (w7.ownsRow (w.heap.size + 1) 61 2 v7 (l ++ [(y.s, y.p)]).length (kcells (l ++ [(y.s, y.p)]))) := Hd (by rw [List.length_append]; exact hown7)
     have HR7 := Hd (bG (bA HR2.out (o := .cells #[.int .i64 y.s, .int .i64 y.p] 61)) hg7 (fun b hb => by have := hbl b hb; omega))
     have hs7 : w.heap.size + 1 ≤ w7.heap.size := by have := hg7.size; simp at this; omega
     clear hX2 hown7 hg7 hbl HX2 HR2
     go_wp2_with (at_builtin; refine wpList_append_run _ rfl (.tmp 18) (.tmp 21) 58 rfl _ _ _ _ rfl rfl hrun ?_)
     clear hrun f0 f1 f2
     go_roundw
     case rel => exact ⟨k + 1, l ++ [(y.s, y.p)], by omega, by simp, by simp; omega, HP2, HX7, HR7, hs7⟩
     case measure => simp [intOf]; omega
   ·obtain rfl : k = t.fs.length := by omega
    have hki : decide ((t.fs.length : Int) < (t.fs.length : Int)) = false := by simp
    have HL2 : Hid (kys t = ksrt l) := Hd (by rw [HKE.out, HP.out, List.take_length])
    have hX := HX.out
    rcases Nat.eq_zero_or_pos l.length with h0 | h0
    ·obtain rfl := List.length_eq_zero_iff.1 h0
     obtain ⟨A8, c8, rfl, hc8, _⟩ := own_rd HX.out
     have hS := fun W => AnyF.slices_SortFunc_none (P := Tryz.prog) (ρ := Tryz.ksort_ren) { Tryz.ksort with } A8 c8 (.func (.func 76) #[] #[]) W
     change ∀ W, Calls Tryz.prog 75 _ _ _ at hS
     clear hX
     go_wp2_with fail
     refine (hS _).mono ?_
     rintro e w2 ⟨rfl, rfl⟩
     clear hS
     go_wp2_with fail
     refine (clipK_any A8 0 c8 _ (Nat.zero_le _)).mono ?_
     rintro e w3 ⟨rfl, rfl⟩
     go_wp2
     go_ret
     exact ⟨_, rfl, A8, 0, by rw [HL2.out]; rfl, by rw [HL2.out]; exact Nat.zero_le _, ⟨by rw [HL2.out]; exact ⟨by simp [ksrt, kcells], fun h => absurd h (by simp [ksrt])⟩, fun b o h => by have := own_block HX.out b (by rw [h]; rfl); omega⟩, HR.out⟩
    ·obtain ⟨A8, c8, rfl, _⟩ := own_rd HX.out
     obtain ⟨g, rfl⟩ : ∃ g, A8 = some ⟨g, 0, none⟩ := by
      rcases hX.2 with ⟨_, e⟩ | ⟨g, cap, cur, e, _⟩
      ·omega
      ·injection e with e _ _
       exact ⟨g, e⟩
     have hgb : w.heap.size + 1 ≤ g := own_block hX g rfl
     have HS := Hd (sortKeys_own (w.heap.size + 1) g c8 l wr hX h0 (by omega))
     clear hX
     go_wp2_with fail
     refine HS.out.mono ?_
     rintro e w2 ⟨rfl, ho2, hg2⟩
     have HB2 := Hd (bG HR.out hg2 (fun b hb => by injection hb with hb; omega))
     obtain ⟨A9, c9, e9, hc9, hm9, hr9⟩ := own_rd ho2
     injection e9 with e9 _ e9'
     subst e9 e9'
     have HK9 : Hid (Ks w2.heap.size w2 (some ⟨g, 0, none⟩) (ksrt l)) := Hd (by unfold Ks; rw [ksrt_length]; exact hr9)
     clear HS ho2 hg2 hr9
     go_wp2_with fail
     refine (clipK_any _ _ c8 _ hc9).mono ?_
     rintro e w3 ⟨rfl, rfl⟩
     go_wp2
     go_ret
     exact ⟨_, rfl, _, _, by rw [HL2.out, ksrt_length]; rfl, by rw [HL2.out, ksrt_length]; exact Nat.le_refl _, ⟨by rw [HL2.out]; exact HK9.out, fun b o h => by injection h with h; injection h with h; omega⟩, HB2.out⟩
end Go.Proofs.YtibpnlojlfcpmaaGreatDoor
