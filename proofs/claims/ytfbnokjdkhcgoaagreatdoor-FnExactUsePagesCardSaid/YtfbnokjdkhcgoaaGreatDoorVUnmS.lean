/- A part of the proofs of this seat: UnmS. -/
import Derived.Test.YtfbnokjdkhcgoaaGreatDoorVKeep
import Derived.Test.YtfbnokjdkhcgoaaGreatDoorVUnmI
set_option linter.unusedVariables false
set_option linter.unusedSimpArgs false
set_option maxRecDepth 1000000
namespace Go.Proofs.YtfbnokjdkhcgoaaGreatDoor
open Go.RowKit
theorem self_ne {t : Tab} (h : tv t = true) {k : Nat} {f : Fr} (e : t.fs[k]? = some f) (hu : f.used = true) : f.n ≠ (k : Int) := by
 intro hn
 obtain ⟨b, ch, _, hc, hm⟩ := (tv_TV.1 h).cov k f e hu
 obtain ⟨x, _, hx⟩ := bch_some hc
 obtain ⟨_, a, r, har⟩ := chn_next hx hm e hn
 have hd := chn_nodup hx
 rw [har] at hd
 have := (List.nodup_append.1 hd).2.1
 simp at this
set_option maxHeartbeats 4000000 in
theorem l3Unmap_any (vb vf : Value) (t : Tab) (s p : Int) (k : Nat) (f : Fr) (w : World) (hT : TaR w vb vf t) (htv : tv t = true) (hkv : kval (s, p) = true) (hk : fndI t.fs s p = (k : Int)) (ef : t.fs[k]? = some f) (hu : f.used = true) (hfk : (f.s, f.p) = (s, p)) :
  Calls Tryz.prog 210 #[.agg #[vb, vf], .int .i64 k] w (Post2 fun v w' => ∃ v1 v2, v = .agg #[v1, v2] ∧ TaM w.heap.size w' v1 v2 (unmT t s p) ∧ Below w.heap.size w w') := by
 obtain ⟨⟨_, hfl, hb1, hbl⟩, _⟩ := tv_parts htv
 obtain ⟨hbk, heq⟩ := bkt_in hkv hb1
 injection hfk with hfs hfp
 have hsn := self_ne htv ef hu
 have hx := (Own.new_ w 26 #[vb, vf]).alloc (o := .cells #[.slice none 0 0, .slice none 0 0] 26)
 have hr := ownAt (W := w.alloc (.cells #[vb, vf] 26)) (g := w.heap.size + 1) (t := 26) (cs := #[.slice none 0 0, .slice none 0 0]) (by simp)
 have hb0 : Below w.heap.size w ((w.alloc (.cells #[vb, vf] 26)).alloc (.cells #[.slice none 0 0, .slice none 0 0] 26)) := bA (bA bR)
 generalize hW : (w.alloc (.cells #[vb, vf] 26)).alloc (.cells #[.slice none 0 0, .slice none 0 0] 26) = W0 at hx hr hb0
 have HTR := Hd hT
 have HX0 := Hd hx
 have HR0 := Hd hr
 have HB0 := Hd hb0
 clear hT hx hr hb0
 have t00 := HX0.out.cell_ 0 (v := vb) rfl
 have t10 := HX0.out.cell_ 1 (v := vf) rfl
 have HEF := Hd ef
 have HN := Hd hk
 clear ef hk
 go_enter Tryz.func210, Tryz.ntmps210
 go_wp2_with fail
 refine (l3Copy_any vb vf t _ (HTR.out.now HB0.out) (by omega) (by omega)).mono ?_
 rintro e w4 ⟨_, rfl, v1, v2, rfl, hM4, hb4⟩
 clear t00 t10
 obtain ⟨g1, c1, g2, c2, rfl, rfl, e1, e2, l1, l2, hne, a1, a2, b1, b2, m1, m2⟩ := hM4.open_ (by omega) (by omega)
 have ho5 := Own.new_ w4 26 #[.slice (some ⟨g1, 0, none⟩) t.bs.length c1, .slice (some ⟨g2, 0, none⟩) t.fs.length c2]
 have hb5 : Below w4.heap.size w4 (w4.alloc (.cells #[.slice (some ⟨g1, 0, none⟩) t.bs.length c1, .slice (some ⟨g2, 0, none⟩) t.fs.length c2] 26)) := bA bR
 generalize hW5 : w4.alloc (.cells #[.slice (some ⟨g1, 0, none⟩) t.bs.length c1, .slice (some ⟨g2, 0, none⟩) t.fs.length c2] 26) = w5 at ho5 hb5
 have M1 := Hd (m1.below hb5)
 have M2 := Hd (m2.below hb5)
 have HX5 := Hd ((HX0.out.below hb4).below hb5)
 have HR5 := Hd ((HR0.out.below hb4).below hb5)
 have HO5 := Hd ho5
 have HB5 := Hd (bT HB0.out (bT hb4 hb5))
 have HS4 : Hid (W0.heap.size ≤ w4.heap.size) := hb4.size
 clear hM4 m1 m2 ho5 hb4 hb5
 obtain ⟨Ab, cb, rfl, hbc, hbm, hB⟩ := HTR.out.b
 obtain ⟨Af, cf, rfl, hfc, hfm, hF⟩ := HTR.out.f
 obtain ⟨n0, en0⟩ : ∃ n0, t.bs[bkt t s p]? = some n0 := ⟨_, List.getElem?_eq_getElem hbk⟩
 obtain ⟨b4, o4, rfl, hb4, d0, d1, d2, d3, d4⟩ := (hF.now (Nat.le_refl _) HB5.out).fr HEF.out
 obtain ⟨b5, o5, rfl, hb5, f0⟩ := (hB.now (Nat.le_refl _) HB5.out).i1 en0
 have hfl2 := (List.getElem?_eq_some_iff.1 HEF.out).1
 have hut : unmT t s p = if n0 = (k : Int) then ⟨t.bs.set (bkt t s p) f.n, t.fs.set k frz⟩ else ⟨t.bs, (t.fs.map (relink k f.n)).set k frz⟩ := by
  unfold unmT
  simp only [HN.out, Int.toNat_natCast, List.getD_eq_getElem?_getD, HEF.out, Option.getD_some]
  rw [en0]
  rfl
 have HUT := Hd hut
 have HFR := Hd hF
 have HBR := Hd hB
 have HH := Hd (fun W => l2Hash_any s p t.bs.length W hkv ⟨by omega, by omega⟩)
 rw [heq] at HH
 generalize hbb : bkt t s p = b at *
 rw [hfs] at d1
 rw [hfp] at d2
 have x0 := xcell (HX5.out.cell_ 0 (v := .slice (some ⟨b5, o5, none⟩) t.bs.length cb) rfl) HX5.out.lt
 have x1 := xcell (HX5.out.cell_ 1 (v := .slice (some ⟨b4, o4, none⟩) t.fs.length cf) rfl) HX5.out.lt
 have x2 := xcell d0 hb4
 have x3 := xcell d1 hb4
 have x4 := xcell d2 hb4
 have x5 := xcell d4 hb4
 have x6 := xcell f0 hb5
 clear hut d0 d1 d2 d3 d4 f0 hF hB
 go_wp2
 refine wp_region_ext (by kernel_rfl) (by kernel_rfl) ?_
 repeat (go_big_quiet_step ((go_at_call 94; exact ext_call (HH.out _))))
 refine wpQuiet_nil ?_
 intro _ hw'
 obtain ⟨⟨wq, hq⟩, hw''⟩ := hw'
 subst hw''
 try dsimp only
 rename_i w6
 clear x0 x1 x2 x3 x4 x5 x6
 have M16 := Hd (M1.out.below hq)
 have M26 := Hd (M2.out.below hq)
 have HX6 := Hd (HX5.out.below hq)
 have HR6 := Hd (HR5.out.below hq)
 have HO6 := Hd (HO5.out.below hq)
 have HB6 := Hd (bT HB5.out hq)
 clear hq
 obtain ⟨_, cs2, u2, _, Q2, _⟩ := M26.out.own (by omega)
 injection u2 with u2
 injection u2 with u2
 subst u2
 have ho1 : w4.heap.size ≠ g2 := HO6.out.ne Q2 (by decide)
 have ho2 : g2 ≠ w4.heap.size := fun h => ho1 h.symm
 have hr2 : w.heap.size + 1 ≠ g2 := HR6.out.ne Q2 (by decide)
 have hr4 : g2 ≠ w.heap.size + 1 := fun h => hr2 h.symm
 have hx2 : w.heap.size ≠ g2 := HX6.out.ne Q2 (by decide)
 have hx4 : g2 ≠ w.heap.size := fun h => hx2 h.symm
 obtain ⟨_, cs1, u1, _, Q1, _⟩ := M16.out.own (by omega)
 injection u1 with u1
 injection u1 with u1
 subst u1
 have ho3 : w4.heap.size ≠ g1 := HO6.out.ne Q1 (by decide)
 have ho4 : g1 ≠ w4.heap.size := fun h => ho3 h.symm
 have hr1 : w.heap.size + 1 ≠ g1 := HR6.out.ne Q1 (by decide)
 have hr3 : g1 ≠ w.heap.size + 1 := fun h => hr1 h.symm
 have hx1 : w.heap.size ≠ g1 := HX6.out.ne Q1 (by decide)
 have hx3 : g1 ≠ w.heap.size := fun h => hx1 h.symm
 have hne' : g2 ≠ g1 := fun h => hne h.symm
 have z2 := Q2.free (k * 5)
 have z3 := Q2.free (k * 5 + 1)
 have z4 := Q2.free (k * 5 + 2)
 have z5 := Q2.free (k * 5 + 3)
 have z6 := Q2.free (k * 5 + 4)
 obtain ⟨bq, oq, eq1, _, v0, v1, v2, v3, v4⟩ := M26.out.is.fr HEF.out
 injection eq1 with eq1
 injection eq1 with eq1 eq2
 subst eq1 eq2
 rw [Nat.zero_add] at v0 v1 v2 v3 v4
 have x0 := HX6.out.cell_ 0 (v := .slice (some ⟨b5, o5, none⟩) t.bs.length cb) rfl
 have x1 := HX6.out.cell_ 1 (v := .slice (some ⟨b4, o4, none⟩) t.fs.length cf) rfl
 have o60 := HO6.out.cell_ 0 (v := .slice (some ⟨g1, 0, none⟩) t.bs.length c1) rfl
 have o61 := HO6.out.cell_ 1 (v := .slice (some ⟨g2, 0, none⟩) t.fs.length c2) rfl
 obtain ⟨bz, oz, eq1, hbz, d0, d1, d2, d3, d4⟩ := (HFR.out.now (Nat.le_refl _) HB6.out).fr HEF.out
 injection eq1 with eq1
 injection eq1 with eq1 eq2
 subst eq1 eq2
 have nf := M26.out.wfr hfl2 frz
 have nb := ((((M16.out.other (p := ⟨g2, k * 5, none⟩) (u := .bool false) hne').other (p := ⟨g2, k * 5 + 1, none⟩) (u := .int .i64 0) hne').other (p := ⟨g2, k * 5 + 2, none⟩) (u := .int .i64 0) hne').other (p := ⟨g2, k * 5 + 3, none⟩) (u := .int .i64 0) hne').other (p := ⟨g2, k * 5 + 4, none⟩) (u := .int .i64 (-1)) hne'
 have hr := ((((HR6.out.far (p := ⟨g2, k * 5, none⟩) (u := .bool false) hr2).far (p := ⟨g2, k * 5 + 1, none⟩) (u := .int .i64 0) hr2).far (p := ⟨g2, k * 5 + 2, none⟩) (u := .int .i64 0) hr2).far (p := ⟨g2, k * 5 + 3, none⟩) (u := .int .i64 0) hr2).far (p := ⟨g2, k * 5 + 4, none⟩) (u := .int .i64 (-1)) hr2
 have ho := ((((HO6.out.far (p := ⟨g2, k * 5, none⟩) (u := .bool false) ho1).far (p := ⟨g2, k * 5 + 1, none⟩) (u := .int .i64 0) ho1).far (p := ⟨g2, k * 5 + 2, none⟩) (u := .int .i64 0) ho1).far (p := ⟨g2, k * 5 + 3, none⟩) (u := .int .i64 0) ho1).far (p := ⟨g2, k * 5 + 4, none⟩) (u := .int .i64 (-1)) ho1
 have hxx := ((((HX6.out.far (p := ⟨g2, k * 5, none⟩) (u := .bool false) hx2).far (p := ⟨g2, k * 5 + 1, none⟩) (u := .int .i64 0) hx2).far (p := ⟨g2, k * 5 + 2, none⟩) (u := .int .i64 0) hx2).far (p := ⟨g2, k * 5 + 3, none⟩) (u := .int .i64 0) hx2).far (p := ⟨g2, k * 5 + 4, none⟩) (u := .int .i64 (-1)) hx2
 have hg2 : w.heap.size ≤ g2 := by have := HB0.out.size; have := HS4.out; omega
 have hg1 : w.heap.size ≤ g1 := by have := HB0.out.size; have := HS4.out; omega
 have hb := bS (bS (bS (bS (bS HB6.out (p := ⟨g2, k * 5, none⟩) hg2 (u := .bool false)) (p := ⟨g2, k * 5 + 1, none⟩) hg2 (u := .int .i64 0)) (p := ⟨g2, k * 5 + 2, none⟩) hg2 (u := .int .i64 0)) (p := ⟨g2, k * 5 + 3, none⟩) hg2 (u := .int .i64 0)) (p := ⟨g2, k * 5 + 4, none⟩) hg2 (u := .int .i64 (-1))
 have hlx := HX6.out.lt
 have hlo := HO6.out.lt
 generalize hW7 : ((((w6.setCell ⟨g2, k * 5, none⟩ (.bool false)).setCell ⟨g2, k * 5 + 1, none⟩ (.int .i64 0)).setCell ⟨g2, k * 5 + 2, none⟩ (.int .i64 0)).setCell ⟨g2, k * 5 + 3, none⟩ (.int .i64 0)).setCell ⟨g2, k * 5 + 4, none⟩ (.int .i64 (-1)) = w7 at nf nb hr ho hxx hb
 have nf : MineE frE 80 W0.heap.size w7 (some ⟨g2, 0, none⟩) (t.fs.set k frz) := by rw [← hW7]; exact M26.out.wfr hfl2 frz
 have NF7 := Hd nf
 have NB7 := Hd nb
 have HR7 := Hd hr
 have HO7 := Hd ho
 have HX7 := Hd hxx
 have HB7 := Hd hb
 clear nf nb hr ho hxx hb Q1 Q2
 have x70 := HX7.out.cell_ 0 (v := .slice (some ⟨b5, o5, none⟩) t.bs.length cb) rfl
 obtain ⟨bz, oz, eq1, hbz, e0⟩ := (HBR.out.now (Nat.le_refl _) HB7.out).i1 en0
 injection eq1 with eq1
 injection eq1 with eq1 eq2
 subst eq1 eq2
 have x71 := HX7.out.cell_ 1 (v := .slice (some ⟨b4, o4, none⟩) t.fs.length cf) rfl
 have hlx7 := HX7.out.lt
 have hlo7 := HO7.out.lt
 have hlr7 := HR7.out.lt
 by_cases hbe : n0 = (k : Int)
 ·subst hbe
  have HU : Hid (unmT t s p = ⟨t.bs.set b f.n, t.fs.set k frz⟩) := by show _ = _; rw [HUT.out, if_pos rfl]
  have o70 := HO7.out.cell_ 0 (v := .slice (some ⟨g1, 0, none⟩) t.bs.length c1) rfl
  obtain ⟨_, cs1, u1, _, Q1, _⟩ := NB7.out.own (by omega)
  injection u1 with u1
  injection u1 with u1
  subst u1
  have z1 := Q1.free b
  obtain ⟨bz, oz, eq1, hbz, w0⟩ := NB7.out.is.i1 en0
  injection eq1 with eq1
  injection eq1 with eq1 eq2
  subst eq1 eq2
  rw [Nat.zero_add] at w0
  have nb := NB7.out.wint hbk f.n
  have nf := NF7.out.other (p := ⟨g1, b, none⟩) (u := .int .i64 f.n) hne
  have hr8 := HR7.out.far (p := ⟨g1, b, none⟩) (u := .int .i64 f.n) hr1
  have ho8 := HO7.out.far (p := ⟨g1, b, none⟩) (u := .int .i64 f.n) ho3
  have hb8 : Below w.heap.size w (w7.setCell ⟨g1, b, none⟩ (.int .i64 f.n)) := bS HB7.out hg1
  generalize hW8 : w7.setCell ⟨g1, b, none⟩ (.int .i64 f.n) = w8 at nb nf hr8 ho8 hb8
  have NB8 := Hd nb
  have NF8 := Hd nf
  have HR8 := Hd hr8
  have HO8 := Hd ho8
  have HB8 := Hd hb8
  clear nb nf hr8 ho8 hb8 Q1 en0
  have r08 := HR8.out.cell_ 0 (v := .slice none 0 0) rfl
  have r18 := HR8.out.cell_ 1 (v := .slice none 0 0) rfl
  have fr08 := HR8.out.free 0
  have fr18 := HR8.out.free 1
  have o80 := HO8.out.cell_ 0 (v := .slice (some ⟨g1, 0, none⟩) t.bs.length c1) rfl
  have o81 := HO8.out.cell_ 1 (v := .slice (some ⟨g2, 0, none⟩) t.fs.length c2) rfl
  have hrl := HR8.out.lt
  have hol := HO8.out.lt
  go_wp2
  have o3 := (HR8.out.set_ 0 (.slice (some ⟨g1, 0, none⟩) t.bs.length c1)).set_ 1 (.slice (some ⟨g2, 0, none⟩) t.fs.length c2)
  have e0 := o3.cell_ 0 (v := .slice (some ⟨g1, 0, none⟩) t.bs.length c1) rfl
  have e1 := o3.cell_ 1 (v := .slice (some ⟨g2, 0, none⟩) t.fs.length c2) rfl
  have hlt3 := HR0.out.lt
  have Q3 := (NF8.out.far (p := ⟨w.heap.size + 1, 0, none⟩) (u := .slice (some ⟨g1, 0, none⟩) t.bs.length c1) hlt3).far (p := ⟨w.heap.size + 1, 1, none⟩) (u := .slice (some ⟨g2, 0, none⟩) t.fs.length c2) hlt3
  have Q4 := (NB8.out.far (p := ⟨w.heap.size + 1, 0, none⟩) (u := .slice (some ⟨g1, 0, none⟩) t.bs.length c1) hlt3).far (p := ⟨w.heap.size + 1, 1, none⟩) (u := .slice (some ⟨g2, 0, none⟩) t.fs.length c2) hlt3
  refine bodyPost_ret (v := .agg #[.slice (some ⟨g1, 0, none⟩) t.bs.length c1, .slice (some ⟨g2, 0, none⟩) t.fs.length c2]) (by simp [results, Tryz.results210, go_sem, e0, e1]) rfl ⟨_, rfl, _, _, rfl, ?_, ?_⟩
  ·rw [HU.out]
   exact ⟨slm_of (by simp) (by simpa using a1) a2 (Q4.mono HB0.out.size), slm_of (by simp) (by simpa using b1) b2 (Q3.mono HB0.out.size)⟩
  ·repeat (refine bS ?_ (by simp <;> omega))
   exact HB8.out
 ·have HU : Hid (unmT t s p = ⟨t.bs, (t.fs.map (relink k f.n)).set k frz⟩) := by show _ = _; rw [HUT.out, if_neg hbe]
  have hne1 : (n0 == (k : Int)) = false := by rw [beq_eq_false_iff_ne]; exact hbe
  clear en0
  go_wp2
  clear x0 x1 x70 x71 o60 o61 v0 v1 v2 v3 v4 z2 z3 z4 z5 z6 d0 d1 d2 d3 d4 hlx hlo hlx7 hlo7 hlr7 e0
  go_loopw [8] (fun u wr => ∃ i : Nat, i ≤ t.fs.length ∧ u = .int .i64 i ∧ MineE intE 3 W0.heap.size wr (some ⟨g1, 0, none⟩) t.bs ∧ MineE frE 80 W0.heap.size wr (some ⟨g2, 0, none⟩) ((rl t.fs k f.n i).set k frz) ∧ Own wr (w.heap.size + 1) 26 #[.slice none 0 0, .slice none 0 0] ∧ Own wr w4.heap.size 26 #[.slice (some ⟨g1, 0, none⟩) t.bs.length c1, .slice (some ⟨g2, 0, none⟩) t.fs.length c2] ∧ Own wr w.heap.size 26 #[.slice (some ⟨b5, o5, none⟩) t.bs.length cb, .slice (some ⟨b4, o4, none⟩) t.fs.length cf] ∧ Below w.heap.size w wr) (fun u _ => t.fs.length - (intOf u).toNat)
  case atStart => exact ⟨0, by omega, rfl, NB7.out, by rw [rl_zero]; exact NF7.out, HR7.out, HO7.out, HX7.out, HB7.out⟩
  case round =>
   obtain ⟨i, hi, rfl, hnb, hnf, hhr, hho, hhx, hhb⟩ := hrel
   have NB8 := Hd hnb
   have NF8 := Hd hnf
   have HR8 := Hd hhr
   have HO8 := Hd hho
   have HX8 := Hd hhx
   have HB8 := Hd hhb
   clear hnb hnf hhr hho hhx hhb
   have x81 := HX8.out.cell_ 1 (v := .slice (some ⟨b4, o4, none⟩) t.fs.length cf) rfl
   have hlx8 := HX8.out.lt
   by_cases hlt : i < t.fs.length
   ·obtain ⟨fi, ei⟩ : ∃ fi, t.fs[i]? = some fi := ⟨_, List.getElem?_eq_getElem hlt⟩
    obtain ⟨bz, oz, eq1, hbz, d0, d1, d2, d3, d4⟩ := (HFR.out.now (Nat.le_refl _) HB8.out).fr ei
    injection eq1 with eq1
    injection eq1 with eq1 eq2
    subst eq1 eq2
    have HST := Hd (rl_step (a := (k : Int)) (n := f.n) ei)
    have HAT := Hd (rl_at (a := (k : Int)) (n := f.n) ei)
    have hll := rl_len t.fs (k : Int) f.n i
    by_cases hre : fi.used = true ∧ fi.n = (k : Int)
    ·have hik : k ≠ i := by
      rintro rfl
      rw [HEF.out] at ei
      injection ei with ei
      exact hsn (by rw [ei]; exact hre.2)
     have HRE : Hid (relink k f.n fi = { fi with n := f.n }) := if_pos hre
     have hu := hre.1
     have hn := hre.2
     have hat2 : ((rl t.fs k f.n i).set k frz)[i]? = some fi := by rw [List.getElem?_set, if_neg hik]; exact HAT.out
     have o81 := HO8.out.cell_ 1 (v := .slice (some ⟨g2, 0, none⟩) t.fs.length c2) rfl
     have hol := HO8.out.lt
     obtain ⟨_, cs9, u9, _, Q9, _⟩ := NF8.out.own (by simp; omega)
     injection u9 with u9
     injection u9 with u9
     subst u9
     have z6 := Q9.free (i * 5 + 4)
     obtain ⟨bz, oz, eq1, _, v0, v1, v2, v3, v4⟩ := NF8.out.is.fr hat2
     injection eq1 with eq1
     injection eq1 with eq1 eq2
     subst eq1 eq2
     rw [Nat.zero_add] at v4
     rw [hu] at d0
     rw [hn] at d4
     have nf9 := NF8.out.wnext hat2 f.n
     have nb9 := NB8.out.other (p := ⟨g2, i * 5 + 4, none⟩) (u := .int .i64 f.n) hne'
     have hr9 := HR8.out.far (p := ⟨g2, i * 5 + 4, none⟩) (u := .int .i64 f.n) hr2
     have ho9 := HO8.out.far (p := ⟨g2, i * 5 + 4, none⟩) (u := .int .i64 f.n) ho1
     have hx9 := HX8.out.far (p := ⟨g2, i * 5 + 4, none⟩) (u := .int .i64 f.n) hx2
     have hb9 : Below w.heap.size w (wr.setCell ⟨g2, i * 5 + 4, none⟩ (.int .i64 f.n)) := bS HB8.out hg2
     have heq9 : (rl t.fs k f.n (i + 1)).set k frz = ((rl t.fs k f.n i).set k frz).set i { fi with n := f.n } := by
      rw [HST.out, HRE.out, List.set_comm _ _ (fun h => hik h.symm)]
     have NF9 := Hd nf9
     have NB9 := Hd nb9
     have HR9 := Hd hr9
     have HO9 := Hd ho9
     have HX9 := Hd hx9
     have HB9 := Hd hb9
     have HE9 := Hd heq9
     clear nf9 nb9 hr9 ho9 hx9 hb9 hre hu hn Q9 v0 v1 v2 v3 ei hat2 d1 d2 d3 heq9
     go_wp2
     go_roundw
     case rel => exact ⟨i + 1, by omega, by go_num, NB9.out, by rw [HE9.out]; exact NF9.out, HR9.out, HO9.out, HX9.out, HB9.out⟩
     case measure => simp [intOf]; omega
    ·have HRE : Hid (relink k f.n fi = fi) := if_neg hre
     have HSM : Hid (rl t.fs k f.n (i + 1) = rl t.fs k f.n i) := by
      show _ = _
      rw [HST.out, HRE.out]
      exact List.ext_getElem? fun j => by
       rw [List.getElem?_set]
       split
       ·rename_i hij
        subst hij
        rw [HAT.out, if_pos (by omega)]
       ·rfl
     clear ei d1 d2 d3
     cases hu : fi.used with
     | false =>
      rw [hu] at d0
      clear d4 hre hu
      go_wp2
      go_roundw
      case rel => exact ⟨i + 1, by omega, by go_num, NB8.out, by rw [HSM.out]; exact NF8.out, HR8.out, HO8.out, HX8.out, HB8.out⟩
      case measure => simp [intOf]; omega
     | true =>
      rw [hu] at d0
      have hn2 : (fi.n == (k : Int)) = false := by rw [beq_eq_false_iff_ne]; exact fun h => hre ⟨hu, h⟩
      clear hre hu
      go_wp2
      go_roundw
      case rel => exact ⟨i + 1, by omega, by go_num, NB8.out, by rw [HSM.out]; exact NF8.out, HR8.out, HO8.out, HX8.out, HB8.out⟩
      case measure => simp [intOf]; omega
   ·obtain rfl : i = t.fs.length := by omega
    have hra := rl_all t.fs k f.n
    rw [hra] at NF8
    have r08 := HR8.out.cell_ 0 (v := .slice none 0 0) rfl
    have r18 := HR8.out.cell_ 1 (v := .slice none 0 0) rfl
    have fr08 := HR8.out.free 0
    have fr18 := HR8.out.free 1
    have o80 := HO8.out.cell_ 0 (v := .slice (some ⟨g1, 0, none⟩) t.bs.length c1) rfl
    have o81 := HO8.out.cell_ 1 (v := .slice (some ⟨g2, 0, none⟩) t.fs.length c2) rfl
    have hrl := HR8.out.lt
    have hol := HO8.out.lt
    go_wp2
    have o3 := (HR8.out.set_ 0 (.slice (some ⟨g1, 0, none⟩) t.bs.length c1)).set_ 1 (.slice (some ⟨g2, 0, none⟩) t.fs.length c2)
    have e0 := o3.cell_ 0 (v := .slice (some ⟨g1, 0, none⟩) t.bs.length c1) rfl
    have e1 := o3.cell_ 1 (v := .slice (some ⟨g2, 0, none⟩) t.fs.length c2) rfl
    have hlt3 := HR0.out.lt
    have Q3 := (NF8.out.far (p := ⟨w.heap.size + 1, 0, none⟩) (u := .slice (some ⟨g1, 0, none⟩) t.bs.length c1) hlt3).far (p := ⟨w.heap.size + 1, 1, none⟩) (u := .slice (some ⟨g2, 0, none⟩) t.fs.length c2) hlt3
    have Q4 := (NB8.out.far (p := ⟨w.heap.size + 1, 0, none⟩) (u := .slice (some ⟨g1, 0, none⟩) t.bs.length c1) hlt3).far (p := ⟨w.heap.size + 1, 1, none⟩) (u := .slice (some ⟨g2, 0, none⟩) t.fs.length c2) hlt3
    refine bodyPost_ret (v := .agg #[.slice (some ⟨g1, 0, none⟩) t.bs.length c1, .slice (some ⟨g2, 0, none⟩) t.fs.length c2]) (by simp [results, Tryz.results210, go_sem, e0, e1]) rfl ⟨_, rfl, _, _, rfl, ?_, ?_⟩
    ·rw [HU.out]
     exact ⟨slm_of (by simp) (by simpa using a1) a2 (Q4.mono HB0.out.size), slm_of (by simp) (by simpa using b1) b2 (Q3.mono HB0.out.size)⟩
    ·repeat (refine bS ?_ (by simp <;> omega))
     exact HB8.out
set_option maxHeartbeats 4000000 in
theorem sUnmapPage_any (vb vf : Value) (t : Tab) (s p : Int) (w : World) (hT : TaR w vb vf t) :
  Calls Tryz.prog 161 #[.agg #[vb, vf], .agg #[.int .i64 s, .int .i64 p]] w (Post2 fun v w' => ∃ v1 v2, v = .tuple #[.agg #[v1, v2], .bool (fOK t s p)] ∧ TaM w.heap.size w' v1 v2 (unmV t s p) ∧ Below w.heap.size w w') := by
 have ht0 := ((Own.new_ w 26 #[vb, vf]).alloc (o := .cells #[.int .i64 s, .int .i64 p] 54)).alloc (o := .cells #[.slice none 0 0, .slice none 0 0] 26)
 have hk0 := (Own.new_ (w.alloc (.cells #[vb, vf] 26)) 54 #[.int .i64 s, .int .i64 p]).alloc (o := .cells #[.slice none 0 0, .slice none 0 0] 26)
 have hr0 := Own.new_ ((w.alloc (.cells #[vb, vf] 26)).alloc (.cells #[.int .i64 s, .int .i64 p] 54)) 26 #[.slice none 0 0, .slice none 0 0]
 have hb0 : Below w.heap.size w (((w.alloc (.cells #[vb, vf] 26)).alloc (.cells #[.int .i64 s, .int .i64 p] 54)).alloc (.cells #[.slice none 0 0, .slice none 0 0] 26)) := bA (bA (bA bR))
 rw [show (w.alloc (.cells #[vb, vf] 26)).heap.size = w.heap.size + 1 by simp] at hk0
 rw [show ((w.alloc (.cells #[vb, vf] 26)).alloc (.cells #[.int .i64 s, .int .i64 p] 54)).heap.size = w.heap.size + 1 + 1 by simp] at hr0
 have hs0 : (((w.alloc (.cells #[vb, vf] 26)).alloc (.cells #[.int .i64 s, .int .i64 p] 54)).alloc (.cells #[.slice none 0 0, .slice none 0 0] 26)).heap.size = w.heap.size + 3 := by simp
 generalize hW : ((w.alloc (.cells #[vb, vf] 26)).alloc (.cells #[.int .i64 s, .int .i64 p] 54)).alloc (.cells #[.slice none 0 0, .slice none 0 0] 26) = W0 at ht0 hk0 hr0 hb0 hs0
 have HT0 := Hd ht0
 have HK0 := Hd hk0
 have HR0 := Hd hr0
 have HB0 := Hd hb0
 clear ht0 hk0 hr0 hb0
 have t00 := HT0.out.cell_ 0 (v := vb) rfl
 have t10 := HT0.out.cell_ 1 (v := vf) rfl
 have k00 := HK0.out.cell_ 0 (v := .int .i64 s) rfl
 have k10 := HK0.out.cell_ 1 (v := .int .i64 p) rfl
 have HTR := Hd hT
 clear hT
 go_enter Tryz.func161, Tryz.ntmps161
 go_wp2_with fail
 refine (sFindPage_any vb vf t s p _ (HTR.out.now HB0.out)).mono ?_
 rintro e w1 ⟨_, rfl, stp, rfl, hb1⟩
 have HT1 := Hd (HT0.out.below hb1)
 have HK1 := Hd (HK0.out.below hb1)
 have HR1 := Hd (HR0.out.below hb1)
 have HB1 := Hd (bT HB0.out hb1)
 clear hb1
 have t01 := HT1.out.cell_ 0 rfl
 have t11 := HT1.out.cell_ 1 rfl
 have k01 := HK1.out.cell_ 0 (v := .int .i64 s) rfl
 have k11 := HK1.out.cell_ 1 (v := .int .i64 p) rfl
 have r01 := HR1.out.cell_ 0 (v := .slice none 0 0) rfl
 have r11 := HR1.out.cell_ 1 (v := .slice none 0 0) rfl
 have fr01 := HR1.out.free 0
 have fr11 := HR1.out.free 1
 clear t00 t10 k00 k10
 try clear r00 r10 fr00 fr10
 cases h1 : fOK t s p with
 | false =>
  have HA : Hid (fOK t s p = false) := h1
  have HV := Hd (unmOK_false HA.out)
  go_wp2
  have o3 := (HR1.out.set_ 0 (.slice none 0 0)).set_ 1 (.slice none 0 0)
  have e0 := o3.cell_ 0 (v := .slice none 0 0) rfl
  have e1 := o3.cell_ 1 (v := .slice none 0 0) rfl
  refine bodyPost_ret (v := .tuple #[.agg #[.slice none 0 0, .slice none 0 0], .bool false]) (by simp [results, Tryz.results161, go_sem, e0, e1]) rfl ⟨_, rfl, _, _, by rw [HA.out], ?_, bS (bS HB1.out (by simp; omega)) (by simp; omega)⟩
  rw [HV.out]
  exact tam_z
 | true =>
 have HA : Hid (fOK t s p = true) := h1
 have HV : Hid (unmV t s p = unmT t s p) := by show _ = _; unfold unmV; rw [HA.out]; rfl
 have h1' := h1
 unfold fOK at h1'
 simp only [Bool.and_eq_true, decide_eq_true_eq] at h1'
 obtain ⟨⟨htv, hkv⟩, h3⟩ := h1'
 obtain ⟨k, f, hk, ef, hfu, hfk⟩ := fndI_lt h3
 have HFP : Hid (fpV t s p = (k : Int)) := by show _ = _; unfold fpV; rw [h1, if_pos rfl, hk]
 rw [HFP.out]
 have HC := Hd (l3Unmap_any vb vf t s p k f w1 (HTR.out.now HB1.out) htv hkv hk ef hfu hfk)
 clear hk ef hfk h3 hfu htv hkv
 go_wp2_with fail
 refine HC.out.mono ?_
 rintro e w4 ⟨_, rfl, v1, v2, rfl, hM4, hb4'⟩
 have hb4 := hb4'
 have hs4 : w.heap.size + 1 + 1 < w1.heap.size := HR1.out.lt
 have HT4 := Hd (HT1.out.below hb4)
 have HK4 := Hd (HK1.out.below hb4)
 have HR4 := Hd (HR1.out.below hb4)
 have HB4 := Hd (bT HB1.out hb4)
 clear hb4
 have t04 := HT4.out.cell_ 0 rfl
 have t14 := HT4.out.cell_ 1 rfl
 have k04 := HK4.out.cell_ 0 (v := .int .i64 s) rfl
 have k14 := HK4.out.cell_ 1 (v := .int .i64 p) rfl
 have r04 := HR4.out.cell_ 0 (v := .slice none 0 0) rfl
 have r14 := HR4.out.cell_ 1 (v := .slice none 0 0) rfl
 have fr04 := HR4.out.free 0
 have fr14 := HR4.out.free 1
 clear t01 t11 k01 k11
 try clear r01 r11 fr01 fr11
 obtain ⟨A1, c1, rfl, _⟩ := hM4.b
 obtain ⟨A2, c2, rfl, _⟩ := hM4.f
 have HM4 := Hd hM4
 have hsz3 := HB1.out.size
 have hlr := HR4.out.lt
 clear hM4 hb4'
 go_wp2
 have o3 := (HR4.out.set_ 0 (.slice A1 (unmT t s p).bs.length c1)).set_ 1 (.slice A2 (unmT t s p).fs.length c2)
 have e0 := o3.cell_ 0 (v := .slice A1 (unmT t s p).bs.length c1) rfl
 have e1 := o3.cell_ 1 (v := .slice A2 (unmT t s p).fs.length c2) rfl
 have M7 := ((HM4.out.far (p := ⟨w.heap.size + 1 + 1, 0, none⟩) (u := .slice A1 (unmT t s p).bs.length c1) hs4).far (p := ⟨w.heap.size + 1 + 1, 1, none⟩) (u := .slice A2 (unmT t s p).fs.length c2) hs4).mono (B' := w.heap.size) hsz3
 refine bodyPost_ret (v := .tuple #[.agg #[.slice A1 (unmT t s p).bs.length c1, .slice A2 (unmT t s p).fs.length c2], .bool true]) (by simp [results, Tryz.results161, go_sem, e0, e1]) rfl ⟨_, rfl, _, _, by rw [HA.out], ?_, bS (bS HB4.out (by simp; omega)) (by simp; omega)⟩
 rw [HV.out]
 exact M7
end Go.Proofs.YtfbnokjdkhcgoaaGreatDoor
