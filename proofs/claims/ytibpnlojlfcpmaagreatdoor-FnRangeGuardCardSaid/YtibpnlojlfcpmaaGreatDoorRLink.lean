/- A part of the proofs of this seat: CpS, DrpP, Link, Ma2, MapI, Oth, TagI, Val. -/
import Derived.Deep.RegionHeldLaw
import Derived.Test.YtibpnlojlfcpmaaGreatDoorRMemv1
import Derived.Test.YtibpnlojlfcpmaaGreatDoorRMk
set_option linter.unusedVariables false
set_option linter.unusedSimpArgs false
set_option maxRecDepth 1000000
namespace Go.Proofs.YtibpnlojlfcpmaaGreatDoor
open Go.RowKit
theorem TaM.open_ {base : Nat} {w : World} {vb vf : Value} {t : Tab} (h : TaM base w vb vf t) (h1 : 1 ≤ t.bs.length) (h2 : 1 ≤ t.fs.length) :
  ∃ g1 c1 g2 c2, vb = .slice (some ⟨g1, 0, none⟩) t.bs.length c1 ∧ vf = .slice (some ⟨g2, 0, none⟩) t.fs.length c2 ∧ base ≤ g1 ∧ base ≤ g2 ∧ g1 < w.heap.size ∧ g2 < w.heap.size ∧ g1 ≠ g2
   ∧ t.bs.length ≤ c1 ∧ c1 ≤ maxLen ∧ t.fs.length ≤ c2 ∧ c2 ≤ maxLen ∧ MineE intE 3 base w (some ⟨g1, 0, none⟩) t.bs ∧ MineE frE 66 base w (some ⟨g2, 0, none⟩) t.fs := by
 obtain ⟨A1, c1, rfl, a1, a2, m1⟩ := h.b
 obtain ⟨A2, c2, rfl, b1, b2, m2⟩ := h.f
 obtain ⟨g1, cs1, rfl, e1, o1, s1⟩ := m1.own (by omega)
 obtain ⟨g2, cs2, rfl, e2, o2, s2⟩ := m2.own (by omega)
 refine ⟨g1, c1, g2, c2, rfl, rfl, e1, e2, o1.lt, o2.lt, ?_, a1, a2, b1, b2, m1, m2⟩
 intro hg
 subst hg
 unfold Own at o1 o2
 rw [o1] at o2
 injection o2 with o2
 injection o2 with _ o2
 exact absurd o2 (by decide)
theorem mapOK_false {t : Tab} {s p fr r : Int} (h : mapOK t s p fr r = false) : mapV t s p fr r = tabz := by unfold mapV; rw [h]; rfl
theorem tam_z {base : Nat} {w : World} : TaM base w (.slice none 0 0) (.slice none 0 0) tabz := ⟨SlM.nil_ _, SlM.nil_ _⟩
theorem mam_z {base : Nat} {w : World} : MaM base w (.slice none 0 0) (.slice none 0 0) (.slice none 0 0) (.slice none 0 0) maz := ⟨tam_z, SlM.nil_ _, SlM.nil_ _⟩
theorem step_copy {α : Type} (E : Enc α) (t ty e : TypeId) (i : TypeInfo) (z : Value) (bytes : Nat) (ht : Tryz.prog.underlying t = some (.slice e)) (hi : Tryz.prog.info? e = some i) (hz : i.zero = some z)
  (hs : i.size = E.sz) (hby : i.bytes = bytes) (hzs : z.cells.size = E.sz) (hbb : bytes ≤ 1000) (base : Nat)
  {ops : Array Oper} {o : Oper} {a : Act} {W : World} {K : Act → World → Prop} {Q : Exit → Act → World → Prop} {E' : Prop} (hgd : o.guard = none) (s x : Operand)
  (ho : o.op = .call { callee := .builtin .append, args := #[s, x], argTypes := #[t, t] }) (hty : o.type = ty) (g : Nat) (A : Option Addr) (c : Nat) (l : List α) (hv : a.eval s = .slice (some ⟨g, 0, none⟩) 0 0) (hx : a.eval x = .slice A l.length c)
  (hown : Own W g e #[]) (hbg : base ≤ g) (B : Nat) (hr : Rs E B W A l) (hl : l.length ≤ 1048576) (hb : base ≤ W.heap.size)
  (h : ∀ v' w', w'.ownsRow base e E.sz v' l.length (E.cells l) → W.grownBy w' (some g) → K (a.put o.dst v') w') : if Region.wanted o (yielded ops a.tmps) = true then Oper.wp Tryz.prog o a W K Q else E' := by
 have hO : W.ownsRow base e E.sz (.slice (some ⟨g, 0, none⟩) 0 0) 0 [] := ⟨by simp, .inr ⟨g, 0, #[], rfl, hbg, hown, Nat.le_refl _, by simp [maxLen], by simp, by simp⟩⟩
 obtain ⟨v', w', hrun, hown', hg', _⟩ := run_copy E t ty e i z bytes ht hi hz hs hby hzs hbb base W _ hO B A c l hr hl hb
 subst hty
 exact step_append_run hgd s x t ho _ _ v' w' hv hx hrun (h v' w' hown' hg')
theorem l4Copy_any (vl : Value) (c : Ca) (w : World) (hT : SlR lnE w vl c.ls) (hl : c.ls.length ≤ 1048576) :
    Calls Tryz.prog 158 #[.agg #[vl, .int .i64 c.hand]] w (Post2 fun v w' => ∃ v1, v = .agg #[v1, .int .i64 c.hand] ∧ SlM lnE 129 w.heap.size w' v1 c.ls ∧ Below w.heap.size w w') := by
  obtain ⟨A, cc, rfl, hbc, hbm, hL⟩ := hT
  obtain ⟨i0, hi0, hz0, hz1, hz2⟩ := info_parts ln_info
  have hbx := (Own.new_ w 43 #[.slice A c.ls.length cc, .int .i64 c.hand]).alloc (o := .cells #[.slice none 0 0, .int .i64 0] 43)
  have hbo := ownAt (W := w.alloc (.cells #[.slice A c.ls.length cc, .int .i64 c.hand] 43)) (g := w.heap.size + 1) (t := 43) (cs := #[.slice none 0 0, .int .i64 0]) (by simp)
  have hb0 : Below w.heap.size w ((w.alloc (.cells #[.slice A c.ls.length cc, .int .i64 c.hand] 43)).alloc (.cells #[.slice none 0 0, .int .i64 0] 43)) := bA (bA bR)
  have hs0 : ((w.alloc (.cells #[.slice A c.ls.length cc, .int .i64 c.hand] 43)).alloc (.cells #[.slice none 0 0, .int .i64 0] 43)).heap.size = w.heap.size + 2 := by simp
  generalize hW : (w.alloc (.cells #[.slice A c.ls.length cc, .int .i64 c.hand] 43)).alloc (.cells #[.slice none 0 0, .int .i64 0] 43) = W0 at hbx hbo hb0 hs0
  have q0 := hbx.cell_ 0 (v := .slice A c.ls.length cc) rfl
  have q1 := hbx.cell_ 1 (v := .int .i64 c.hand) rfl
  have HX0 := Hd hbx
  have HO0 := Hd hbo
  have HB0 := Hd hb0
  have HL := Hd hL
  clear hbx hbo hb0 hL
  go_enter Tryz.func158, Tryz.ntmps158
  go_wp2
  go_region_held_law (fun w' => w'.cell? ⟨w.heap.size, 0, none⟩ = some (.slice A c.ls.length cc) ∧ w'.cell? ⟨w.heap.size, 1, none⟩ = some (.int .i64 c.hand)) (go_keep) (first
    | (refine step_copy lnE 41 41 129 i0 _ _ Tryz.underlying41 hi0 hz0 hz1 hz2 rfl (by omega) (w.heap.size + 2) rfl (.tmp 3) (.tmp 5) rfl rfl _ A cc c.ls rfl rfl (ownAt (W := W0) (by simp [hs0])) (by simp <;> omega) w.heap.size (HL.out.below (bA (bD HB0.out))) hl (by simp [hs0] <;> omega) ?_
       intro v1 w1 hown1 hg1
       have hm1 := slm_own rfl hown1
       obtain ⟨A1, c1, rfl, _⟩ := slm_own rfl hown1
       have HB1 : Hid (Below w.heap.size w w1) := bG (bA (bD HB0.out)) hg1 (fun k hk => by injection hk with hk; omega)
       have hx1 := own_other (HX0.out.drew.alloc (o := .cells #[] 129)) hg1 (by simp <;> omega)
       have ho1 := own_other (HO0.out.drew.alloc (o := .cells #[] 129)) hg1 (by simp <;> omega)
       have d0 := hx1.cell_ 0 (v := .slice A c.ls.length cc) rfl
       have d1 := hx1.cell_ 1 (v := .int .i64 c.hand) rfl
       have p0 := ho1.free 0
       have p1 := ho1.free 1
       have p2 := ho1.cell_ 0 (v := .slice none 0 0) rfl
       have p3 := ho1.cell_ 1 (v := .int .i64 0) rfl
       have HO1 := Hd ho1
       have HM1 := Hd hm1
       clear hown1 hg1 hx1 ho1 hm1))
  all_goals
    go_wp2
    have o3 := (HO1.out.set_ 0 (.slice A1 c.ls.length c1)).set_ 1 (.int .i64 c.hand)
    have t0 := o3.cell_ 0 (v := .slice A1 c.ls.length c1) rfl
    have t1 := o3.cell_ 1 (v := .int .i64 c.hand) rfl
    have hM := (HM1.out.far (p := ⟨w.heap.size + 1, 0, none⟩) (u := .slice A1 c.ls.length c1) (by show w.heap.size + 1 < w.heap.size + 2; omega)).far (p := ⟨w.heap.size + 1, 1, none⟩) (u := .int .i64 c.hand) (by show w.heap.size + 1 < w.heap.size + 2; omega)
    refine bodyPost_ret (v := .agg #[.slice A1 c.ls.length c1, .int .i64 c.hand]) (by simp [results, Tryz.results158, go_sem, t0, t1]) rfl ⟨_, rfl, _, rfl, hM.mono (by omega), bS (bS HB1.out (by simp)) (by simp)⟩
theorem l5Copy_any (vo : Value) (g : Tg) (w : World) (hT : SlR owE w vo g.os) (hl : g.os.length ≤ 1048576) :
    Calls Tryz.prog 159 #[.agg #[.int .i64 g.count, .int .i64 g.next, .int .i64 g.round, vo]] w (Post2 fun v w' => ∃ v1, v = .agg #[.int .i64 g.count, .int .i64 g.next, .int .i64 g.round, v1] ∧ SlM owE 126 w.heap.size w' v1 g.os ∧ Below w.heap.size w w') := by
  obtain ⟨A, cc, rfl, hbc, hbm, hL⟩ := hT
  obtain ⟨i0, hi0, hz0, hz1, hz2⟩ := info_parts ow_info
  have hbx := (Own.new_ w 46 #[.int .i64 g.count, .int .i64 g.next, .int .i64 g.round, .slice A g.os.length cc]).alloc (o := .cells #[.int .i64 0, .int .i64 0, .int .i64 0, .slice none 0 0] 46)
  have hbo := ownAt (W := w.alloc (.cells #[.int .i64 g.count, .int .i64 g.next, .int .i64 g.round, .slice A g.os.length cc] 46)) (g := w.heap.size + 1) (t := 46) (cs := #[.int .i64 0, .int .i64 0, .int .i64 0, .slice none 0 0]) (by simp)
  have hb0 : Below w.heap.size w ((w.alloc (.cells #[.int .i64 g.count, .int .i64 g.next, .int .i64 g.round, .slice A g.os.length cc] 46)).alloc (.cells #[.int .i64 0, .int .i64 0, .int .i64 0, .slice none 0 0] 46)) := bA (bA bR)
  have hs0 : ((w.alloc (.cells #[.int .i64 g.count, .int .i64 g.next, .int .i64 g.round, .slice A g.os.length cc] 46)).alloc (.cells #[.int .i64 0, .int .i64 0, .int .i64 0, .slice none 0 0] 46)).heap.size = w.heap.size + 2 := by simp
  generalize hW : (w.alloc (.cells #[.int .i64 g.count, .int .i64 g.next, .int .i64 g.round, .slice A g.os.length cc] 46)).alloc (.cells #[.int .i64 0, .int .i64 0, .int .i64 0, .slice none 0 0] 46) = W0 at hbx hbo hb0 hs0
  have q0 := hbx.cell_ 0 (v := .int .i64 g.count) rfl
  have q1 := hbx.cell_ 1 (v := .int .i64 g.next) rfl
  have q2 := hbx.cell_ 2 (v := .int .i64 g.round) rfl
  have q3 := hbx.cell_ 3 (v := .slice A g.os.length cc) rfl
  have HX0 := Hd hbx
  have HO0 := Hd hbo
  have HB0 := Hd hb0
  have HL := Hd hL
  clear hbx hbo hb0 hL
  go_enter Tryz.func159, Tryz.ntmps159
  go_wp2
  go_region_held_law (fun w' => w'.cell? ⟨w.heap.size, 0, none⟩ = some (.int .i64 g.count) ∧ w'.cell? ⟨w.heap.size, 1, none⟩ = some (.int .i64 g.next) ∧ w'.cell? ⟨w.heap.size, 2, none⟩ = some (.int .i64 g.round) ∧ w'.cell? ⟨w.heap.size, 3, none⟩ = some (.slice A g.os.length cc)) (go_keep) (first
    | (refine step_copy owE 44 44 126 i0 _ _ Tryz.underlying44 hi0 hz0 hz1 hz2 rfl (by omega) (w.heap.size + 2) rfl (.tmp 9) (.tmp 11) rfl rfl _ A cc g.os rfl rfl (ownAt (W := W0) (by simp [hs0])) (by simp <;> omega) w.heap.size (HL.out.below (bA (bD HB0.out))) hl (by simp [hs0] <;> omega) ?_
       intro v1 w1 hown1 hg1
       have hm1 := slm_own rfl hown1
       obtain ⟨A1, c1, rfl, _⟩ := slm_own rfl hown1
       have HB1 : Hid (Below w.heap.size w w1) := bG (bA (bD HB0.out)) hg1 (fun k hk => by injection hk with hk; omega)
       have hx1 := own_other (HX0.out.drew.alloc (o := .cells #[] 126)) hg1 (by simp <;> omega)
       have ho1 := own_other (HO0.out.drew.alloc (o := .cells #[] 126)) hg1 (by simp <;> omega)
       have d0 := hx1.cell_ 0 (v := .int .i64 g.count) rfl
       have d1 := hx1.cell_ 1 (v := .int .i64 g.next) rfl
       have d2 := hx1.cell_ 2 (v := .int .i64 g.round) rfl
       have d3 := hx1.cell_ 3 (v := .slice A g.os.length cc) rfl
       have p0 := ho1.free 0
       have p1 := ho1.free 1
       have p2 := ho1.free 2
       have p3 := ho1.free 3
       have e0 := ho1.cell_ 0 (v := .int .i64 0) rfl
       have e1 := ho1.cell_ 1 (v := .int .i64 0) rfl
       have e2 := ho1.cell_ 2 (v := .int .i64 0) rfl
       have e3 := ho1.cell_ 3 (v := .slice none 0 0) rfl
       have HO1 := Hd ho1
       have HM1 := Hd hm1
       clear hown1 hg1 hx1 ho1 hm1))
  all_goals
    go_wp2
    have o3 := (((HO1.out.set_ 0 (.int .i64 g.count)).set_ 1 (.int .i64 g.next)).set_ 2 (.int .i64 g.round)).set_ 3 (.slice A1 g.os.length c1)
    have t0 := o3.cell_ 0 (v := .int .i64 g.count) rfl
    have t1 := o3.cell_ 1 (v := .int .i64 g.next) rfl
    have t2 := o3.cell_ 2 (v := .int .i64 g.round) rfl
    have t3 := o3.cell_ 3 (v := .slice A1 g.os.length c1) rfl
    have hM := (((HM1.out.far (p := ⟨w.heap.size + 1, 0, none⟩) (u := .int .i64 g.count) (by show w.heap.size + 1 < w.heap.size + 2; omega)).far (p := ⟨w.heap.size + 1, 1, none⟩) (u := .int .i64 g.next) (by show w.heap.size + 1 < w.heap.size + 2; omega)).far (p := ⟨w.heap.size + 1, 2, none⟩) (u := .int .i64 g.round) (by show w.heap.size + 1 < w.heap.size + 2; omega)).far (p := ⟨w.heap.size + 1, 3, none⟩) (u := .slice A1 g.os.length c1) (by show w.heap.size + 1 < w.heap.size + 2; omega)
    refine bodyPost_ret (v := .agg #[.int .i64 g.count, .int .i64 g.next, .int .i64 g.round, .slice A1 g.os.length c1]) (by simp [results, Tryz.results159, go_sem, t0, t1, t2, t3]) rfl ⟨_, rfl, _, rfl, hM.mono (by omega), bS (bS (bS (bS HB1.out (by simp)) (by simp)) (by simp)) (by simp)⟩
theorem own_ne {W : World} {base : Nat} {e e2 : TypeId} {sz n g2 : Nat} {v : Value} {xs : List Value} {cs : Array Value} (h : W.ownsRow base e sz v n xs) (h2 : Own W g2 e2 cs) (hne : e ≠ e2) : v.ownBlock = none ∨ v.ownBlock ≠ some g2 := by
 rcases h.2 with ⟨rfl, _⟩ | ⟨g, cap, cur, rfl, _, hg, _⟩
 ·exact .inl rfl
 ·refine .inr fun heq => ?_
  injection heq with heq
  replace heq : g = g2 := heq
  subst heq
  unfold Own at h2
  rw [hg] at h2
  injection h2 with h2
  injection h2 with _ h2
  exact hne h2
set_option maxHeartbeats 1000000 in
theorem l3Copy_any (vb vf : Value) (t : Tab) (w : World) (hT : TaR w vb vf t) (h1 : t.bs.length ≤ 1048576) (h2 : t.fs.length ≤ 1048576) :
    Calls Tryz.prog 157 #[.agg #[vb, vf]] w (Post2 fun v w' => ∃ v1 v2, v = .agg #[v1, v2] ∧ TaM w.heap.size w' v1 v2 t ∧ Below w.heap.size w w') := by
  obtain ⟨Ab, cb, rfl, hbc, hbm, hB⟩ := hT.b
  obtain ⟨Af, cf, rfl, hfc, hfm, hF⟩ := hT.f
  obtain ⟨i0, hi0, hz0, hz1, hz2⟩ := info_parts int_info2
  obtain ⟨j0, hj0, hy0, hy1, hy2⟩ := info_parts fr_info
  have hbx := (Own.new_ w 40 #[.slice Ab t.bs.length cb, .slice Af t.fs.length cf]).alloc (o := .cells #[.slice none 0 0, .slice none 0 0] 40)
  have hbo := ownAt (W := w.alloc (.cells #[.slice Ab t.bs.length cb, .slice Af t.fs.length cf] 40)) (g := w.heap.size + 1) (t := 40) (cs := #[.slice none 0 0, .slice none 0 0]) (by simp)
  have hb0 : Below w.heap.size w ((w.alloc (.cells #[.slice Ab t.bs.length cb, .slice Af t.fs.length cf] 40)).alloc (.cells #[.slice none 0 0, .slice none 0 0] 40)) := bA (bA bR)
  have hs0 : ((w.alloc (.cells #[.slice Ab t.bs.length cb, .slice Af t.fs.length cf] 40)).alloc (.cells #[.slice none 0 0, .slice none 0 0] 40)).heap.size = w.heap.size + 2 := by simp
  generalize hW : (w.alloc (.cells #[.slice Ab t.bs.length cb, .slice Af t.fs.length cf] 40)).alloc (.cells #[.slice none 0 0, .slice none 0 0] 40) = W0 at hbx hbo hb0 hs0
  have q0 := hbx.cell_ 0 (v := .slice Ab t.bs.length cb) rfl
  have q1 := hbx.cell_ 1 (v := .slice Af t.fs.length cf) rfl
  have HX0 := Hd hbx
  have HO0 := Hd hbo
  have HB0 := Hd hb0
  have HBR := Hd hB
  have HFR := Hd hF
  clear hbx hbo hb0 hB hF hT
  go_enter Tryz.func157, Tryz.ntmps157
  go_wp2
  go_region_held_law (fun w' => w'.cell? ⟨w.heap.size, 0, none⟩ = some (.slice Ab t.bs.length cb) ∧ w'.cell? ⟨w.heap.size, 1, none⟩ = some (.slice Af t.fs.length cf)) (go_keep) (first
    | (refine step_copy intE 22 22 3 i0 _ _ Tryz.underlying22 hi0 hz0 hz1 hz2 rfl (by omega) (w.heap.size + 2) rfl (.tmp 3) (.tmp 5) rfl rfl _ Ab cb t.bs rfl rfl (ownAt (W := W0) (by simp [hs0])) (by first | omega | (simp [hs0] <;> omega)) w.heap.size (HBR.out.below (by first | exact bA (bD HB0.out) | exact bA (bA (bD HB0.out)))) h1 (by first | omega | (simp [hs0] <;> omega)) ?_
       intro v1 w1 hown1 hg1
       obtain ⟨A1, c1, rfl, _⟩ := slm_own rfl hown1
       have HB1 : Hid (Below w.heap.size w w1) := bG (by first | exact bA (bD HB0.out) | exact bA (bA (bD HB0.out))) hg1 (fun k hk => by injection hk with hk; omega)
       have hx1 := own_other (by first | exact HX0.out.drew.alloc (o := .cells #[] 3) | exact (HX0.out.drew.alloc (o := .cells #[] 3)).alloc (o := .cells #[] 66) | exact (HX0.out.drew.alloc (o := .cells #[] 66)).alloc (o := .cells #[] 3)) hg1 (by first | omega | (simp [hs0] <;> omega))
       have ho1 := own_other (by first | exact HO0.out.drew.alloc (o := .cells #[] 3) | exact (HO0.out.drew.alloc (o := .cells #[] 3)).alloc (o := .cells #[] 66) | exact (HO0.out.drew.alloc (o := .cells #[] 66)).alloc (o := .cells #[] 3)) hg1 (by first | omega | (simp [hs0] <;> omega))
       have d0 := hx1.cell_ 0 (v := .slice Ab t.bs.length cb) rfl
       have d1 := hx1.cell_ 1 (v := .slice Af t.fs.length cf) rfl
       have HX1 := Hd hx1
       have HO1 := Hd ho1
       have HW1 := Hd hown1
       have hs1 : w.heap.size + 3 ≤ w1.heap.size := Nat.le_trans (by first | omega | (simp [hs0] <;> omega)) hg1.size
       skip
       clear hown1 hg1 hx1 ho1)
    | (refine step_copy intE 22 22 3 i0 _ _ Tryz.underlying22 hi0 hz0 hz1 hz2 rfl (by omega) (w.heap.size + 2) rfl (.tmp 3) (.tmp 5) rfl rfl _ Ab cb t.bs rfl rfl (ownAt (W := W0) (by simp [hs0])).alloc (by first | omega | (simp [hs0] <;> omega)) w.heap.size (HBR.out.below (by first | exact bA (bD HB0.out) | exact bA (bA (bD HB0.out)))) h1 (by first | omega | (simp [hs0] <;> omega)) ?_
       intro v1 w1 hown1 hg1
       obtain ⟨A1, c1, rfl, _⟩ := slm_own rfl hown1
       have HB1 : Hid (Below w.heap.size w w1) := bG (by first | exact bA (bD HB0.out) | exact bA (bA (bD HB0.out))) hg1 (fun k hk => by injection hk with hk; omega)
       have hx1 := own_other (by first | exact HX0.out.drew.alloc (o := .cells #[] 3) | exact (HX0.out.drew.alloc (o := .cells #[] 3)).alloc (o := .cells #[] 66) | exact (HX0.out.drew.alloc (o := .cells #[] 66)).alloc (o := .cells #[] 3)) hg1 (by first | omega | (simp [hs0] <;> omega))
       have ho1 := own_other (by first | exact HO0.out.drew.alloc (o := .cells #[] 3) | exact (HO0.out.drew.alloc (o := .cells #[] 3)).alloc (o := .cells #[] 66) | exact (HO0.out.drew.alloc (o := .cells #[] 66)).alloc (o := .cells #[] 3)) hg1 (by first | omega | (simp [hs0] <;> omega))
       have d0 := hx1.cell_ 0 (v := .slice Ab t.bs.length cb) rfl
       have d1 := hx1.cell_ 1 (v := .slice Af t.fs.length cf) rfl
       have HX1 := Hd hx1
       have HO1 := Hd ho1
       have HW1 := Hd hown1
       have hs1 : w.heap.size + 3 ≤ w1.heap.size := Nat.le_trans (by first | omega | (simp [hs0] <;> omega)) hg1.size
       have HF1 := Hd (own_other (ownAt (W := W0.drew.alloc (.cells #[] 3)) (g := w.heap.size + 3) (t := 66) (cs := #[]) (by simp [hs0])) hg1 (by first | omega | (simp [hs0] <;> omega)))
       clear hown1 hg1 hx1 ho1)
    | (refine step_copy intE 22 22 3 i0 _ _ Tryz.underlying22 hi0 hz0 hz1 hz2 rfl (by omega) (w.heap.size + 2) rfl (.tmp 3) (.tmp 5) rfl rfl _ Ab cb t.bs rfl rfl (ownAt (W := W0.alloc (.cells #[] 66)) (by simp [hs0])) (by first | omega | (simp [hs0] <;> omega)) w.heap.size (HBR.out.below (by first | exact bA (bD HB0.out) | exact bA (bA (bD HB0.out)))) h1 (by first | omega | (simp [hs0] <;> omega)) ?_
       intro v1 w1 hown1 hg1
       obtain ⟨A1, c1, rfl, _⟩ := slm_own rfl hown1
       have HB1 : Hid (Below w.heap.size w w1) := bG (by first | exact bA (bD HB0.out) | exact bA (bA (bD HB0.out))) hg1 (fun k hk => by injection hk with hk; omega)
       have hx1 := own_other (by first | exact HX0.out.drew.alloc (o := .cells #[] 3) | exact (HX0.out.drew.alloc (o := .cells #[] 3)).alloc (o := .cells #[] 66) | exact (HX0.out.drew.alloc (o := .cells #[] 66)).alloc (o := .cells #[] 3)) hg1 (by first | omega | (simp [hs0] <;> omega))
       have ho1 := own_other (by first | exact HO0.out.drew.alloc (o := .cells #[] 3) | exact (HO0.out.drew.alloc (o := .cells #[] 3)).alloc (o := .cells #[] 66) | exact (HO0.out.drew.alloc (o := .cells #[] 66)).alloc (o := .cells #[] 3)) hg1 (by first | omega | (simp [hs0] <;> omega))
       have d0 := hx1.cell_ 0 (v := .slice Ab t.bs.length cb) rfl
       have d1 := hx1.cell_ 1 (v := .slice Af t.fs.length cf) rfl
       have HX1 := Hd hx1
       have HO1 := Hd ho1
       have HW1 := Hd hown1
       have hs1 : w.heap.size + 3 ≤ w1.heap.size := Nat.le_trans (by first | omega | (simp [hs0] <;> omega)) hg1.size
       have HF1 := Hd (own_other (ownAt (W := W0.drew) (g := w.heap.size + 2) (t := 66) (cs := #[]) (by simp [hs0])).alloc hg1 (by first | omega | (simp [hs0] <;> omega)))
       clear hown1 hg1 hx1 ho1)
    | (refine step_copy frE 38 38 66 j0 _ _ Tryz.underlying38 hj0 hy0 hy1 hy2 rfl (by omega) (w.heap.size + 2) rfl (.tmp 7) (.tmp 9) rfl rfl _ Af cf t.fs rfl rfl (by first | exact HF1.out | exact Own.new_ _ _ _) (by first | omega | (simp [hs0] <;> omega)) w.heap.size (HFR.out.below (by first | exact HB1.out | exact bA HB1.out)) h2 (by first | omega | (simp [hs0] <;> omega)) ?_
       intro v2 w2 hown2 hg2
       have hm2 := slm_own rfl hown2
       obtain ⟨A2, c2, rfl, _⟩ := slm_own rfl hown2
       have hk1 : w2.ownsRow (w.heap.size + 2) 3 intE.sz (.slice A1 t.bs.length c1) t.bs.length (intE.cells t.bs) := by
         first
           | exact HW1.out.kept hg2 (own_ne (e2 := 66) HW1.out HF1.out (by decide))
           | exact (HW1.out.alloc (.cells #[] 66)).kept hg2 (own_ne (e2 := 66) (HW1.out.alloc (.cells #[] 66)) (Own.new_ w1 66 #[]) (by decide))
       have HM1 := Hd (slm_own rfl hk1)
       have HM2 := Hd hm2
       have HB2 : Hid (Below w.heap.size w w2) := bG (by first | exact HB1.out | exact bA HB1.out) hg2 (fun k hk => by injection hk with hk; omega)
       have hx2 := own_other (by first | exact HX1.out | exact HX1.out.alloc (o := .cells #[] 66)) hg2 (by first | omega | (simp [hs0] <;> omega))
       have ho2 := own_other (by first | exact HO1.out | exact HO1.out.alloc (o := .cells #[] 66)) hg2 (by first | omega | (simp [hs0] <;> omega))
       have f0 := hx2.cell_ 0 (v := .slice Ab t.bs.length cb) rfl
       have f1 := hx2.cell_ 1 (v := .slice Af t.fs.length cf) rfl
       have p0 := ho2.free 0
       have p1 := ho2.free 1
       have p2 := ho2.cell_ 0 (v := .slice none 0 0) rfl
       have p3 := ho2.cell_ 1 (v := .slice none 0 0) rfl
       have HO2 := Hd ho2
       clear hown2 hg2 hx2 ho2 hm2 hk1))
  all_goals
    go_wp2
    have o3 := (HO2.out.set_ 0 (.slice A1 t.bs.length c1)).set_ 1 (.slice A2 t.fs.length c2)
    have t0 := o3.cell_ 0 (v := .slice A1 t.bs.length c1) rfl
    have t1 := o3.cell_ 1 (v := .slice A2 t.fs.length c2) rfl
    have hT2 : TaM (w.heap.size + 2) w2 (.slice A1 t.bs.length c1) (.slice A2 t.fs.length c2) t := ⟨HM1.out, HM2.out⟩
    have hM := (hT2.far (p := ⟨w.heap.size + 1, 0, none⟩) (u := .slice A1 t.bs.length c1) (by show w.heap.size + 1 < w.heap.size + 2; omega)).far (p := ⟨w.heap.size + 1, 1, none⟩) (u := .slice A2 t.fs.length c2) (by show w.heap.size + 1 < w.heap.size + 2; omega)
    refine bodyPost_ret (v := .agg #[.slice A1 t.bs.length c1, .slice A2 t.fs.length c2]) (by simp [results, Tryz.results157, go_sem, t0, t1]) rfl ⟨_, rfl, _, _, rfl, hM.mono (by omega), bS (bS HB2.out (by simp)) (by simp)⟩
theorem stS_same (ty : TypeId) (n : Nat) (v : World) : stS ty n v v := ⟨Oth.of_below bR, fun g cs h1 h2 => ⟨cs, h1, h2⟩⟩
theorem stS_trans {ty : TypeId} {n : Nat} {v v' v'' : World} (h : stS ty n v v') (k : stS ty n v' v'') : stS ty n v v'' := by
 refine ⟨⟨Nat.le_trans h.1.1 k.1.1, fun g e cs o hne => k.1.2 g e cs (h.1.2 g e cs o hne) hne⟩, fun g cs hn o => ?_⟩
 obtain ⟨cs', e1, e2⟩ := h.2 g cs hn o
 exact k.2 g cs' e1 e2
def drpM (m : Ma) (t : Tab) (s p : Int) : Ma := { m with t := t, c := drpC m s p }
def takV (m : Ma) (s p : Int) : Ma := if takO m s p = true then drpM m (unmV m.t s p) s p else maz
theorem takO_false {m : Ma} {s p : Int} (h : takO m s p = false) : takV m s p = maz := by unfold takV; rw [h]; rfl
theorem tgO_neg {g : Tg} {s : Int} (h : ¬ 0 ≤ ownI g.os s) : tgO g s = false ∧ tgT g s = 0 := by
 have h1 : tgO g s = false := by unfold tgO; rw [decide_eq_false h, Bool.and_false]
 exact ⟨h1, by unfold tgT; rw [h1]; rfl⟩
theorem drpC_no {m : Ma} {s p : Int} (h : tagO m s p = false) : drpC m s p = m.c := by unfold drpC; rw [if_neg]; rintro ⟨h1, _⟩; rw [h] at h1; cases h1
theorem drpC_neg {m : Ma} {s p : Int} (h : ¬ 0 ≤ plcI m.c.ls (tagT m s p) p) : drpC m s p = m.c := by unfold drpC; rw [if_neg]; exact fun h1 => h h1.2
theorem lnM_mk {m : Ma} {x : Ln} {s : Int} {i : Nat} (hs : lnSp m x = some s) (hf : fnd m.t.fs (keyI s x.p) x.p = some i) (hi : (i : Int) = x.f) (hr : (m.t.fs.getD i frz).r = x.r) (h1 : (128 ≤ x.p) ↔ x.t = -1) (hw : x.w = true → 128 ≤ x.p) : lnM m x = true := by
 rw [lnM_def]
 split
 ·rw [hs]
  simp only
  rw [hf]
  simp only [Bool.and_eq_true, Bool.or_eq_true, decide_eq_true_eq]
  refine ⟨⟨h1, ?_⟩, hi, hr⟩
  cases hx : x.w with
  | false => exact .inl rfl
  | true => exact .inr (hw hx)
 ·rfl
theorem lnM_keep {m m' : Ma} {x : Ln} (hg : m'.g = m.g) (hf : ∀ (s : Int) (i : Nat), lnSp m x = some s → fnd m.t.fs (keyI s x.p) x.p = some i → fnd m'.t.fs (keyI s x.p) x.p = some i ∧ (m'.t.fs.getD i frz).r = (m.t.fs.getD i frz).r) (h : lnM m x = true) : lnM m' x = true := by
 cases hv : x.v with
 | false => exact lnM_inv hv
 | true =>
  obtain ⟨s, i, a1, a2, a3, a4, a5, a6⟩ := lnM_some hv h
  obtain ⟨b1, b2⟩ := hf s i a1 a2
  exact lnM_mk (by unfold lnSp at a1 ⊢; rw [hg]; exact a1) b1 a3 (by rw [b2]; exact a4) a5 a6
theorem getD_at {fs : List Fr} {i : Nat} {f : Fr} (e : fs[i]? = some f) : fs.getD i frz = f := by rw [List.getD_eq_getElem?_getD, e]; rfl
theorem mav_put {m : Ma} {s p fr r : Int} (h : putOK m s p fr r = true) : mav (putV m s p fr r) = true := by
 have hV : putV m s p fr r = { m with t := mapV m.t s p fr r } := by unfold putV; rw [if_pos h]
 unfold putOK at h
 simp only [Bool.and_eq_true, decide_eq_true_eq] at h
 obtain ⟨⟨hm, hk⟩, hok⟩ := h
 have hT : mapV m.t s p fr r = mapT m.t s p fr r := by unfold mapV; rw [if_pos hok]
 unfold mapOK at hok
 simp only [Bool.and_eq_true] at hok
 obtain ⟨⟨⟨⟨⟨htv, hkv⟩, hnf⟩, hin⟩, hu⟩, hr⟩ := hok
 have M := mav_MV.1 hm
 have hnf' : fnd m.t.fs s p = none := by
  cases e : fnd m.t.fs s p with
  | none => rfl
  | some i => unfold fndI at hnf; rw [e] at hnf; simp at hnf
 obtain ⟨hi0, hi1⟩ := inR_iff.1 hin
 obtain ⟨k, rfl⟩ := Int.eq_ofNat_of_zero_le hi0
 rw [Int.toNat_natCast] at hu
 cases ef : m.t.fs[k]? with
 | none => rw [ef] at hu; cases hu
 | some f0 =>
 rw [ef] at hu
 have hu0 : f0.used = false := by simpa using hu
 have hTV := M.t.map hkv hnf' ef hu0 hr
 have hmt : mapT m.t s p (k : Int) r = ⟨m.t.bs.set (bkt m.t s p) k, m.t.fs.set k ⟨true, s, p, r, m.t.bs.getD (bkt m.t s p) 0⟩⟩ := by unfold mapT; rw [Int.toNat_natCast]
 rw [hV, hT, hmt]
 have hkl := (List.getElem?_eq_some_iff.1 ef).1
 refine mav_MV.2 ⟨hTV, M.c, M.g, M.o, fun i f hi => ?_, fun i x hi => ?_⟩
 ·simp only at hi
  rw [List.getElem?_set] at hi
  split at hi
  ·injection hi with hi
   rw [← hi]
   unfold frM
   unfold keyI at hk
   by_cases h128 : 128 ≤ p
   ·rw [if_pos h128] at hk
    simp [← hk]
   ·simp [h128]
  ·exact M.f i f hi
 ·refine lnM_keep (m := m) rfl (fun s' j hs' hj => ?_) (M.l i x hi)
  obtain ⟨f, e1, e2, e3⟩ := fnd_some hj
  have hne : k ≠ j := by rintro rfl; rw [ef] at e1; injection e1 with e1; rw [e1, e2] at hu0; cases hu0
  have e4 : (m.t.fs.set k ⟨true, s, p, r, m.t.bs.getD (bkt m.t s p) 0⟩)[j]? = some f := by rw [List.getElem?_set, if_neg hne]; exact e1
  exact ⟨hTV.fnd e4 e2 e3, by rw [getD_at e4, getD_at e1]⟩
theorem MV.drp {m : Ma} (M : MV m) (s p : Int) : CV (drpC m s p) := by
 unfold drpC
 split
 ·exact M.c.drop _
 ·exact M.c
theorem fOK_at {t : Tab} {s p : Int} (h : fOK t s p = true) : ∃ (k : Nat) (f : Fr), fndI t.fs s p = (k : Int) ∧ fnd t.fs s p = some k ∧ t.fs[k]? = some f ∧ f.used = true ∧ (f.s, f.p) = (s, p) ∧ kval (s, p) = true := by
 unfold fOK at h
 simp only [Bool.and_eq_true, decide_eq_true_eq] at h
 obtain ⟨⟨_, hk⟩, h3⟩ := h
 unfold fndI at h3 ⊢
 cases e : fnd t.fs s p with
 | none => rw [e] at h3; simp at h3
 | some i =>
  obtain ⟨f, a, b, c⟩ := fnd_some e
  exact ⟨i, f, rfl, rfl, a, b, c, hk⟩
theorem mav_tak {m : Ma} {s p : Int} (h : takO m s p = true) : mav (takV m s p) = true := by
 have hV : takV m s p = drpM m (unmV m.t s p) s p := by unfold takV; rw [if_pos h]
 unfold takO at h
 rw [Bool.and_eq_true] at h
 obtain ⟨hm, hf⟩ := h
 have hT : unmV m.t s p = unmT m.t s p := by unfold unmV; rw [if_pos hf]
 have M := mav_MV.1 hm
 obtain ⟨k, f, hk, hk', ef, hu, hkk, hkv⟩ := fOK_at hf
 injection hkk with hk1 hk2
 have hTV := M.t.unmap ef hu (by rw [hk1, hk2]; exact hkv)
 have hut : unmT m.t s p = (if m.t.bs.getD (bkt m.t f.s f.p) 0 = (k : Int) then ⟨m.t.bs.set (bkt m.t f.s f.p) f.n, m.t.fs.set k frz⟩ else ⟨m.t.bs, (m.t.fs.map (relink k f.n)).set k frz⟩) := by
  unfold unmT
  simp only [hk, Int.toNat_natCast, getD_at ef, hk1, hk2]
 rw [← hut] at hTV
 have hkl := (List.getElem?_eq_some_iff.1 ef).1
 /- what the table's frames are now -/
 have hfr : ∀ j, (unmT m.t s p).fs[j]? = if k = j then some frz else (m.t.fs[j]?).map (fun g => if (m.t.bs.getD (bkt m.t f.s f.p) 0 = (k : Int)) then g else relink k f.n g) := by
  intro j
  rw [hut]
  split
  ·simp only
   rw [List.getElem?_set]
   split
   ·rfl
   ·simp
  ·simp only
   rw [List.getElem?_set]
   split
   ·rw [if_pos (by simpa using hkl)]
   ·rw [List.getElem?_map]
 have hre : ∀ g : Fr, (relink k f.n g).used = g.used ∧ (relink k f.n g).s = g.s ∧ (relink k f.n g).p = g.p ∧ (relink k f.n g).r = g.r := by
  intro g
  unfold relink
  split <;> exact ⟨rfl, rfl, rfl, rfl⟩
 have hsame : ∀ (j : Nat) (g : Fr), k ≠ j → m.t.fs[j]? = some g → ∃ g', (unmT m.t s p).fs[j]? = some g' ∧ g'.used = g.used ∧ g'.s = g.s ∧ g'.p = g.p ∧ g'.r = g.r := by
  intro j g hj eg
  refine ⟨_, by rw [hfr, if_neg hj, eg]; rfl, ?_⟩
  split
  ·exact ⟨rfl, rfl, rfl, rfl⟩
  ·exact hre g
 rw [hV, hT]
 refine mav_MV.2 ⟨hTV, M.drp s p, M.g, M.o, fun i g hi => ?_, fun i x hi => ?_⟩
 ·simp only [drpM] at hi
  rw [hfr] at hi
  split at hi
  ·injection hi with hi
   rw [← hi]; rfl
  ·cases e : m.t.fs[i]? with
   | none => rw [e] at hi; cases hi
   | some g0 =>
    rw [e] at hi
    injection hi with hi
    have h0 := M.f i g0 e
    rw [← hi]
    split
    ·exact h0
    ·obtain ⟨r1, r2, r3, _⟩ := hre g0
     unfold frM at h0 ⊢
     rw [r1, r2, r3]; exact h0
 ·cases hv : x.v with
  | false => exact lnM_inv hv
  | true =>
   obtain ⟨e0, hne⟩ := M.apart hi hv
   refine lnM_keep (m := m) rfl (fun s' j hs' hj => ?_) (M.l i x e0)
   obtain ⟨g, e1, e2, e3⟩ := fnd_some hj
   have hkj : k ≠ j := by
    rintro rfl
    rw [ef] at e1
    injection e1 with e1
    subst e1
    exact hne s' hs' (by rw [← e3, hk1, hk2])
   obtain ⟨g', b1, b2, b3, b4, b5⟩ := hsame j g hkj e1
   exact ⟨hTV.fnd b1 (by rw [b2, e2]) (by rw [b3, b4]; exact e3), by simp only [drpM]; rw [getD_at b1, getD_at e1, b5]⟩
set_option maxHeartbeats 1000000 in
theorem l6Tag_any (vb vf vl vo : Value) (m : Ma) (s p : Int) (w : World) (hM : MaR w vb vf vl vo m) (hg : tgv m.g = true) :
  Calls Tryz.prog 178 #[.agg #[vb, vf, vl, .int .i64 m.c.hand, .int .i64 m.g.count, .int .i64 m.g.next, .int .i64 m.g.round, vo, .int .i64 m.sp], .int .i64 s, .int .i64 p] w fun r w' => r = .returned (.tuple #[.int .i64 (tagT m s p), .bool (tagO m s p)]) ∧ Below w.heap.size w w' := by
 have HM := Hd hM
 clear hM
 obtain ⟨W0, hW, hbx, hbz, _⟩ := box1 w #[vb, vf, vl, .int .i64 m.c.hand, .int .i64 m.g.count, .int .i64 m.g.next, .int .i64 m.g.round, vo, .int .i64 m.sp] 48
 have HX0 := Hd hbx
 have HB0 := Hd hbz
 clear hbx hbz
 obtain ⟨m00, m10, m20, m30, m40, m50, m60, m70, m80⟩ := cells9 HX0.out
 by_cases h : 128 ≤ p
 ·have E1 : Hid (tagT m s p = -1) := if_pos h
  have E2 : Hid (tagO m s p = true) := if_pos h
  go_enter Tryz.func178, Tryz.ntmps178
  go_wp2
  go_ret2
  exact ⟨by rw [E1.out, E2.out]; rfl, HB0.out⟩
 ·have E1 : Hid (tagT m s p = tgT m.g s) := if_neg h
  have E2 : Hid (tagO m s p = tgO m.g s) := if_neg h
  by_cases h2 : 0 ≤ ownI m.g.os s
  case neg =>
   obtain ⟨e1, e2⟩ := tgO_neg h2
   have F1 := Hd e1
   have F2 := Hd e2
   have h2b : ownI m.g.os s < 0 := by omega
   clear e1 e2
   go_enter Tryz.func178, Tryz.ntmps178
   go_wp2_with fail
   refine (l5Find_any _ m.g s _ (HM.out.o.now HB0.out)).mono ?_
   rintro e w1 ⟨rfl, hb1⟩
   go_wp2
   go_ret2
   exact ⟨by rw [E1.out, E2.out, F1.out, F2.out]; rfl, bT HB0.out hb1⟩
  case pos =>
   obtain ⟨k, o, hk, eo, _⟩ := ownI_lt h2
   obtain ⟨e1, e2⟩ := tgO_yes hg hk eo
   have F1 := Hd e1
   have F2 := Hd e2
   have HN := Hd hk
   have EO := Hd eo
   have hkl := (List.getElem?_eq_some_iff.1 eo).1
   have h2b : ¬ (k : Int) < 0 := by omega
   clear e1 e2 hk eo h2
   go_enter Tryz.func178, Tryz.ntmps178
   go_wp2_with fail
   refine (l5Find_any _ m.g s _ (HM.out.o.now HB0.out)).mono ?_
   rintro e w1 ⟨rfl, hb1⟩
   rw [HN.out]
   obtain ⟨A, cc, rfl, hbc, hbm, hL⟩ := HM.out.o
   obtain ⟨b, ob, rfl, hbb, d0, d1⟩ := (hL.now (Nat.le_refl _) (bT HB0.out hb1)).ow EO.out
   have HB1 := Hd (bT HB0.out hb1)
   have m7 := (HX0.out.below hb1).cell_ 7 (v := .slice (some ⟨b, ob, none⟩) m.g.os.length cc) rfl
   clear m00 m10 m20 m30 m40 m50 m60 m70 m80 hb1
   go_wp2
   go_ret2
   exact ⟨by rw [E1.out, E2.out, F1.out, F2.out]; rfl, HB1.out⟩
end Go.Proofs.YtibpnlojlfcpmaaGreatDoor
