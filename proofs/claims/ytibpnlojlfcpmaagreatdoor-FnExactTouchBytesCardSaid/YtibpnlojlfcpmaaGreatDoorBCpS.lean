/- A part of the proofs of this seat: CpS. -/
import Derived.Deep.RegionHeldLaw
import Derived.Test.YtibpnlojlfcpmaaGreatDoorBCopy
set_option linter.unusedVariables false
set_option linter.unusedSimpArgs false
set_option maxRecDepth 1000000
namespace Go.Proofs.YtibpnlojlfcpmaaGreatDoor
open Go.RowKit
theorem step_copy {α : Type} (E : Enc α) (t ty e : TypeId) (i : TypeInfo) (z : Value) (bytes : Nat) (ht : Tryz.prog.underlying t = some (.slice e)) (hi : Tryz.prog.info? e = some i) (hz : i.zero = some z)
  (hs : i.size = E.sz) (hby : i.bytes = bytes) (hzs : z.cells.size = E.sz) (hbb : bytes ≤ 1000) (base : Nat)
  {ops : Array Oper} {o : Oper} {a : Act} {W : World} {K : Act → World → Prop} {Q : Exit → Act → World → Prop} {E' : Prop} (hgd : o.guard = none) (s x : Operand)
  (ho : o.op = .call { callee := .builtin .append, args := #[s, x], argTypes := #[t, t] }) (hty : o.type = ty) (g : Nat) (A : Option Addr) (c : Nat) (l : List α) (hv : a.eval s = .slice (some ⟨g, 0, none⟩) 0 0) (hx : a.eval x = .slice A l.length c)
  (hown : Own W g e #[]) (hbg : base ≤ g) (B : Nat) (hr : Rs E B W A l) (hl : l.length ≤ 1048576) (hb : base ≤ W.heap.size)
  (h : ∀ v' w', w'.ownsRow base e E.sz v' l.length (E.cells l) → W.grownBy w' (some g) → K (a.put o.dst v') w') : if Region.wanted o (yielded ops a.tmps) = true then Oper.wp Tryz.prog o a W K Q else E' := by
 have hO : W.ownsRow base e E.sz (.slice (some ⟨g, 0, none⟩) 0 0) 0 [] := ⟨by simp, .inr ⟨g, 0, #[], rfl, hbg, hown, Nat.le_refl _, by simp [maxLen], by simp, by simp⟩⟩
 obtain ⟨v', w', hrun, hown', hg', _⟩ := run_copy E t ty e i z bytes ht hi hz hs hby hzs hbb base W _ hO B A c l hr hl hb
 subst hty
 exact step_append_run hgd s x t ho _ _ v' w' hv hx hrun (h v' w' hown' hg')
theorem ownAt {W : World} {g : Nat} {t : TypeId} {cs : Array Value} (hn : g = W.heap.size) : Own (W.alloc (.cells cs t)) g t cs := by subst hn; exact Own.new_ _ _ _
theorem l4Copy_any (vl : Value) (c : Ca) (w : World) (hT : SlR lnE w vl c.ls) (hl : c.ls.length ≤ 1048576) :
    Calls Tryz.prog 158 #[.agg #[vl, .int .i64 c.hand]] w (Post2 fun v w' => ∃ v1, v = .agg #[v1, .int .i64 c.hand] ∧ SlM lnE 129 w.heap.size w' v1 c.ls ∧ Below w.heap.size w w') := by
  obtain ⟨A, cc, rfl, hbc, hbm, hL⟩ := hT
  obtain ⟨i0, hi0, hz0, hz1, hz2⟩ := info_parts ln_info
  have hbx := (Own.new_ w 43 #[.slice A c.ls.length cc, .int .i64 c.hand]).alloc (o := .cells #[.slice none 0 0, .int .i64 0] 43)
  have hbo := ownAt (W := w.alloc (.cells #[.slice A c.ls.length cc, .int .i64 c.hand] 43)) (g := w.heap.size + 1) (t := 43) (cs := #[.slice none 0 0, .int .i64 0]) (by simp)
  have hb0 : Below w.heap.size w ((w.alloc (.cells #[.slice A c.ls.length cc, .int .i64 c.hand] 43)).alloc (.cells #[.slice none 0 0, .int .i64 0] 43)) := bA (bA bR)
  have hs0 : ((w.alloc (.cells #[.slice A c.ls.length cc, .int .i64 c.hand] 43)).alloc (.cells #[.slice none 0 0, .int .i64 0] 43)).heap.size = w.heap.size + 2 := by simp
  generalize hW : (w.alloc (.cells #[.slice A c.ls.length cc, .int .i64 c.hand] 43)).alloc (.cells #[.slice none 0 0, .int .i64 0] 43) = W0 at hbx hbo hb0 hs0
  have q0 := hbx.cell_ 0 (v := .slice A c.ls.length cc) rfl
  have q1 := hbx.cell_ 1 (v := .int .i64 c.hand) rfl
  have HX0 := Hd hbx
  have HO0 := Hd hbo
  have HB0 := Hd hb0
  have HL := Hd hL
  clear hbx hbo hb0 hL
  go_enter Tryz.func158, Tryz.ntmps158
  go_wp2
  go_region_held_law (fun w' => w'.cell? ⟨w.heap.size, 0, none⟩ = some (.slice A c.ls.length cc) ∧ w'.cell? ⟨w.heap.size, 1, none⟩ = some (.int .i64 c.hand)) (go_keep) (first
    | (refine step_copy lnE 41 41 129 i0 _ _ Tryz.underlying41 hi0 hz0 hz1 hz2 rfl (by omega) (w.heap.size + 2) rfl (.tmp 3) (.tmp 5) rfl rfl _ A cc c.ls rfl rfl (ownAt (W := W0) (by simp [hs0])) (by simp <;> omega) w.heap.size (HL.out.below (bA (bD HB0.out))) hl (by simp [hs0] <;> omega) ?_
       intro v1 w1 hown1 hg1
       have hm1 := slm_own rfl hown1
       obtain ⟨A1, c1, rfl, _⟩ := slm_own rfl hown1
       have HB1 : Hid (Below w.heap.size w w1) := bG (bA (bD HB0.out)) hg1 (fun k hk => by injection hk with hk; omega)
       have hx1 := own_other (HX0.out.drew.alloc (o := .cells #[] 129)) hg1 (by simp <;> omega)
       have ho1 := own_other (HO0.out.drew.alloc (o := .cells #[] 129)) hg1 (by simp <;> omega)
       have d0 := hx1.cell_ 0 (v := .slice A c.ls.length cc) rfl
       have d1 := hx1.cell_ 1 (v := .int .i64 c.hand) rfl
       have p0 := ho1.free 0
       have p1 := ho1.free 1
       have p2 := ho1.cell_ 0 (v := .slice none 0 0) rfl
       have p3 := ho1.cell_ 1 (v := .int .i64 0) rfl
       have HO1 := Hd ho1
       have HM1 := Hd hm1
       clear hown1 hg1 hx1 ho1 hm1))
  all_goals
    go_wp2
    have o3 := (HO1.out.set_ 0 (.slice A1 c.ls.length c1)).set_ 1 (.int .i64 c.hand)
    have t0 := o3.cell_ 0 (v := .slice A1 c.ls.length c1) rfl
    have t1 := o3.cell_ 1 (v := .int .i64 c.hand) rfl
    have hM := (HM1.out.far (p := ⟨w.heap.size + 1, 0, none⟩) (u := .slice A1 c.ls.length c1) (by show w.heap.size + 1 < w.heap.size + 2; omega)).far (p := ⟨w.heap.size + 1, 1, none⟩) (u := .int .i64 c.hand) (by show w.heap.size + 1 < w.heap.size + 2; omega)
    refine bodyPost_ret (v := .agg #[.slice A1 c.ls.length c1, .int .i64 c.hand]) (by simp [results, Tryz.results158, go_sem, t0, t1]) rfl ⟨_, rfl, _, rfl, hM.mono (by omega), bS (bS HB1.out (by simp)) (by simp)⟩
theorem l5Copy_any (vo : Value) (g : Tg) (w : World) (hT : SlR owE w vo g.os) (hl : g.os.length ≤ 1048576) :
    Calls Tryz.prog 159 #[.agg #[.int .i64 g.count, .int .i64 g.next, .int .i64 g.round, vo]] w (Post2 fun v w' => ∃ v1, v = .agg #[.int .i64 g.count, .int .i64 g.next, .int .i64 g.round, v1] ∧ SlM owE 126 w.heap.size w' v1 g.os ∧ Below w.heap.size w w') := by
  obtain ⟨A, cc, rfl, hbc, hbm, hL⟩ := hT
  obtain ⟨i0, hi0, hz0, hz1, hz2⟩ := info_parts ow_info
  have hbx := (Own.new_ w 46 #[.int .i64 g.count, .int .i64 g.next, .int .i64 g.round, .slice A g.os.length cc]).alloc (o := .cells #[.int .i64 0, .int .i64 0, .int .i64 0, .slice none 0 0] 46)
  have hbo := ownAt (W := w.alloc (.cells #[.int .i64 g.count, .int .i64 g.next, .int .i64 g.round, .slice A g.os.length cc] 46)) (g := w.heap.size + 1) (t := 46) (cs := #[.int .i64 0, .int .i64 0, .int .i64 0, .slice none 0 0]) (by simp)
  have hb0 : Below w.heap.size w ((w.alloc (.cells #[.int .i64 g.count, .int .i64 g.next, .int .i64 g.round, .slice A g.os.length cc] 46)).alloc (.cells #[.int .i64 0, .int .i64 0, .int .i64 0, .slice none 0 0] 46)) := bA (bA bR)
  have hs0 : ((w.alloc (.cells #[.int .i64 g.count, .int .i64 g.next, .int .i64 g.round, .slice A g.os.length cc] 46)).alloc (.cells #[.int .i64 0, .int .i64 0, .int .i64 0, .slice none 0 0] 46)).heap.size = w.heap.size + 2 := by simp
  generalize hW : (w.alloc (.cells #[.int .i64 g.count, .int .i64 g.next, .int .i64 g.round, .slice A g.os.length cc] 46)).alloc (.cells #[.int .i64 0, .int .i64 0, .int .i64 0, .slice none 0 0] 46) = W0 at hbx hbo hb0 hs0
  have q0 := hbx.cell_ 0 (v := .int .i64 g.count) rfl
  have q1 := hbx.cell_ 1 (v := .int .i64 g.next) rfl
  have q2 := hbx.cell_ 2 (v := .int .i64 g.round) rfl
  have q3 := hbx.cell_ 3 (v := .slice A g.os.length cc) rfl
  have HX0 := Hd hbx
  have HO0 := Hd hbo
  have HB0 := Hd hb0
  have HL := Hd hL
  clear hbx hbo hb0 hL
  go_enter Tryz.func159, Tryz.ntmps159
  go_wp2
  go_region_held_law (fun w' => w'.cell? ⟨w.heap.size, 0, none⟩ = some (.int .i64 g.count) ∧ w'.cell? ⟨w.heap.size, 1, none⟩ = some (.int .i64 g.next) ∧ w'.cell? ⟨w.heap.size, 2, none⟩ = some (.int .i64 g.round) ∧ w'.cell? ⟨w.heap.size, 3, none⟩ = some (.slice A g.os.length cc)) (go_keep) (first
    | (refine step_copy owE 44 44 126 i0 _ _ Tryz.underlying44 hi0 hz0 hz1 hz2 rfl (by omega) (w.heap.size + 2) rfl (.tmp 9) (.tmp 11) rfl rfl _ A cc g.os rfl rfl (ownAt (W := W0) (by simp [hs0])) (by simp <;> omega) w.heap.size (HL.out.below (bA (bD HB0.out))) hl (by simp [hs0] <;> omega) ?_
       intro v1 w1 hown1 hg1
       have hm1 := slm_own rfl hown1
       obtain ⟨A1, c1, rfl, _⟩ := slm_own rfl hown1
       have HB1 : Hid (Below w.heap.size w w1) := bG (bA (bD HB0.out)) hg1 (fun k hk => by injection hk with hk; omega)
       have hx1 := own_other (HX0.out.drew.alloc (o := .cells #[] 126)) hg1 (by simp <;> omega)
       have ho1 := own_other (HO0.out.drew.alloc (o := .cells #[] 126)) hg1 (by simp <;> omega)
       have d0 := hx1.cell_ 0 (v := .int .i64 g.count) rfl
       have d1 := hx1.cell_ 1 (v := .int .i64 g.next) rfl
       have d2 := hx1.cell_ 2 (v := .int .i64 g.round) rfl
       have d3 := hx1.cell_ 3 (v := .slice A g.os.length cc) rfl
       have p0 := ho1.free 0
       have p1 := ho1.free 1
       have p2 := ho1.free 2
       have p3 := ho1.free 3
       have e0 := ho1.cell_ 0 (v := .int .i64 0) rfl
       have e1 := ho1.cell_ 1 (v := .int .i64 0) rfl
       have e2 := ho1.cell_ 2 (v := .int .i64 0) rfl
       have e3 := ho1.cell_ 3 (v := .slice none 0 0) rfl
       have HO1 := Hd ho1
       have HM1 := Hd hm1
       clear hown1 hg1 hx1 ho1 hm1))
  all_goals
    go_wp2
    have o3 := (((HO1.out.set_ 0 (.int .i64 g.count)).set_ 1 (.int .i64 g.next)).set_ 2 (.int .i64 g.round)).set_ 3 (.slice A1 g.os.length c1)
    have t0 := o3.cell_ 0 (v := .int .i64 g.count) rfl
    have t1 := o3.cell_ 1 (v := .int .i64 g.next) rfl
    have t2 := o3.cell_ 2 (v := .int .i64 g.round) rfl
    have t3 := o3.cell_ 3 (v := .slice A1 g.os.length c1) rfl
    have hM := (((HM1.out.far (p := ⟨w.heap.size + 1, 0, none⟩) (u := .int .i64 g.count) (by show w.heap.size + 1 < w.heap.size + 2; omega)).far (p := ⟨w.heap.size + 1, 1, none⟩) (u := .int .i64 g.next) (by show w.heap.size + 1 < w.heap.size + 2; omega)).far (p := ⟨w.heap.size + 1, 2, none⟩) (u := .int .i64 g.round) (by show w.heap.size + 1 < w.heap.size + 2; omega)).far (p := ⟨w.heap.size + 1, 3, none⟩) (u := .slice A1 g.os.length c1) (by show w.heap.size + 1 < w.heap.size + 2; omega)
    refine bodyPost_ret (v := .agg #[.int .i64 g.count, .int .i64 g.next, .int .i64 g.round, .slice A1 g.os.length c1]) (by simp [results, Tryz.results159, go_sem, t0, t1, t2, t3]) rfl ⟨_, rfl, _, rfl, hM.mono (by omega), bS (bS (bS (bS HB1.out (by simp)) (by simp)) (by simp)) (by simp)⟩
theorem own_ne {W : World} {base : Nat} {e e2 : TypeId} {sz n g2 : Nat} {v : Value} {xs : List Value} {cs : Array Value} (h : W.ownsRow base e sz v n xs) (h2 : Own W g2 e2 cs) (hne : e ≠ e2) : v.ownBlock = none ∨ v.ownBlock ≠ some g2 := by
 rcases h.2 with ⟨rfl, _⟩ | ⟨g, cap, cur, rfl, _, hg, _⟩
 ·exact .inl rfl
 ·refine .inr fun heq => ?_
  injection heq with heq
  replace heq : g = g2 := heq
  subst heq
  unfold Own at h2
  rw [hg] at h2
  injection h2 with h2
  injection h2 with _ h2
  exact hne h2
set_option maxHeartbeats 1000000 in
theorem l3Copy_any (vb vf : Value) (t : Tab) (w : World) (hT : TaR w vb vf t) (h1 : t.bs.length ≤ 1048576) (h2 : t.fs.length ≤ 1048576) :
    Calls Tryz.prog 157 #[.agg #[vb, vf]] w (Post2 fun v w' => ∃ v1 v2, v = .agg #[v1, v2] ∧ TaM w.heap.size w' v1 v2 t ∧ Below w.heap.size w w') := by
  obtain ⟨Ab, cb, rfl, hbc, hbm, hB⟩ := hT.b
  obtain ⟨Af, cf, rfl, hfc, hfm, hF⟩ := hT.f
  obtain ⟨i0, hi0, hz0, hz1, hz2⟩ := info_parts int_info2
  obtain ⟨j0, hj0, hy0, hy1, hy2⟩ := info_parts fr_info
  have hbx := (Own.new_ w 40 #[.slice Ab t.bs.length cb, .slice Af t.fs.length cf]).alloc (o := .cells #[.slice none 0 0, .slice none 0 0] 40)
  have hbo := ownAt (W := w.alloc (.cells #[.slice Ab t.bs.length cb, .slice Af t.fs.length cf] 40)) (g := w.heap.size + 1) (t := 40) (cs := #[.slice none 0 0, .slice none 0 0]) (by simp)
  have hb0 : Below w.heap.size w ((w.alloc (.cells #[.slice Ab t.bs.length cb, .slice Af t.fs.length cf] 40)).alloc (.cells #[.slice none 0 0, .slice none 0 0] 40)) := bA (bA bR)
  have hs0 : ((w.alloc (.cells #[.slice Ab t.bs.length cb, .slice Af t.fs.length cf] 40)).alloc (.cells #[.slice none 0 0, .slice none 0 0] 40)).heap.size = w.heap.size + 2 := by simp
  generalize hW : (w.alloc (.cells #[.slice Ab t.bs.length cb, .slice Af t.fs.length cf] 40)).alloc (.cells #[.slice none 0 0, .slice none 0 0] 40) = W0 at hbx hbo hb0 hs0
  have q0 := hbx.cell_ 0 (v := .slice Ab t.bs.length cb) rfl
  have q1 := hbx.cell_ 1 (v := .slice Af t.fs.length cf) rfl
  have HX0 := Hd hbx
  have HO0 := Hd hbo
  have HB0 := Hd hb0
  have HBR := Hd hB
  have HFR := Hd hF
  clear hbx hbo hb0 hB hF hT
  go_enter Tryz.func157, Tryz.ntmps157
  go_wp2
  go_region_held_law (fun w' => w'.cell? ⟨w.heap.size, 0, none⟩ = some (.slice Ab t.bs.length cb) ∧ w'.cell? ⟨w.heap.size, 1, none⟩ = some (.slice Af t.fs.length cf)) (go_keep) (first
    | (refine step_copy intE 22 22 3 i0 _ _ Tryz.underlying22 hi0 hz0 hz1 hz2 rfl (by omega) (w.heap.size + 2) rfl (.tmp 3) (.tmp 5) rfl rfl _ Ab cb t.bs rfl rfl (ownAt (W := W0) (by simp [hs0])) (by first | omega | (simp [hs0] <;> omega)) w.heap.size (HBR.out.below (by first | exact bA (bD HB0.out) | exact bA (bA (bD HB0.out)))) h1 (by first | omega | (simp [hs0] <;> omega)) ?_
       intro v1 w1 hown1 hg1
       obtain ⟨A1, c1, rfl, _⟩ := slm_own rfl hown1
       have HB1 : Hid (Below w.heap.size w w1) := bG (by first | exact bA (bD HB0.out) | exact bA (bA (bD HB0.out))) hg1 (fun k hk => by injection hk with hk; omega)
       have hx1 := own_other (by first | exact HX0.out.drew.alloc (o := .cells #[] 3) | exact (HX0.out.drew.alloc (o := .cells #[] 3)).alloc (o := .cells #[] 66) | exact (HX0.out.drew.alloc (o := .cells #[] 66)).alloc (o := .cells #[] 3)) hg1 (by first | omega | (simp [hs0] <;> omega))
       have ho1 := own_other (by first | exact HO0.out.drew.alloc (o := .cells #[] 3) | exact (HO0.out.drew.alloc (o := .cells #[] 3)).alloc (o := .cells #[] 66) | exact (HO0.out.drew.alloc (o := .cells #[] 66)).alloc (o := .cells #[] 3)) hg1 (by first | omega | (simp [hs0] <;> omega))
       have d0 := hx1.cell_ 0 (v := .slice Ab t.bs.length cb) rfl
       have d1 := hx1.cell_ 1 (v := .slice Af t.fs.length cf) rfl
       have HX1 := Hd hx1
       have HO1 := Hd ho1
       have HW1 := Hd hown1
       have hs1 : w.heap.size + 3 ≤ w1.heap.size := Nat.le_trans (by first | omega | (simp [hs0] <;> omega)) hg1.size
       skip
       clear hown1 hg1 hx1 ho1)
    | (refine step_copy intE 22 22 3 i0 _ _ Tryz.underlying22 hi0 hz0 hz1 hz2 rfl (by omega) (w.heap.size + 2) rfl (.tmp 3) (.tmp 5) rfl rfl _ Ab cb t.bs rfl rfl (ownAt (W := W0) (by simp [hs0])).alloc (by first | omega | (simp [hs0] <;> omega)) w.heap.size (HBR.out.below (by first | exact bA (bD HB0.out) | exact bA (bA (bD HB0.out)))) h1 (by first | omega | (simp [hs0] <;> omega)) ?_
       intro v1 w1 hown1 hg1
       obtain ⟨A1, c1, rfl, _⟩ := slm_own rfl hown1
       have HB1 : Hid (Below w.heap.size w w1) := bG (by first | exact bA (bD HB0.out) | exact bA (bA (bD HB0.out))) hg1 (fun k hk => by injection hk with hk; omega)
       have hx1 := own_other (by first | exact HX0.out.drew.alloc (o := .cells #[] 3) | exact (HX0.out.drew.alloc (o := .cells #[] 3)).alloc (o := .cells #[] 66) | exact (HX0.out.drew.alloc (o := .cells #[] 66)).alloc (o := .cells #[] 3)) hg1 (by first | omega | (simp [hs0] <;> omega))
       have ho1 := own_other (by first | exact HO0.out.drew.alloc (o := .cells #[] 3) | exact (HO0.out.drew.alloc (o := .cells #[] 3)).alloc (o := .cells #[] 66) | exact (HO0.out.drew.alloc (o := .cells #[] 66)).alloc (o := .cells #[] 3)) hg1 (by first | omega | (simp [hs0] <;> omega))
       have d0 := hx1.cell_ 0 (v := .slice Ab t.bs.length cb) rfl
       have d1 := hx1.cell_ 1 (v := .slice Af t.fs.length cf) rfl
       have HX1 := Hd hx1
       have HO1 := Hd ho1
       have HW1 := Hd hown1
       have hs1 : w.heap.size + 3 ≤ w1.heap.size := Nat.le_trans (by first | omega | (simp [hs0] <;> omega)) hg1.size
       have HF1 := Hd (own_other (ownAt (W := W0.drew.alloc (.cells #[] 3)) (g := w.heap.size + 3) (t := 66) (cs := #[]) (by simp [hs0])) hg1 (by first | omega | (simp [hs0] <;> omega)))
       clear hown1 hg1 hx1 ho1)
    | (refine step_copy intE 22 22 3 i0 _ _ Tryz.underlying22 hi0 hz0 hz1 hz2 rfl (by omega) (w.heap.size + 2) rfl (.tmp 3) (.tmp 5) rfl rfl _ Ab cb t.bs rfl rfl (ownAt (W := W0.alloc (.cells #[] 66)) (by simp [hs0])) (by first | omega | (simp [hs0] <;> omega)) w.heap.size (HBR.out.below (by first | exact bA (bD HB0.out) | exact bA (bA (bD HB0.out)))) h1 (by first | omega | (simp [hs0] <;> omega)) ?_
       intro v1 w1 hown1 hg1
       obtain ⟨A1, c1, rfl, _⟩ := slm_own rfl hown1
       have HB1 : Hid (Below w.heap.size w w1) := bG (by first | exact bA (bD HB0.out) | exact bA (bA (bD HB0.out))) hg1 (fun k hk => by injection hk with hk; omega)
       have hx1 := own_other (by first | exact HX0.out.drew.alloc (o := .cells #[] 3) | exact (HX0.out.drew.alloc (o := .cells #[] 3)).alloc (o := .cells #[] 66) | exact (HX0.out.drew.alloc (o := .cells #[] 66)).alloc (o := .cells #[] 3)) hg1 (by first | omega | (simp [hs0] <;> omega))
       have ho1 := own_other (by first | exact HO0.out.drew.alloc (o := .cells #[] 3) | exact (HO0.out.drew.alloc (o := .cells #[] 3)).alloc (o := .cells #[] 66) | exact (HO0.out.drew.alloc (o := .cells #[] 66)).alloc (o := .cells #[] 3)) hg1 (by first | omega | (simp [hs0] <;> omega))
       have d0 := hx1.cell_ 0 (v := .slice Ab t.bs.length cb) rfl
       have d1 := hx1.cell_ 1 (v := .slice Af t.fs.length cf) rfl
       have HX1 := Hd hx1
       have HO1 := Hd ho1
       have HW1 := Hd hown1
       have hs1 : w.heap.size + 3 ≤ w1.heap.size := Nat.le_trans (by first | omega | (simp [hs0] <;> omega)) hg1.size
       have HF1 := Hd (own_other (ownAt (W := W0.drew) (g := w.heap.size + 2) (t := 66) (cs := #[]) (by simp [hs0])).alloc hg1 (by first | omega | (simp [hs0] <;> omega)))
       clear hown1 hg1 hx1 ho1)
    | (refine step_copy frE 38 38 66 j0 _ _ Tryz.underlying38 hj0 hy0 hy1 hy2 rfl (by omega) (w.heap.size + 2) rfl (.tmp 7) (.tmp 9) rfl rfl _ Af cf t.fs rfl rfl (by first | exact HF1.out | exact Own.new_ _ _ _) (by first | omega | (simp [hs0] <;> omega)) w.heap.size (HFR.out.below (by first | exact HB1.out | exact bA HB1.out)) h2 (by first | omega | (simp [hs0] <;> omega)) ?_
       intro v2 w2 hown2 hg2
       have hm2 := slm_own rfl hown2
       obtain ⟨A2, c2, rfl, _⟩ := slm_own rfl hown2
       have hk1 : w2.ownsRow (w.heap.size + 2) 3 intE.sz (.slice A1 t.bs.length c1) t.bs.length (intE.cells t.bs) := by
         first
           | exact HW1.out.kept hg2 (own_ne (e2 := 66) HW1.out HF1.out (by decide))
           | exact (HW1.out.alloc (.cells #[] 66)).kept hg2 (own_ne (e2 := 66) (HW1.out.alloc (.cells #[] 66)) (Own.new_ w1 66 #[]) (by decide))
       have HM1 := Hd (slm_own rfl hk1)
       have HM2 := Hd hm2
       have HB2 : Hid (Below w.heap.size w w2) := bG (by first | exact HB1.out | exact bA HB1.out) hg2 (fun k hk => by injection hk with hk; omega)
       have hx2 := own_other (by first | exact HX1.out | exact HX1.out.alloc (o := .cells #[] 66)) hg2 (by first | omega | (simp [hs0] <;> omega))
       have ho2 := own_other (by first | exact HO1.out | exact HO1.out.alloc (o := .cells #[] 66)) hg2 (by first | omega | (simp [hs0] <;> omega))
       have f0 := hx2.cell_ 0 (v := .slice Ab t.bs.length cb) rfl
       have f1 := hx2.cell_ 1 (v := .slice Af t.fs.length cf) rfl
       have p0 := ho2.free 0
       have p1 := ho2.free 1
       have p2 := ho2.cell_ 0 (v := .slice none 0 0) rfl
       have p3 := ho2.cell_ 1 (v := .slice none 0 0) rfl
       have HO2 := Hd ho2
       clear hown2 hg2 hx2 ho2 hm2 hk1))
  all_goals
    go_wp2
    have o3 := (HO2.out.set_ 0 (.slice A1 t.bs.length c1)).set_ 1 (.slice A2 t.fs.length c2)
    have t0 := o3.cell_ 0 (v := .slice A1 t.bs.length c1) rfl
    have t1 := o3.cell_ 1 (v := .slice A2 t.fs.length c2) rfl
    have hT2 : TaM (w.heap.size + 2) w2 (.slice A1 t.bs.length c1) (.slice A2 t.fs.length c2) t := ⟨HM1.out, HM2.out⟩
    have hM := (hT2.far (p := ⟨w.heap.size + 1, 0, none⟩) (u := .slice A1 t.bs.length c1) (by show w.heap.size + 1 < w.heap.size + 2; omega)).far (p := ⟨w.heap.size + 1, 1, none⟩) (u := .slice A2 t.fs.length c2) (by show w.heap.size + 1 < w.heap.size + 2; omega)
    refine bodyPost_ret (v := .agg #[.slice A1 t.bs.length c1, .slice A2 t.fs.length c2]) (by simp [results, Tryz.results157, go_sem, t0, t1]) rfl ⟨_, rfl, _, _, rfl, hM.mono (by omega), bS (bS HB2.out (by simp)) (by simp)⟩
end Go.Proofs.YtibpnlojlfcpmaaGreatDoor
