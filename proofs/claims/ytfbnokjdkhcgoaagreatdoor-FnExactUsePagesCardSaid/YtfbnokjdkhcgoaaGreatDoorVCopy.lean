/- A part of the proofs of this seat: Clone, Copy, Link, Write. -/
import Derived.Laws.Cover3
import Derived.Test.YtfbnokjdkhcgoaaGreatDoorVFind
set_option linter.unusedVariables false
set_option linter.unusedSimpArgs false
set_option maxRecDepth 1000000
namespace Go.Proofs.YtfbnokjdkhcgoaaGreatDoor
open Go.RowKit
theorem eql_snil {t e : TypeId} (h : Tryz.prog.underlying t = some (.slice e)) (a : Option Addr) (n c : Nat) (w : World) : (binOp .eql t (.slice a n c) (.slice none 0 0)).run Tryz.prog w = .ok (.bool a.isNone) w := by
 simp only [binOp]
 simp [run_equal_slice_nil w t e a n c h]
theorem fr_info : (Tryz.prog.info? 80).map (fun i => (i.zero, i.size, i.bytes)) = some (some (.agg #[.bool false, .int .i64 0, .int .i64 0, .int .i64 0, .int .i64 0]), 5, 40) := by kernel_rfl
theorem ln_info : (Tryz.prog.info? 50).map (fun i => (i.zero, i.size, i.bytes)) = some (some (.agg #[.bool false, .int .i64 0, .int .i64 0, .int .i64 0, .int .i64 0, .bool false]), 6, 48) := by kernel_rfl
theorem ow_info : (Tryz.prog.info? 186).map (fun i => (i.zero, i.size, i.bytes)) = some (some (.agg #[.int .i64 0, .int .i64 0]), 2, 16) := by kernel_rfl
theorem run_copy {α : Type} (E : Enc α) (t ty e : TypeId) (i : TypeInfo) (z : Value) (bytes : Nat) (ht : Tryz.prog.underlying t = some (.slice e)) (hi : Tryz.prog.info? e = some i) (hz : i.zero = some z)
  (hs : i.size = E.sz) (hby : i.bytes = bytes) (hzs : z.cells.size = E.sz) (hbb : bytes ≤ 1000)
  (base : Nat) (W : World) (v : Value) (hown : W.ownsRow base e E.sz v 0 []) (B : Nat) (A : Option Addr) (c : Nat) (l : List α) (hr : Rs E B W A l) (hl : l.length ≤ 1048576) (hb : base ≤ W.heap.size) :
  ∃ v' w', (Builtin.append_ #[t, t] ty #[v, .slice A l.length c]).run Tryz.prog W = .ok v' w' ∧ w'.ownsRow base e E.sz v' l.length (E.cells l) ∧ W.grownBy w' v.ownBlock ∧ (v'.ownBlock = v.ownBlock ∨ v'.ownBlock = some W.heap.size) := by
 have hm : 0 + l.length ≤ maxLen := by simp only [maxLen]; omega
 have hbytes : (0 + l.length) * bytes ≤ 140737488355328 := Nat.le_trans (Nat.mul_le_mul (show 0 + l.length ≤ 1048576 by omega) hbb) (by omega)
 obtain ⟨v', w', h1, h2, h3, h4⟩ := run_append_rd (P := Tryz.prog) W base t ty e i z E.sz bytes ht hi hz hs hby hzs E.pos v 0 [] hown B A l.length c (E.cells l) hr (E.cells_one l) hm hbytes hb
 exact ⟨v', w', h1, by simpa using h2, h3, h4⟩
theorem owns_lit {base : Nat} {e : TypeId} (W : World) (sz : Nat) (hb : base ≤ W.heap.size) : (W.alloc (.cells #[] e)).ownsRow base e sz (.slice (some ⟨W.heap.size, 0, none⟩) 0 0) 0 [] := by
 have h := World.ownsRow_made (base := W.heap.size) (e := e) (size := sz) W #[] 0 (by simp) (by simp [maxLen]) (by simp)
 exact own_mono h hb
theorem cloneFrame_any (v : Value) (l : List _) (w : World) (h : SlR frE w v l) (hl : l.length ≤ 1048576) :
  Calls Tryz.prog 207 #[v] w (Post2 fun v' w' => SlM frE 80 w.heap.size w' v' l ∧ Below w.heap.size w w') := by
 obtain ⟨A, c, rfl, hlc, hcm, hR⟩ := h
 obtain ⟨i0, hi0, hz0, hz1, hz2⟩ := info_parts fr_info
 have hnil := eql_snil Tryz.underlying24
 cases A with
 | none =>
  have h0 : l = [] := by
   rcases Nat.eq_zero_or_pos l.length with h | h
   ·exact List.length_eq_zero_iff.1 h
   ·obtain ⟨b, o, e, _⟩ := hR.at_ h
    cases e
  subst h0
  go_enter Tryz.func207, Tryz.ntmps207
  go_wp2
  go_ret
  exact ⟨_, rfl, SlM.nil_ _, bR⟩
 | some ad =>
  have hO := owns_lit (base := w.heap.size) (e := 80) w frE.sz (Nat.le_refl _)
  have hR2 := hR.alloc (.cells #[] 80)
  obtain ⟨v', w', hrun, hown, hg, _⟩ := run_copy frE 24 24 80 i0 _ _ Tryz.underlying24 hi0 hz0 hz1 hz2 rfl (by omega) w.heap.size _ _ hO _ _ c l hR2 hl (by simp)
  have HM := Hd (slm_own rfl hown)
  have HB : Hid (Below w.heap.size w w') := bG (bA bR) hg (fun k hk => own_block hO k hk)
  clear hO hR2 hown hg
  go_enter Tryz.func207, Tryz.ntmps207
  go_wp2_with (at_builtin; refine wpList_append_run _ rfl (.tmp 5) (.tmp 6) 24 rfl _ _ _ _ rfl rfl hrun ?_)
  go_ret
  exact ⟨_, rfl, HM.out, HB.out⟩
theorem clipFrame_any (A : Option Addr) (n c : Nat) (w : World) (hn : n ≤ c) : Calls Tryz.prog 206 #[.slice A n c] w fun r w' => r = .returned (.slice A n n) ∧ w = w' := by
 obtain ⟨i0, hi0, _⟩ := info_parts fr_info
 have hs := fun W => slice_max (P := Tryz.prog) W 24 80 i0 A n c Tryz.underlying24 hi0 hn
 go_enter Tryz.func206, Tryz.ntmps206
 go_wp2
 go_ret
 exact ⟨rfl, rfl⟩
theorem clipFrame_p (A : Option Addr) (n c : Nat) (w : World) (hn : n ≤ c) : Calls Tryz.prog 206 #[.slice A n c] w (Post2 fun v w' => v = .slice A n n ∧ w = w') := (clipFrame_any A n c w hn).mono fun _ _ h => ⟨_, h.1, rfl, h.2⟩
theorem cloneint_any (v : Value) (l : List _) (w : World) (h : SlR intE w v l) (hl : l.length ≤ 1048576) :
  Calls Tryz.prog 205 #[v] w (Post2 fun v' w' => SlM intE 3 w.heap.size w' v' l ∧ Below w.heap.size w w') := by
 obtain ⟨A, c, rfl, hlc, hcm, hR⟩ := h
 obtain ⟨i0, hi0, hz0, hz1, hz2⟩ := info_parts int_info2
 have hnil := eql_snil Tryz.underlying23
 cases A with
 | none =>
  have h0 : l = [] := by
   rcases Nat.eq_zero_or_pos l.length with h | h
   ·exact List.length_eq_zero_iff.1 h
   ·obtain ⟨b, o, e, _⟩ := hR.at_ h
    cases e
  subst h0
  go_enter Tryz.func205, Tryz.ntmps205
  go_wp2
  go_ret
  exact ⟨_, rfl, SlM.nil_ _, bR⟩
 | some ad =>
  have hO := owns_lit (base := w.heap.size) (e := 3) w intE.sz (Nat.le_refl _)
  have hR2 := hR.alloc (.cells #[] 3)
  obtain ⟨v', w', hrun, hown, hg, _⟩ := run_copy intE 23 23 3 i0 _ _ Tryz.underlying23 hi0 hz0 hz1 hz2 rfl (by omega) w.heap.size _ _ hO _ _ c l hR2 hl (by simp)
  have HM := Hd (slm_own rfl hown)
  have HB : Hid (Below w.heap.size w w') := bG (bA bR) hg (fun k hk => own_block hO k hk)
  clear hO hR2 hown hg
  go_enter Tryz.func205, Tryz.ntmps205
  go_wp2_with (at_builtin; refine wpList_append_run _ rfl (.tmp 5) (.tmp 6) 23 rfl _ _ _ _ rfl rfl hrun ?_)
  go_ret
  exact ⟨_, rfl, HM.out, HB.out⟩
theorem clipint_any (A : Option Addr) (n c : Nat) (w : World) (hn : n ≤ c) : Calls Tryz.prog 105 #[.slice A n c] w fun r w' => r = .returned (.slice A n n) ∧ w = w' := by
 obtain ⟨i0, hi0, _⟩ := info_parts int_info2
 have hs := fun W => slice_max (P := Tryz.prog) W 23 3 i0 A n c Tryz.underlying23 hi0 hn
 go_enter Tryz.func105, Tryz.ntmps105
 go_wp2
 go_ret
 exact ⟨rfl, rfl⟩
theorem clipint_p (A : Option Addr) (n c : Nat) (w : World) (hn : n ≤ c) : Calls Tryz.prog 105 #[.slice A n c] w (Post2 fun v w' => v = .slice A n n ∧ w = w') := (clipint_any A n c w hn).mono fun _ _ h => ⟨_, h.1, rfl, h.2⟩
theorem cloneLine_any (v : Value) (l : List _) (w : World) (h : SlR lnE w v l) (hl : l.length ≤ 1048576) :
  Calls Tryz.prog 147 #[v] w (Post2 fun v' w' => SlM lnE 50 w.heap.size w' v' l ∧ Below w.heap.size w w') := by
 obtain ⟨A, c, rfl, hlc, hcm, hR⟩ := h
 obtain ⟨i0, hi0, hz0, hz1, hz2⟩ := info_parts ln_info
 have hnil := eql_snil Tryz.underlying27
 cases A with
 | none =>
  have h0 : l = [] := by
   rcases Nat.eq_zero_or_pos l.length with h | h
   ·exact List.length_eq_zero_iff.1 h
   ·obtain ⟨b, o, e, _⟩ := hR.at_ h
    cases e
  subst h0
  go_enter Tryz.func147, Tryz.ntmps147
  go_wp2
  go_ret
  exact ⟨_, rfl, SlM.nil_ _, bR⟩
 | some ad =>
  have hO := owns_lit (base := w.heap.size) (e := 50) w lnE.sz (Nat.le_refl _)
  have hR2 := hR.alloc (.cells #[] 50)
  obtain ⟨v', w', hrun, hown, hg, _⟩ := run_copy lnE 27 27 50 i0 _ _ Tryz.underlying27 hi0 hz0 hz1 hz2 rfl (by omega) w.heap.size _ _ hO _ _ c l hR2 hl (by simp)
  have HM := Hd (slm_own rfl hown)
  have HB : Hid (Below w.heap.size w w') := bG (bA bR) hg (fun k hk => own_block hO k hk)
  clear hO hR2 hown hg
  go_enter Tryz.func147, Tryz.ntmps147
  go_wp2_with (at_builtin; refine wpList_append_run _ rfl (.tmp 5) (.tmp 6) 27 rfl _ _ _ _ rfl rfl hrun ?_)
  go_ret
  exact ⟨_, rfl, HM.out, HB.out⟩
theorem clipLine_any (A : Option Addr) (n c : Nat) (w : World) (hn : n ≤ c) : Calls Tryz.prog 146 #[.slice A n c] w fun r w' => r = .returned (.slice A n n) ∧ w = w' := by
 obtain ⟨i0, hi0, _⟩ := info_parts ln_info
 have hs := fun W => slice_max (P := Tryz.prog) W 27 50 i0 A n c Tryz.underlying27 hi0 hn
 go_enter Tryz.func146, Tryz.ntmps146
 go_wp2
 go_ret
 exact ⟨rfl, rfl⟩
theorem cloneOwn_any (v : Value) (l : List _) (w : World) (h : SlR owE w v l) (hl : l.length ≤ 1048576) :
  Calls Tryz.prog 149 #[v] w (Post2 fun v' w' => SlM owE 186 w.heap.size w' v' l ∧ Below w.heap.size w w') := by
 obtain ⟨A, c, rfl, hlc, hcm, hR⟩ := h
 obtain ⟨i0, hi0, hz0, hz1, hz2⟩ := info_parts ow_info
 have hnil := eql_snil Tryz.underlying30
 cases A with
 | none =>
  have h0 : l = [] := by
   rcases Nat.eq_zero_or_pos l.length with h | h
   ·exact List.length_eq_zero_iff.1 h
   ·obtain ⟨b, o, e, _⟩ := hR.at_ h
    cases e
  subst h0
  go_enter Tryz.func149, Tryz.ntmps149
  go_wp2
  go_ret
  exact ⟨_, rfl, SlM.nil_ _, bR⟩
 | some ad =>
  have hO := owns_lit (base := w.heap.size) (e := 186) w owE.sz (Nat.le_refl _)
  have hR2 := hR.alloc (.cells #[] 186)
  obtain ⟨v', w', hrun, hown, hg, _⟩ := run_copy owE 30 30 186 i0 _ _ Tryz.underlying30 hi0 hz0 hz1 hz2 rfl (by omega) w.heap.size _ _ hO _ _ c l hR2 hl (by simp)
  have HM := Hd (slm_own rfl hown)
  have HB : Hid (Below w.heap.size w w') := bG (bA bR) hg (fun k hk => own_block hO k hk)
  clear hO hR2 hown hg
  go_enter Tryz.func149, Tryz.ntmps149
  go_wp2_with (at_builtin; refine wpList_append_run _ rfl (.tmp 5) (.tmp 6) 30 rfl _ _ _ _ rfl rfl hrun ?_)
  go_ret
  exact ⟨_, rfl, HM.out, HB.out⟩
theorem clipOwn_any (A : Option Addr) (n c : Nat) (w : World) (hn : n ≤ c) : Calls Tryz.prog 148 #[.slice A n c] w fun r w' => r = .returned (.slice A n n) ∧ w = w' := by
 obtain ⟨i0, hi0, _⟩ := info_parts ow_info
 have hs := fun W => slice_max (P := Tryz.prog) W 30 186 i0 A n c Tryz.underlying30 hi0 hn
 go_enter Tryz.func148, Tryz.ntmps148
 go_wp2
 go_ret
 exact ⟨rfl, rfl⟩
theorem MineE.far {α : Type} {E : Enc α} {e : TypeId} {B : Nat} {w : World} {A : Option Addr} {l : List α} (h : MineE E e B w A l) {p : Addr} (hp : p.block < B) {u : Value} : MineE E e B (w.setCell p u) A l := by
 have hsz : (w.setCell p u).heap.size = w.heap.size := by simp
 refine ⟨⟨h.is.len, fun hn => ?_⟩, fun hl => ?_⟩
 ·obtain ⟨g, cs, e1, hB, ho, hs⟩ := h.own hn
  obtain ⟨b, o, e2, hb, hc⟩ := h.is.at_ hn
  refine ⟨b, o, e2, by rw [hsz]; exact hb, fun j v hv => ?_⟩
  rw [e1] at e2
  injection e2 with e2
  injection e2 with e3 e4
  have hne : b ≠ p.block := by omega
  rw [← hc j v hv]
  simp only [World.cell?, Below.heap_setCell w p u b hne]
 ·obtain ⟨g, cs, e1, hB, ho, hs⟩ := h.own hl
  exact ⟨g, cs, e1, hB, ho.far (by omega), hs⟩
theorem MineE.mono {α : Type} {E : Enc α} {e : TypeId} {B B' : Nat} {w : World} {A : Option Addr} {l : List α} (h : MineE E e B w A l) (hb : B' ≤ B) : MineE E e B' w A l :=
 ⟨h.is, fun hl => let ⟨g, cs, e1, e2, e3⟩ := h.own hl; ⟨g, cs, e1, Nat.le_trans hb e2, e3⟩⟩
theorem slm_of {α : Type} {E : Enc α} {e : TypeId} {B : Nat} {w : World} {A : Option Addr} {l : List α} {n c : Nat} (hn : n = l.length) (hc : l.length ≤ c) (hm : c ≤ maxLen) (h : MineE E e B w A l) : SlM E e B w (.slice A n c) l := by
 subst hn
 exact ⟨A, c, rfl, hc, hm, h⟩
set_option maxHeartbeats 2000000 in
theorem tclone_any (vb vf : Value) (t : Tab) (w : World) (hT : TaR w vb vf t) (h1 : t.bs.length ≤ 1048576) (h2 : t.fs.length ≤ 1048576) :
    Calls Tryz.prog 145 #[.agg #[vb, vf]] w fun r w' => ∃ v1 v2, r = .returned (.agg #[v1, v2]) ∧ TaM w.heap.size w' v1 v2 t ∧ Below w.heap.size w w' := by
  have hbx := (Own.new_ w 26 #[vb, vf]).alloc (o := .cells #[.slice none 0 0, .slice none 0 0] 26)
  have hbo := Own.new_ (w.alloc (.cells #[vb, vf] 26)) 26 #[.slice none 0 0, .slice none 0 0]
  have hb0 : Below w.heap.size w ((w.alloc (.cells #[vb, vf] 26)).alloc (.cells #[.slice none 0 0, .slice none 0 0] 26)) := bA (bA bR)
  have hs0 : ((w.alloc (.cells #[vb, vf] 26)).alloc (.cells #[.slice none 0 0, .slice none 0 0] 26)).heap.size = w.heap.size + 2 := by simp
  rw [show (w.alloc (.cells #[vb, vf] 26)).heap.size = w.heap.size + 1 by simp] at hbo
  generalize hW : (w.alloc (.cells #[vb, vf] 26)).alloc (.cells #[.slice none 0 0, .slice none 0 0] 26) = W0 at hbx hbo hb0 hs0
  obtain ⟨Ab, cb, rfl, hbc, hbm, hB⟩ := hT.b
  obtain ⟨Af, cf, rfl, hfc, hfm, hF⟩ := hT.f
  have q0 := hbx.cell_ 0 (v := .slice Ab t.bs.length cb) rfl
  have q1 := hbx.cell_ 1 (v := .slice Af t.fs.length cf) rfl
  have HX0 := Hd hbx
  have HO0 := Hd hbo
  have HB0 := Hd hb0
  have HT := Hd hT
  have f0 := hbo.free 0
  have f1 := hbo.free 1
  have z0 := hbo.cell_ 0 (v := .slice none 0 0) rfl
  have z1 := hbo.cell_ 1 (v := .slice none 0 0) rfl
  obtain ⟨i0, hi0, _⟩ := info_parts int_info2
  obtain ⟨j0, hj0, _⟩ := info_parts fr_info
  clear hbx hbo hb0 hT hB hF
  go_enter Tryz.func145, Tryz.ntmps145
  go_wp2
  go_region_law (first
    | (refine step_call rfl ?_ (cloneint_any _ t.bs _ (HT.out.b.now (bD HB0.out)) h1) ?_
       go_simp
       rintro vI wI ⟨hMI, hbn⟩
       obtain ⟨AI, cI, rfl, hcI, hcmI, hmI⟩ := hMI
       have HBI : Hid (Below w.heap.size w wI) := bT (bD HB0.out) hbn
       have hxI := HX0.out.drew.below hbn
       have x0 := hxI.cell_ 0 (v := .slice Ab t.bs.length cb) rfl
       have x1 := hxI.cell_ 1 (v := .slice Af t.fs.length cf) rfl
       have hoI := HO0.out.drew.below hbn
       have HOI := Hd hoI
       have HMI := Hd hmI
       have HNI := Hd hbn
       clear hxI hmI hbn hoI)
    | (refine step_call rfl ?_ (clipint_p AI t.bs.length cI _ hcI) ?_
       go_simp
       rintro _ _ ⟨rfl, rfl⟩)
    | (refine step_call rfl ?_ (cloneFrame_any _ t.fs _ (HT.out.f.now HBI.out) h2) ?_
       go_simp
       rintro vF wF ⟨hMF, hbn⟩
       obtain ⟨AF, cF, rfl, hcF, hcmF, hmF⟩ := hMF
       have HBF : Hid (Below w.heap.size w wF) := bT HBI.out hbn
       have hoF := HOI.out.below hbn
       have p0 := hoF.free 0
       have p1 := hoF.free 1
       have p2 := hoF.cell_ 0 (v := .slice none 0 0) rfl
       have p3 := hoF.cell_ 1 (v := .slice none 0 0) rfl
       have HOF := Hd hoF
       have HMF := Hd hmF
       have HNF := Hd hbn
       clear hmF hbn hoF)
    | (refine step_call rfl ?_ (clipFrame_p AF t.fs.length cF _ hcF) ?_
       go_simp
       rintro _ _ ⟨rfl, rfl⟩))
  all_goals
    go_wp2
    have hM1 := ((HMI.out.below HNF.out).far (p := ⟨w.heap.size + 1, 0, none⟩) (u := .slice AI t.bs.length t.bs.length) (by show w.heap.size + 1 < W0.heap.size; omega)).far (p := ⟨w.heap.size + 1, 1, none⟩) (u := .slice AF t.fs.length t.fs.length) (by show w.heap.size + 1 < W0.heap.size; omega)
    have hsI := HBI.out.size
    have hsW := HNI.out.size
    have hsW2 : W0.drew.heap.size = W0.heap.size := rfl
    have hM2 := (HMF.out.far (p := ⟨w.heap.size + 1, 0, none⟩) (u := .slice AI t.bs.length t.bs.length) (by show w.heap.size + 1 < wI.heap.size; omega)).far (p := ⟨w.heap.size + 1, 1, none⟩) (u := .slice AF t.fs.length t.fs.length) (by show w.heap.size + 1 < wI.heap.size; omega)
    have o3 := (HOF.out.set_ 0 (.slice AI t.bs.length t.bs.length)).set_ 1 (.slice AF t.fs.length t.fs.length)
    have t0 := o3.cell_ 0 (v := .slice AI t.bs.length t.bs.length) rfl
    have t1 := o3.cell_ 1 (v := .slice AF t.fs.length t.fs.length) rfl
    have hl1 : t.bs.length ≤ maxLen := by omega
    have hl2 : t.fs.length ≤ maxLen := by omega
    refine bodyPost_ret (v := .agg #[.slice AI t.bs.length t.bs.length, .slice AF t.fs.length t.fs.length]) (by simp [results, Tryz.results145, go_sem, t0, t1]) rfl ⟨_, _, rfl, ⟨slm_of rfl (Nat.le_refl _) hl1 (hM1.mono (by omega)), slm_of rfl (Nat.le_refl _) hl2 (hM2.mono (by omega))⟩, bS (bS HBF.out (by simp)) (by simp)⟩
theorem Enc.cells_split {α : Type} (E : Enc α) : ∀ {l : List α} {i : Nat} {u : Value}, (E.cells l)[i]? = some u → ∃ q r a, i = q * E.sz + r ∧ r < E.sz ∧ l[q]? = some a ∧ (E.cs a)[r]? = some u := by
 intro l
 induction l with
 | nil => intro i u h; simp [Enc.cells] at h
 | cons x l ih =>
  intro i u h
  rw [E.cells_cons] at h
  by_cases hi : i < E.sz
  ·rw [List.getElem?_append_left (by rw [E.len]; exact hi)] at h
   exact ⟨0, i, x, by omega, hi, rfl, h⟩
  ·rw [List.getElem?_append_right (by rw [E.len]; omega), E.len] at h
   obtain ⟨q, r, a, h1, h2, h3, h4⟩ := ih h
   exact ⟨q + 1, r, a, by rw [Nat.add_mul]; omega, h2, by simpa using h3, h4⟩
theorem MineE.write {α : Type} {E : Enc α} {e : TypeId} {B : Nat} {w w' : World} {g : Nat} {l : List α} (h : MineE E e B w (some ⟨g, 0, none⟩) l) {cs cs' : Array Value} (ho : Own w g e cs) (ho' : Own w' g e cs')
  (hsz : cs'.size = cs.size) {k : Nat} (hk : k < l.length) (a : α) (hin : ∀ j u, (E.cs a)[j]? = some u → cs'[k * E.sz + j]? = some u) (hout : ∀ i, ¬ (k * E.sz ≤ i ∧ i < k * E.sz + E.sz) → cs'[i]? = cs[i]?) : MineE E e B w' (some ⟨g, 0, none⟩) (l.set k a) := by
 obtain ⟨g2, cs2, e1, hB, ho2, hs2⟩ := h.own (by omega)
 injection e1 with e1
 injection e1 with e1
 subst e1
 have hcs : cs2 = cs := by
  unfold Own at ho ho2
  rw [ho] at ho2
  injection ho2 with ho2
  injection ho2 with ho2
  exact ho2.symm
 subst hcs
 obtain ⟨b, o, e2, hb, hc⟩ := h.is.at_ (by omega)
 injection e2 with e2
 injection e2 with e3 e4
 subst e3 e4
 refine ⟨⟨by rw [E.cells_length], fun _ => ⟨g, 0, rfl, ho'.lt, fun i u hu => ?_⟩⟩, fun _ => ⟨g, cs', rfl, hB, ho', by rw [List.length_set, hsz]; exact hs2⟩⟩
 rw [Nat.zero_add, ho'.cell i]
 obtain ⟨q, r, x, rfl, hr, hq, hx⟩ := E.cells_split hu
 rw [List.getElem?_set] at hq
 by_cases hqk : k = q
 ·subst hqk
  rw [if_pos rfl, if_pos hk] at hq
  injection hq with hq
  subst hq
  exact hin r u hx
 ·rw [if_neg hqk] at hq
  have h1 := hc _ u (E.cells_get hq hx)
  rw [Nat.zero_add, ho.cell] at h1
  rw [hout, h1]
  rintro ⟨h2, h3⟩
  rcases Nat.lt_or_gt_of_ne hqk with h4 | h4
  ·have := Nat.mul_le_mul_right E.sz (show k + 1 ≤ q from h4)
   rw [Nat.add_mul] at this
   omega
  ·have := Nat.mul_le_mul_right E.sz (show q + 1 ≤ k from h4)
   rw [Nat.add_mul] at this
   omega
theorem MineE.wint {e : TypeId} {B : Nat} {w : World} {g : Nat} {l : List Int} (h : MineE intE e B w (some ⟨g, 0, none⟩) l) {k : Nat} (hk : k < l.length) (x : Int) :
  MineE intE e B (w.setCell ⟨g, k, none⟩ (.int .i64 x)) (some ⟨g, 0, none⟩) (l.set k x) := by
 obtain ⟨g2, cs, e1, hB, ho, hs⟩ := h.own (by omega)
 injection e1 with e1
 injection e1 with e1
 subst e1
 have hs2 : l.length ≤ cs.size := by simpa [intE] using hs
 refine h.write ho (ho.set_ k (.int .i64 x)) (by simp) hk x (fun j u hj => ?_) (fun i hi => ?_)
 ·match j, hj with
  | 0, hj =>
   simp [intE] at hj
   subst hj
   simp [intE, Array.getElem?_setIfInBounds]
   omega
  | j + 1, hj => simp [intE] at hj
 ·simp only [intE] at hi
  rw [Array.getElem?_setIfInBounds, if_neg (by omega)]
theorem MineE.wfr {e : TypeId} {B : Nat} {w : World} {g : Nat} {l : List Fr} (h : MineE frE e B w (some ⟨g, 0, none⟩) l) {k : Nat} (hk : k < l.length) (x : Fr) :
  MineE frE e B (((((w.setCell ⟨g, k * 5, none⟩ (.bool x.used)).setCell ⟨g, k * 5 + 1, none⟩ (.int .i64 x.s)).setCell ⟨g, k * 5 + 2, none⟩ (.int .i64 x.p)).setCell ⟨g, k * 5 + 3, none⟩ (.int .i64 x.r)).setCell ⟨g, k * 5 + 4, none⟩ (.int .i64 x.n)) (some ⟨g, 0, none⟩) (l.set k x) := by
 obtain ⟨g2, cs, e1, hB, ho, hs⟩ := h.own (by omega)
 injection e1 with e1
 injection e1 with e1
 subst e1
 have hs2 : l.length * 5 ≤ cs.size := by simpa [frE] using hs
 refine h.write ho (((((ho.set_ (k * 5) _).set_ (k * 5 + 1) _).set_ (k * 5 + 2) _).set_ (k * 5 + 3) _).set_ (k * 5 + 4) _) (by simp) hk x (fun j u hj => ?_) (fun i hi => ?_)
 ·simp only [frE] at hj ⊢
  match j, hj with
  | 0, hj => simp at hj; subst hj; simp [Array.getElem?_setIfInBounds]; omega
  | 1, hj => simp at hj; subst hj; simp [Array.getElem?_setIfInBounds]; omega
  | 2, hj => simp at hj; subst hj; simp [Array.getElem?_setIfInBounds]; omega
  | 3, hj => simp at hj; subst hj; simp [Array.getElem?_setIfInBounds]; omega
  | 4, hj => simp at hj; subst hj; simp [Array.getElem?_setIfInBounds]; omega
  | j + 5, hj => simp at hj
 ·simp only [frE] at hi
  rw [Array.getElem?_setIfInBounds, if_neg (by omega), Array.getElem?_setIfInBounds, if_neg (by omega), Array.getElem?_setIfInBounds, if_neg (by omega), Array.getElem?_setIfInBounds, if_neg (by omega), Array.getElem?_setIfInBounds, if_neg (by omega)]
theorem MineE.wcell {α : Type} {E : Enc α} {e : TypeId} {B : Nat} {w : World} {g : Nat} {l : List α} (h : MineE E e B w (some ⟨g, 0, none⟩) l) {k : Nat} {a : α} (hk : l[k]? = some a) (b : α) (j0 : Nat) (v : Value) (hj : j0 < E.sz)
  (hb : ∀ j u, (E.cs b)[j]? = some u → (j = j0 ∧ u = v) ∨ (j ≠ j0 ∧ (E.cs a)[j]? = some u)) : MineE E e B (w.setCell ⟨g, k * E.sz + j0, none⟩ v) (some ⟨g, 0, none⟩) (l.set k b) := by
 obtain ⟨hlt, _⟩ := List.getElem?_eq_some_iff.1 hk
 obtain ⟨g2, cs, e1, hB, ho, hs⟩ := h.own (by omega)
 injection e1 with e1
 injection e1 with e1
 subst e1
 obtain ⟨b', o', e2, _, hc⟩ := h.is.el hk
 injection e2 with e2
 injection e2 with e3 e4
 subst e3 e4
 have hs2 := Nat.mul_le_mul_right E.sz (show k + 1 ≤ l.length from hlt)
 rw [Nat.add_mul] at hs2
 refine h.write ho (ho.set_ (k * E.sz + j0) v) (by simp) hlt b (fun j u hj2 => ?_) (fun i hi => ?_)
 ·rcases hb j u hj2 with ⟨rfl, rfl⟩ | ⟨hne, hu⟩
  ·rw [Array.getElem?_setIfInBounds, if_pos rfl, if_pos (by omega)]
  ·rw [Array.getElem?_setIfInBounds, if_neg (by omega)]
   have := hc j u hu
   rw [Nat.zero_add, ho.cell] at this
   exact this
 ·rw [Array.getElem?_setIfInBounds, if_neg (by omega)]
theorem MineE.wnext {e : TypeId} {B : Nat} {w : World} {g : Nat} {l : List Fr} (h : MineE frE e B w (some ⟨g, 0, none⟩) l) {k : Nat} {f : Fr} (hk : l[k]? = some f) (n : Int) :
  MineE frE e B (w.setCell ⟨g, k * 5 + 4, none⟩ (.int .i64 n)) (some ⟨g, 0, none⟩) (l.set k { f with n := n }) := by
 refine h.wcell hk { f with n := n } 4 (.int .i64 n) (by decide) (fun j u hj => ?_)
 simp only [frE] at hj ⊢
 match j, hj with
 | 0, hj => exact .inr ⟨by decide, hj⟩
 | 1, hj => exact .inr ⟨by decide, hj⟩
 | 2, hj => exact .inr ⟨by decide, hj⟩
 | 3, hj => exact .inr ⟨by decide, hj⟩
 | 4, hj => simp at hj; exact .inl ⟨rfl, hj.symm⟩
 | j + 5, hj => simp at hj
theorem MineE.other {α : Type} {E : Enc α} {e : TypeId} {B : Nat} {w : World} {g : Nat} {l : List α} (h : MineE E e B w (some ⟨g, 0, none⟩) l) {p : Addr} (hp : p.block ≠ g) {u : Value} : MineE E e B (w.setCell p u) (some ⟨g, 0, none⟩) l := by
 have hsz : (w.setCell p u).heap.size = w.heap.size := by simp
 refine ⟨⟨h.is.len, fun hn => ?_⟩, fun hl => ?_⟩
 ·obtain ⟨b, o, e2, hb, hc⟩ := h.is.at_ hn
  refine ⟨b, o, e2, by rw [hsz]; exact hb, fun j v hv => ?_⟩
  injection e2 with e2
  injection e2 with e3 e4
  have hne : b ≠ p.block := by omega
  rw [← hc j v hv]
  simp only [World.cell?, Below.heap_setCell w p u b hne]
 ·obtain ⟨g2, cs, e1, hB, ho, hs⟩ := h.own hl
  injection e1 with e1
  injection e1 with e1
  subst e1
  exact ⟨g, cs, rfl, hB, ho.far (fun h => hp h.symm), hs⟩
theorem TaM.open_ {base : Nat} {w : World} {vb vf : Value} {t : Tab} (h : TaM base w vb vf t) (h1 : 1 ≤ t.bs.length) (h2 : 1 ≤ t.fs.length) :
  ∃ g1 c1 g2 c2, vb = .slice (some ⟨g1, 0, none⟩) t.bs.length c1 ∧ vf = .slice (some ⟨g2, 0, none⟩) t.fs.length c2 ∧ base ≤ g1 ∧ base ≤ g2 ∧ g1 < w.heap.size ∧ g2 < w.heap.size ∧ g1 ≠ g2
   ∧ t.bs.length ≤ c1 ∧ c1 ≤ maxLen ∧ t.fs.length ≤ c2 ∧ c2 ≤ maxLen ∧ MineE intE 3 base w (some ⟨g1, 0, none⟩) t.bs ∧ MineE frE 80 base w (some ⟨g2, 0, none⟩) t.fs := by
 obtain ⟨A1, c1, rfl, a1, a2, m1⟩ := h.b
 obtain ⟨A2, c2, rfl, b1, b2, m2⟩ := h.f
 obtain ⟨g1, cs1, rfl, e1, o1, s1⟩ := m1.own (by omega)
 obtain ⟨g2, cs2, rfl, e2, o2, s2⟩ := m2.own (by omega)
 refine ⟨g1, c1, g2, c2, rfl, rfl, e1, e2, o1.lt, o2.lt, ?_, a1, a2, b1, b2, m1, m2⟩
 intro hg
 subst hg
 unfold Own at o1 o2
 rw [o1] at o2
 injection o2 with o2
 injection o2 with _ o2
 exact absurd o2 (by decide)
set_option maxHeartbeats 2000000 in
theorem link_any (base : Nat) (vb vf : Value) (t : Tab) (s p : Int) (fr : Nat) (r : Int) (w : World) (hT : TaM base w vb vf t) (hb : base ≤ w.heap.size) (hk : kval (s, p) = true) (h1 : 1 ≤ t.bs.length) (h16 : t.bs.length ≤ 16) (hf : fr < t.fs.length) :
  Calls Tryz.prog 151 #[.agg #[vb, vf], .agg #[.int .i64 s, .int .i64 p], .int .i64 fr, .int .i64 r] w (Post2 fun _ w' => TaM base w' vb vf (mapT t s p fr r) ∧ Below base w w' ∧ ∀ g ty cs, Own w g ty cs → ty ≠ 3 → ty ≠ 80 → Own w' g ty cs) := by
 obtain ⟨g1, c1, g2, c2, rfl, rfl, e1, e2, l1, l2, hne, a1, a2, b1, b2, m1, m2⟩ := hT.open_ h1 (by omega)
 obtain ⟨hbk, heq⟩ := bkt_in hk h1
 have hbx := (Own.new_ w 26 #[.slice (some ⟨g1, 0, none⟩) t.bs.length c1, .slice (some ⟨g2, 0, none⟩) t.fs.length c2]).alloc (o := .cells #[.int .i64 s, .int .i64 p] 54)
 have hbk2 := Own.new_ (w.alloc (.cells #[.slice (some ⟨g1, 0, none⟩) t.bs.length c1, .slice (some ⟨g2, 0, none⟩) t.fs.length c2] 26)) 54 #[.int .i64 s, .int .i64 p]
 have hb0 : Below w.heap.size w ((w.alloc (.cells #[.slice (some ⟨g1, 0, none⟩) t.bs.length c1, .slice (some ⟨g2, 0, none⟩) t.fs.length c2] 26)).alloc (.cells #[.int .i64 s, .int .i64 p] 54)) := bA (bA bR)
 have hs0 : ((w.alloc (.cells #[.slice (some ⟨g1, 0, none⟩) t.bs.length c1, .slice (some ⟨g2, 0, none⟩) t.fs.length c2] 26)).alloc (.cells #[.int .i64 s, .int .i64 p] 54)).heap.size = w.heap.size + 2 := by simp
 rw [show (w.alloc (.cells #[.slice (some ⟨g1, 0, none⟩) t.bs.length c1, .slice (some ⟨g2, 0, none⟩) t.fs.length c2] 26)).heap.size = w.heap.size + 1 by simp] at hbk2
 generalize hW : (w.alloc (.cells #[.slice (some ⟨g1, 0, none⟩) t.bs.length c1, .slice (some ⟨g2, 0, none⟩) t.fs.length c2] 26)).alloc (.cells #[.int .i64 s, .int .i64 p] 54) = W0 at hbx hbk2 hb0 hs0
 have q0 := hbx.cell_ 0 (v := .slice (some ⟨g1, 0, none⟩) t.bs.length c1) rfl
 have q1 := hbx.cell_ 1 (v := .slice (some ⟨g2, 0, none⟩) t.fs.length c2) rfl
 have k0 := hbk2.cell_ 0 (v := .int .i64 s) rfl
 have k1 := hbk2.cell_ 1 (v := .int .i64 p) rfl
 go_enter Tryz.func151, Tryz.ntmps151
 go_wp2_with fail
 refine (hash_any s p t.bs.length _ hk ⟨by omega, by omega⟩).mono ?_
 rintro e w1 ⟨rfl, hb1⟩
 rw [heq]
 generalize hbb : bkt t s p = b at *
 have hbx1 := hbx.below hb1
 have hbk1 := hbk2.below hb1
 have x0 := hbx1.cell_ 0 (v := .slice (some ⟨g1, 0, none⟩) t.bs.length c1) rfl
 have x1 := hbx1.cell_ 1 (v := .slice (some ⟨g2, 0, none⟩) t.fs.length c2) rfl
 have z0 := hbk1.cell_ 0 (v := .int .i64 s) rfl
 have z1 := hbk1.cell_ 1 (v := .int .i64 p) rfl
 have hbt := bT hb0 hb1
 have M1 := m1.below hbt
 have M2 := m2.below hbt
 obtain ⟨n, en⟩ : ∃ n, t.bs[b]? = some n := ⟨_, List.getElem?_eq_getElem hbk⟩
 obtain ⟨b', o', e3, _, d0⟩ := M1.is.i1 en
 injection e3 with e3
 injection e3 with e3 e4
 subst e3 e4
 rw [Nat.zero_add] at d0
 obtain ⟨f, ef⟩ : ∃ f, t.fs[fr]? = some f := ⟨_, List.getElem?_eq_getElem hf⟩
 obtain ⟨b', o', e3, _, y0, y1, y2, y3, y4⟩ := M2.is.fr ef
 injection e3 with e3
 injection e3 with e3 e4
 subst e3 e4
 rw [Nat.zero_add] at y0 y1 y2 y3 y4
 obtain ⟨_, cs1, u1, _, O1, S1⟩ := M1.own (by omega)
 injection u1 with u1
 injection u1 with u1
 subst u1
 obtain ⟨_, cs2, u2, _, O2, S2⟩ := M2.own (by omega)
 injection u2 with u2
 injection u2 with u2
 subst u2
 have z2 := O1.free b
 have z3 := O2.free (fr * 5)
 have z4 := O2.free (fr * 5 + 1)
 have z5 := O2.free (fr * 5 + 2)
 have z6 := O2.free (fr * 5 + 3)
 have z7 := O2.free (fr * 5 + 4)
 have hfar1 : Hid (∀ g ty cs, Own w1 g ty cs → ty ≠ 3 → g ≠ g1) := by
  intro g ty cs h hty hg
  subst hg
  unfold Own at h O1
  rw [h] at O1
  injection O1 with O1
  injection O1 with _ O1
  exact hty O1
 have hfar2 : Hid (∀ g ty cs, Own w1 g ty cs → ty ≠ 80 → g ≠ g2) := by
  intro g ty cs h hty hg
  subst hg
  unfold Own at h O2
  rw [h] at O2
  injection O2 with O2
  injection O2 with _ O2
  exact hty O2
 have HM1 := Hd M1
 have HM2 := Hd M2
 have HBT := Hd hbt
 have HX1 := Hd hbx1
 have hmt : mapT t s p fr r = ⟨t.bs.set b fr, t.fs.set fr ⟨true, s, p, r, n⟩⟩ := by
  unfold mapT
  rw [hbb, Int.toNat_natCast, List.getD_eq_getElem?_getD, en]
  rfl
 clear M1 M2 O1 O2 S1 S2 m1 m2 hT hbx hbk2 hb0 hbt hbx1 hbk1 hb1 en ef
 go_wp2
 go_region_law (fail)
 all_goals
  clear z3 z4 z5 z6 z7 y0 y1 y2 y3 y4
  go_wp2
  have M3 := (HM2.out.wfr hf ⟨true, s, p, r, n⟩).other (p := ⟨g1, b, none⟩) (u := .int .i64 fr) hne
  have M4 := (((((HM1.out.other (p := ⟨g2, fr * 5, none⟩) (u := .bool true) hne.symm).other (p := ⟨g2, fr * 5 + 1, none⟩) (u := .int .i64 s) hne.symm).other (p := ⟨g2, fr * 5 + 2, none⟩) (u := .int .i64 p) hne.symm).other (p := ⟨g2, fr * 5 + 3, none⟩) (u := .int .i64 r) hne.symm).other (p := ⟨g2, fr * 5 + 4, none⟩) (u := .int .i64 n) hne.symm).wint hbk fr
  have hbz : Below base w w1 := Below.mono HBT.out hb
  go_end0
  refine ⟨_, rfl, ⟨?_, ?_⟩, ?_, ?_⟩
  ·rw [hmt]
   exact slm_of (by simp) (by simpa using a1) a2 (M4.below (bD bR))
  ·rw [hmt]
   exact slm_of (by simp) (by simpa using b1) b2 (M3.below (bD bR))
  ·exact ((((((hbz.setCell e2 _).setCell e2 _).setCell e2 _).setCell e2 _).setCell e2 _).setCell e1 _).drew
  ·intro g ty cs ho h3 h4
   have ho1 := ho.below HBT.out
   have n1 := hfar1.out _ _ _ ho1 h3
   have n2 := hfar2.out _ _ _ ho1 h4
   exact ((((((ho1.far n2).far n2).far n2).far n2).far n2).far n1).drew
end Go.Proofs.YtfbnokjdkhcgoaaGreatDoor
