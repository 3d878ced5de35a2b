/- A part of the proofs of this seat: Clone, Copy, DrpP, Ma2, MapI, ProtI, Write. -/
import Derived.Laws.Cover3
import Derived.Test.YtibpnlojlfcpmaaGreatDoorBFind
set_option linter.unusedVariables false
set_option linter.unusedSimpArgs false
set_option maxRecDepth 1000000
namespace Go.Proofs.YtibpnlojlfcpmaaGreatDoor
open Go.RowKit
theorem eql_snil {t e : TypeId} (h : Tryz.prog.underlying t = some (.slice e)) (a : Option Addr) (n c : Nat) (w : World) : (binOp .eql t (.slice a n c) (.slice none 0 0)).run Tryz.prog w = .ok (.bool a.isNone) w := by
 simp only [binOp]
 simp [run_equal_slice_nil w t e a n c h]
theorem fr_info : (Tryz.prog.info? 66).map (fun i => (i.zero, i.size, i.bytes)) = some (some (.agg #[.bool false, .int .i64 0, .int .i64 0, .int .i64 0, .int .i64 0]), 5, 40) := by kernel_rfl
theorem ln_info : (Tryz.prog.info? 129).map (fun i => (i.zero, i.size, i.bytes)) = some (some (.agg #[.bool false, .int .i64 0, .int .i64 0, .int .i64 0, .int .i64 0, .bool false]), 6, 48) := by kernel_rfl
theorem ow_info : (Tryz.prog.info? 126).map (fun i => (i.zero, i.size, i.bytes)) = some (some (.agg #[.int .i64 0, .int .i64 0]), 2, 16) := by kernel_rfl
theorem run_copy {α : Type} (E : Enc α) (t ty e : TypeId) (i : TypeInfo) (z : Value) (bytes : Nat) (ht : Tryz.prog.underlying t = some (.slice e)) (hi : Tryz.prog.info? e = some i) (hz : i.zero = some z)
  (hs : i.size = E.sz) (hby : i.bytes = bytes) (hzs : z.cells.size = E.sz) (hbb : bytes ≤ 1000)
  (base : Nat) (W : World) (v : Value) (hown : W.ownsRow base e E.sz v 0 []) (B : Nat) (A : Option Addr) (c : Nat) (l : List α) (hr : Rs E B W A l) (hl : l.length ≤ 1048576) (hb : base ≤ W.heap.size) :
  ∃ v' w', (Builtin.append_ #[t, t] ty #[v, .slice A l.length c]).run Tryz.prog W = .ok v' w' ∧ w'.ownsRow base e E.sz v' l.length (E.cells l) ∧ W.grownBy w' v.ownBlock ∧ (v'.ownBlock = v.ownBlock ∨ v'.ownBlock = some W.heap.size) := by
 have hm : 0 + l.length ≤ maxLen := by simp only [maxLen]; omega
 have hbytes : (0 + l.length) * bytes ≤ 140737488355328 := Nat.le_trans (Nat.mul_le_mul (show 0 + l.length ≤ 1048576 by omega) hbb) (by omega)
 obtain ⟨v', w', h1, h2, h3, h4⟩ := run_append_rd (P := Tryz.prog) W base t ty e i z E.sz bytes ht hi hz hs hby hzs E.pos v 0 [] hown B A l.length c (E.cells l) hr (E.cells_one l) hm hbytes hb
 exact ⟨v', w', h1, by simpa using h2, h3, h4⟩
theorem owns_lit {base : Nat} {e : TypeId} (W : World) (sz : Nat) (hb : base ≤ W.heap.size) : (W.alloc (.cells #[] e)).ownsRow base e sz (.slice (some ⟨W.heap.size, 0, none⟩) 0 0) 0 [] := by
 have h := World.ownsRow_made (base := W.heap.size) (e := e) (size := sz) W #[] 0 (by simp) (by simp [maxLen]) (by simp)
 exact own_mono h hb
theorem cloneFrame_any (v : Value) (l : List _) (w : World) (h : SlR frE w v l) (hl : l.length ≤ 1048576) :
  Calls Tryz.prog 213 #[v] w (Post2 fun v' w' => SlM frE 66 w.heap.size w' v' l ∧ Below w.heap.size w w') := by
 obtain ⟨A, c, rfl, hlc, hcm, hR⟩ := h
 obtain ⟨i0, hi0, hz0, hz1, hz2⟩ := info_parts fr_info
 have hnil := eql_snil Tryz.underlying38
 cases A with
 | none =>
  have h0 : l = [] := by
   rcases Nat.eq_zero_or_pos l.length with h | h
   ·exact List.length_eq_zero_iff.1 h
   ·obtain ⟨b, o, e, _⟩ := hR.at_ h
    cases e
  subst h0
  go_enter Tryz.func213, Tryz.ntmps213
  go_wp2
  go_ret
  exact ⟨_, rfl, SlM.nil_ _, bR⟩
 | some ad =>
  have hO := owns_lit (base := w.heap.size) (e := 66) w frE.sz (Nat.le_refl _)
  have hR2 := hR.alloc (.cells #[] 66)
  obtain ⟨v', w', hrun, hown, hg, _⟩ := run_copy frE 38 38 66 i0 _ _ Tryz.underlying38 hi0 hz0 hz1 hz2 rfl (by omega) w.heap.size _ _ hO _ _ c l hR2 hl (by simp)
  have HM := Hd (slm_own rfl hown)
  have HB : Hid (Below w.heap.size w w') := bG (bA bR) hg (fun k hk => own_block hO k hk)
  clear hO hR2 hown hg
  go_enter Tryz.func213, Tryz.ntmps213
  go_wp2_with (at_builtin; refine wpList_append_run _ rfl (.tmp 5) (.tmp 6) 38 rfl _ _ _ _ rfl rfl hrun ?_)
  go_ret
  exact ⟨_, rfl, HM.out, HB.out⟩
theorem clipFrame_any (A : Option Addr) (n c : Nat) (w : World) (hn : n ≤ c) : Calls Tryz.prog 212 #[.slice A n c] w fun r w' => r = .returned (.slice A n n) ∧ w = w' := by
 obtain ⟨i0, hi0, _⟩ := info_parts fr_info
 have hs := fun W => slice_max (P := Tryz.prog) W 38 66 i0 A n c Tryz.underlying38 hi0 hn
 go_enter Tryz.func212, Tryz.ntmps212
 go_wp2
 go_ret
 exact ⟨rfl, rfl⟩
theorem clipFrame_p (A : Option Addr) (n c : Nat) (w : World) (hn : n ≤ c) : Calls Tryz.prog 212 #[.slice A n c] w (Post2 fun v w' => v = .slice A n n ∧ w = w') := (clipFrame_any A n c w hn).mono fun _ _ h => ⟨_, h.1, rfl, h.2⟩
theorem cloneint_any (v : Value) (l : List _) (w : World) (h : SlR intE w v l) (hl : l.length ≤ 1048576) :
  Calls Tryz.prog 211 #[v] w (Post2 fun v' w' => SlM intE 3 w.heap.size w' v' l ∧ Below w.heap.size w w') := by
 obtain ⟨A, c, rfl, hlc, hcm, hR⟩ := h
 obtain ⟨i0, hi0, hz0, hz1, hz2⟩ := info_parts int_info2
 have hnil := eql_snil Tryz.underlying22
 cases A with
 | none =>
  have h0 : l = [] := by
   rcases Nat.eq_zero_or_pos l.length with h | h
   ·exact List.length_eq_zero_iff.1 h
   ·obtain ⟨b, o, e, _⟩ := hR.at_ h
    cases e
  subst h0
  go_enter Tryz.func211, Tryz.ntmps211
  go_wp2
  go_ret
  exact ⟨_, rfl, SlM.nil_ _, bR⟩
 | some ad =>
  have hO := owns_lit (base := w.heap.size) (e := 3) w intE.sz (Nat.le_refl _)
  have hR2 := hR.alloc (.cells #[] 3)
  obtain ⟨v', w', hrun, hown, hg, _⟩ := run_copy intE 22 22 3 i0 _ _ Tryz.underlying22 hi0 hz0 hz1 hz2 rfl (by omega) w.heap.size _ _ hO _ _ c l hR2 hl (by simp)
  have HM := Hd (slm_own rfl hown)
  have HB : Hid (Below w.heap.size w w') := bG (bA bR) hg (fun k hk => own_block hO k hk)
  clear hO hR2 hown hg
  go_enter Tryz.func211, Tryz.ntmps211
  go_wp2_with (at_builtin; refine wpList_append_run _ rfl (.tmp 5) (.tmp 6) 22 rfl _ _ _ _ rfl rfl hrun ?_)
  go_ret
  exact ⟨_, rfl, HM.out, HB.out⟩
theorem clipint_any (A : Option Addr) (n c : Nat) (w : World) (hn : n ≤ c) : Calls Tryz.prog 123 #[.slice A n c] w fun r w' => r = .returned (.slice A n n) ∧ w = w' := by
 obtain ⟨i0, hi0, _⟩ := info_parts int_info2
 have hs := fun W => slice_max (P := Tryz.prog) W 22 3 i0 A n c Tryz.underlying22 hi0 hn
 go_enter Tryz.func123, Tryz.ntmps123
 go_wp2
 go_ret
 exact ⟨rfl, rfl⟩
theorem clipint_p (A : Option Addr) (n c : Nat) (w : World) (hn : n ≤ c) : Calls Tryz.prog 123 #[.slice A n c] w (Post2 fun v w' => v = .slice A n n ∧ w = w') := (clipint_any A n c w hn).mono fun _ _ h => ⟨_, h.1, rfl, h.2⟩
theorem cloneLine_any (v : Value) (l : List _) (w : World) (h : SlR lnE w v l) (hl : l.length ≤ 1048576) :
  Calls Tryz.prog 153 #[v] w (Post2 fun v' w' => SlM lnE 129 w.heap.size w' v' l ∧ Below w.heap.size w w') := by
 obtain ⟨A, c, rfl, hlc, hcm, hR⟩ := h
 obtain ⟨i0, hi0, hz0, hz1, hz2⟩ := info_parts ln_info
 have hnil := eql_snil Tryz.underlying41
 cases A with
 | none =>
  have h0 : l = [] := by
   rcases Nat.eq_zero_or_pos l.length with h | h
   ·exact List.length_eq_zero_iff.1 h
   ·obtain ⟨b, o, e, _⟩ := hR.at_ h
    cases e
  subst h0
  go_enter Tryz.func153, Tryz.ntmps153
  go_wp2
  go_ret
  exact ⟨_, rfl, SlM.nil_ _, bR⟩
 | some ad =>
  have hO := owns_lit (base := w.heap.size) (e := 129) w lnE.sz (Nat.le_refl _)
  have hR2 := hR.alloc (.cells #[] 129)
  obtain ⟨v', w', hrun, hown, hg, _⟩ := run_copy lnE 41 41 129 i0 _ _ Tryz.underlying41 hi0 hz0 hz1 hz2 rfl (by omega) w.heap.size _ _ hO _ _ c l hR2 hl (by simp)
  have HM := Hd (slm_own rfl hown)
  have HB : Hid (Below w.heap.size w w') := bG (bA bR) hg (fun k hk => own_block hO k hk)
  clear hO hR2 hown hg
  go_enter Tryz.func153, Tryz.ntmps153
  go_wp2_with (at_builtin; refine wpList_append_run _ rfl (.tmp 5) (.tmp 6) 41 rfl _ _ _ _ rfl rfl hrun ?_)
  go_ret
  exact ⟨_, rfl, HM.out, HB.out⟩
theorem clipLine_any (A : Option Addr) (n c : Nat) (w : World) (hn : n ≤ c) : Calls Tryz.prog 152 #[.slice A n c] w fun r w' => r = .returned (.slice A n n) ∧ w = w' := by
 obtain ⟨i0, hi0, _⟩ := info_parts ln_info
 have hs := fun W => slice_max (P := Tryz.prog) W 41 129 i0 A n c Tryz.underlying41 hi0 hn
 go_enter Tryz.func152, Tryz.ntmps152
 go_wp2
 go_ret
 exact ⟨rfl, rfl⟩
theorem cloneOwn_any (v : Value) (l : List _) (w : World) (h : SlR owE w v l) (hl : l.length ≤ 1048576) :
  Calls Tryz.prog 155 #[v] w (Post2 fun v' w' => SlM owE 126 w.heap.size w' v' l ∧ Below w.heap.size w w') := by
 obtain ⟨A, c, rfl, hlc, hcm, hR⟩ := h
 obtain ⟨i0, hi0, hz0, hz1, hz2⟩ := info_parts ow_info
 have hnil := eql_snil Tryz.underlying44
 cases A with
 | none =>
  have h0 : l = [] := by
   rcases Nat.eq_zero_or_pos l.length with h | h
   ·exact List.length_eq_zero_iff.1 h
   ·obtain ⟨b, o, e, _⟩ := hR.at_ h
    cases e
  subst h0
  go_enter Tryz.func155, Tryz.ntmps155
  go_wp2
  go_ret
  exact ⟨_, rfl, SlM.nil_ _, bR⟩
 | some ad =>
  have hO := owns_lit (base := w.heap.size) (e := 126) w owE.sz (Nat.le_refl _)
  have hR2 := hR.alloc (.cells #[] 126)
  obtain ⟨v', w', hrun, hown, hg, _⟩ := run_copy owE 44 44 126 i0 _ _ Tryz.underlying44 hi0 hz0 hz1 hz2 rfl (by omega) w.heap.size _ _ hO _ _ c l hR2 hl (by simp)
  have HM := Hd (slm_own rfl hown)
  have HB : Hid (Below w.heap.size w w') := bG (bA bR) hg (fun k hk => own_block hO k hk)
  clear hO hR2 hown hg
  go_enter Tryz.func155, Tryz.ntmps155
  go_wp2_with (at_builtin; refine wpList_append_run _ rfl (.tmp 5) (.tmp 6) 44 rfl _ _ _ _ rfl rfl hrun ?_)
  go_ret
  exact ⟨_, rfl, HM.out, HB.out⟩
theorem clipOwn_any (A : Option Addr) (n c : Nat) (w : World) (hn : n ≤ c) : Calls Tryz.prog 154 #[.slice A n c] w fun r w' => r = .returned (.slice A n n) ∧ w = w' := by
 obtain ⟨i0, hi0, _⟩ := info_parts ow_info
 have hs := fun W => slice_max (P := Tryz.prog) W 44 126 i0 A n c Tryz.underlying44 hi0 hn
 go_enter Tryz.func154, Tryz.ntmps154
 go_wp2
 go_ret
 exact ⟨rfl, rfl⟩
theorem MineE.far {α : Type} {E : Enc α} {e : TypeId} {B : Nat} {w : World} {A : Option Addr} {l : List α} (h : MineE E e B w A l) {p : Addr} (hp : p.block < B) {u : Value} : MineE E e B (w.setCell p u) A l := by
 have hsz : (w.setCell p u).heap.size = w.heap.size := by simp
 refine ⟨⟨h.is.len, fun hn => ?_⟩, fun hl => ?_⟩
 ·obtain ⟨g, cs, e1, hB, ho, hs⟩ := h.own hn
  obtain ⟨b, o, e2, hb, hc⟩ := h.is.at_ hn
  refine ⟨b, o, e2, by rw [hsz]; exact hb, fun j v hv => ?_⟩
  rw [e1] at e2
  injection e2 with e2
  injection e2 with e3 e4
  have hne : b ≠ p.block := by omega
  rw [← hc j v hv]
  simp only [World.cell?, Below.heap_setCell w p u b hne]
 ·obtain ⟨g, cs, e1, hB, ho, hs⟩ := h.own hl
  exact ⟨g, cs, e1, hB, ho.far (by omega), hs⟩
theorem MineE.mono {α : Type} {E : Enc α} {e : TypeId} {B B' : Nat} {w : World} {A : Option Addr} {l : List α} (h : MineE E e B w A l) (hb : B' ≤ B) : MineE E e B' w A l :=
 ⟨h.is, fun hl => let ⟨g, cs, e1, e2, e3⟩ := h.own hl; ⟨g, cs, e1, Nat.le_trans hb e2, e3⟩⟩
theorem slm_of {α : Type} {E : Enc α} {e : TypeId} {B : Nat} {w : World} {A : Option Addr} {l : List α} {n c : Nat} (hn : n = l.length) (hc : l.length ≤ c) (hm : c ≤ maxLen) (h : MineE E e B w A l) : SlM E e B w (.slice A n c) l := by
 subst hn
 exact ⟨A, c, rfl, hc, hm, h⟩
set_option maxHeartbeats 2000000 in
theorem tclone_any (vb vf : Value) (t : Tab) (w : World) (hT : TaR w vb vf t) (h1 : t.bs.length ≤ 1048576) (h2 : t.fs.length ≤ 1048576) :
    Calls Tryz.prog 151 #[.agg #[vb, vf]] w fun r w' => ∃ v1 v2, r = .returned (.agg #[v1, v2]) ∧ TaM w.heap.size w' v1 v2 t ∧ Below w.heap.size w w' := by
  have hbx := (Own.new_ w 40 #[vb, vf]).alloc (o := .cells #[.slice none 0 0, .slice none 0 0] 40)
  have hbo := Own.new_ (w.alloc (.cells #[vb, vf] 40)) 40 #[.slice none 0 0, .slice none 0 0]
  have hb0 : Below w.heap.size w ((w.alloc (.cells #[vb, vf] 40)).alloc (.cells #[.slice none 0 0, .slice none 0 0] 40)) := bA (bA bR)
  have hs0 : ((w.alloc (.cells #[vb, vf] 40)).alloc (.cells #[.slice none 0 0, .slice none 0 0] 40)).heap.size = w.heap.size + 2 := by simp
  rw [show (w.alloc (.cells #[vb, vf] 40)).heap.size = w.heap.size + 1 by simp] at hbo
  generalize hW : (w.alloc (.cells #[vb, vf] 40)).alloc (.cells #[.slice none 0 0, .slice none 0 0] 40) = W0 at hbx hbo hb0 hs0
  obtain ⟨Ab, cb, rfl, hbc, hbm, hB⟩ := hT.b
  obtain ⟨Af, cf, rfl, hfc, hfm, hF⟩ := hT.f
  have q0 := hbx.cell_ 0 (v := .slice Ab t.bs.length cb) rfl
  have q1 := hbx.cell_ 1 (v := .slice Af t.fs.length cf) rfl
  have HX0 := Hd hbx
  have HO0 := Hd hbo
  have HB0 := Hd hb0
  have HT := Hd hT
  have f0 := hbo.free 0
  have f1 := hbo.free 1
  have z0 := hbo.cell_ 0 (v := .slice none 0 0) rfl
  have z1 := hbo.cell_ 1 (v := .slice none 0 0) rfl
  obtain ⟨i0, hi0, _⟩ := info_parts int_info2
  obtain ⟨j0, hj0, _⟩ := info_parts fr_info
  clear hbx hbo hb0 hT hB hF
  go_enter Tryz.func151, Tryz.ntmps151
  go_wp2
  go_region_law (first
    | (refine step_call rfl ?_ (cloneint_any _ t.bs _ (HT.out.b.now (bD HB0.out)) h1) ?_
       go_simp
       rintro vI wI ⟨hMI, hbn⟩
       obtain ⟨AI, cI, rfl, hcI, hcmI, hmI⟩ := hMI
       have HBI : Hid (Below w.heap.size w wI) := bT (bD HB0.out) hbn
       have hxI := HX0.out.drew.below hbn
       have x0 := hxI.cell_ 0 (v := .slice Ab t.bs.length cb) rfl
       have x1 := hxI.cell_ 1 (v := .slice Af t.fs.length cf) rfl
       have hoI := HO0.out.drew.below hbn
       have HOI := Hd hoI
       have HMI := Hd hmI
       have HNI := Hd hbn
       clear hxI hmI hbn hoI)
    | (refine step_call rfl ?_ (clipint_p AI t.bs.length cI _ hcI) ?_
       go_simp
       rintro _ _ ⟨rfl, rfl⟩)
    | (refine step_call rfl ?_ (cloneFrame_any _ t.fs _ (HT.out.f.now HBI.out) h2) ?_
       go_simp
       rintro vF wF ⟨hMF, hbn⟩
       obtain ⟨AF, cF, rfl, hcF, hcmF, hmF⟩ := hMF
       have HBF : Hid (Below w.heap.size w wF) := bT HBI.out hbn
       have hoF := HOI.out.below hbn
       have p0 := hoF.free 0
       have p1 := hoF.free 1
       have p2 := hoF.cell_ 0 (v := .slice none 0 0) rfl
       have p3 := hoF.cell_ 1 (v := .slice none 0 0) rfl
       have HOF := Hd hoF
       have HMF := Hd hmF
       have HNF := Hd hbn
       clear hmF hbn hoF)
    | (refine step_call rfl ?_ (clipFrame_p AF t.fs.length cF _ hcF) ?_
       go_simp
       rintro _ _ ⟨rfl, rfl⟩))
  all_goals
    go_wp2
    have hM1 := ((HMI.out.below HNF.out).far (p := ⟨w.heap.size + 1, 0, none⟩) (u := .slice AI t.bs.length t.bs.length) (by show w.heap.size + 1 < W0.heap.size; omega)).far (p := ⟨w.heap.size + 1, 1, none⟩) (u := .slice AF t.fs.length t.fs.length) (by show w.heap.size + 1 < W0.heap.size; omega)
    have hsI := HBI.out.size
    have hsW := HNI.out.size
    have hsW2 : W0.drew.heap.size = W0.heap.size := rfl
    have hM2 := (HMF.out.far (p := ⟨w.heap.size + 1, 0, none⟩) (u := .slice AI t.bs.length t.bs.length) (by show w.heap.size + 1 < wI.heap.size; omega)).far (p := ⟨w.heap.size + 1, 1, none⟩) (u := .slice AF t.fs.length t.fs.length) (by show w.heap.size + 1 < wI.heap.size; omega)
    have o3 := (HOF.out.set_ 0 (.slice AI t.bs.length t.bs.length)).set_ 1 (.slice AF t.fs.length t.fs.length)
    have t0 := o3.cell_ 0 (v := .slice AI t.bs.length t.bs.length) rfl
    have t1 := o3.cell_ 1 (v := .slice AF t.fs.length t.fs.length) rfl
    have hl1 : t.bs.length ≤ maxLen := by omega
    have hl2 : t.fs.length ≤ maxLen := by omega
    refine bodyPost_ret (v := .agg #[.slice AI t.bs.length t.bs.length, .slice AF t.fs.length t.fs.length]) (by simp [results, Tryz.results151, go_sem, t0, t1]) rfl ⟨_, _, rfl, ⟨slm_of rfl (Nat.le_refl _) hl1 (hM1.mono (by omega)), slm_of rfl (Nat.le_refl _) hl2 (hM2.mono (by omega))⟩, bS (bS HBF.out (by simp)) (by simp)⟩
theorem Enc.cells_split {α : Type} (E : Enc α) : ∀ {l : List α} {i : Nat} {u : Value}, (E.cells l)[i]? = some u → ∃ q r a, i = q * E.sz + r ∧ r < E.sz ∧ l[q]? = some a ∧ (E.cs a)[r]? = some u := by
 intro l
 induction l with
 | nil => intro i u h; simp [Enc.cells] at h
 | cons x l ih =>
  intro i u h
  rw [E.cells_cons] at h
  by_cases hi : i < E.sz
  ·rw [List.getElem?_append_left (by rw [E.len]; exact hi)] at h
   exact ⟨0, i, x, by omega, hi, rfl, h⟩
  ·rw [List.getElem?_append_right (by rw [E.len]; omega), E.len] at h
   obtain ⟨q, r, a, h1, h2, h3, h4⟩ := ih h
   exact ⟨q + 1, r, a, by rw [Nat.add_mul]; omega, h2, by simpa using h3, h4⟩
theorem MineE.write {α : Type} {E : Enc α} {e : TypeId} {B : Nat} {w w' : World} {g : Nat} {l : List α} (h : MineE E e B w (some ⟨g, 0, none⟩) l) {cs cs' : Array Value} (ho : Own w g e cs) (ho' : Own w' g e cs')
  (hsz : cs'.size = cs.size) {k : Nat} (hk : k < l.length) (a : α) (hin : ∀ j u, (E.cs a)[j]? = some u → cs'[k * E.sz + j]? = some u) (hout : ∀ i, ¬ (k * E.sz ≤ i ∧ i < k * E.sz + E.sz) → cs'[i]? = cs[i]?) : MineE E e B w' (some ⟨g, 0, none⟩) (l.set k a) := by
 obtain ⟨g2, cs2, e1, hB, ho2, hs2⟩ := h.own (by omega)
 injection e1 with e1
 injection e1 with e1
 subst e1
 have hcs : cs2 = cs := by
  unfold Own at ho ho2
  rw [ho] at ho2
  injection ho2 with ho2
  injection ho2 with ho2
  exact ho2.symm
 subst hcs
 obtain ⟨b, o, e2, hb, hc⟩ := h.is.at_ (by omega)
 injection e2 with e2
 injection e2 with e3 e4
 subst e3 e4
 refine ⟨⟨by rw [E.cells_length], fun _ => ⟨g, 0, rfl, ho'.lt, fun i u hu => ?_⟩⟩, fun _ => ⟨g, cs', rfl, hB, ho', by rw [List.length_set, hsz]; exact hs2⟩⟩
 rw [Nat.zero_add, ho'.cell i]
 obtain ⟨q, r, x, rfl, hr, hq, hx⟩ := E.cells_split hu
 rw [List.getElem?_set] at hq
 by_cases hqk : k = q
 ·subst hqk
  rw [if_pos rfl, if_pos hk] at hq
  injection hq with hq
  subst hq
  exact hin r u hx
 ·rw [if_neg hqk] at hq
  have h1 := hc _ u (E.cells_get hq hx)
  rw [Nat.zero_add, ho.cell] at h1
  rw [hout, h1]
  rintro ⟨h2, h3⟩
  rcases Nat.lt_or_gt_of_ne hqk with h4 | h4
  ·have := Nat.mul_le_mul_right E.sz (show k + 1 ≤ q from h4)
   rw [Nat.add_mul] at this
   omega
  ·have := Nat.mul_le_mul_right E.sz (show q + 1 ≤ k from h4)
   rw [Nat.add_mul] at this
   omega
theorem MineE.wcell {α : Type} {E : Enc α} {e : TypeId} {B : Nat} {w : World} {g : Nat} {l : List α} (h : MineE E e B w (some ⟨g, 0, none⟩) l) {k : Nat} {a : α} (hk : l[k]? = some a) (b : α) (j0 : Nat) (v : Value) (hj : j0 < E.sz)
  (hb : ∀ j u, (E.cs b)[j]? = some u → (j = j0 ∧ u = v) ∨ (j ≠ j0 ∧ (E.cs a)[j]? = some u)) : MineE E e B (w.setCell ⟨g, k * E.sz + j0, none⟩ v) (some ⟨g, 0, none⟩) (l.set k b) := by
 obtain ⟨hlt, _⟩ := List.getElem?_eq_some_iff.1 hk
 obtain ⟨g2, cs, e1, hB, ho, hs⟩ := h.own (by omega)
 injection e1 with e1
 injection e1 with e1
 subst e1
 obtain ⟨b', o', e2, _, hc⟩ := h.is.el hk
 injection e2 with e2
 injection e2 with e3 e4
 subst e3 e4
 have hs2 := Nat.mul_le_mul_right E.sz (show k + 1 ≤ l.length from hlt)
 rw [Nat.add_mul] at hs2
 refine h.write ho (ho.set_ (k * E.sz + j0) v) (by simp) hlt b (fun j u hj2 => ?_) (fun i hi => ?_)
 ·rcases hb j u hj2 with ⟨rfl, rfl⟩ | ⟨hne, hu⟩
  ·rw [Array.getElem?_setIfInBounds, if_pos rfl, if_pos (by omega)]
  ·rw [Array.getElem?_setIfInBounds, if_neg (by omega)]
   have := hc j u hu
   rw [Nat.zero_add, ho.cell] at this
   exact this
 ·rw [Array.getElem?_setIfInBounds, if_neg (by omega)]
theorem MineE.other {α : Type} {E : Enc α} {e : TypeId} {B : Nat} {w : World} {g : Nat} {l : List α} (h : MineE E e B w (some ⟨g, 0, none⟩) l) {p : Addr} (hp : p.block ≠ g) {u : Value} : MineE E e B (w.setCell p u) (some ⟨g, 0, none⟩) l := by
 have hsz : (w.setCell p u).heap.size = w.heap.size := by simp
 refine ⟨⟨h.is.len, fun hn => ?_⟩, fun hl => ?_⟩
 ·obtain ⟨b, o, e2, hb, hc⟩ := h.is.at_ hn
  refine ⟨b, o, e2, by rw [hsz]; exact hb, fun j v hv => ?_⟩
  injection e2 with e2
  injection e2 with e3 e4
  have hne : b ≠ p.block := by omega
  rw [← hc j v hv]
  simp only [World.cell?, Below.heap_setCell w p u b hne]
 ·obtain ⟨g2, cs, e1, hB, ho, hs⟩ := h.own hl
  injection e1 with e1
  injection e1 with e1
  subst e1
  exact ⟨g, cs, rfl, hB, ho.far (fun h => hp h.symm), hs⟩
theorem SlM.far {α : Type} {E : Enc α} {e : TypeId} {B : Nat} {w : World} {v : Value} {l : List α} (h : SlM E e B w v l) {p : Addr} (hp : p.block < B) {u : Value} : SlM E e B (w.setCell p u) v l := by
 obtain ⟨A, c, h1, h2, h3, h4⟩ := h
 exact ⟨A, c, h1, h2, h3, h4.far hp⟩
theorem TaM.far {B : Nat} {w : World} {vb vf : Value} {t : Tab} (h : TaM B w vb vf t) {p : Addr} (hp : p.block < B) {u : Value} : TaM B (w.setCell p u) vb vf t := ⟨h.b.far hp, h.f.far hp⟩
theorem TaM.mono {B B' : Nat} {w : World} {vb vf : Value} {t : Tab} (h : TaM B w vb vf t) (hb : B' ≤ B) : TaM B' w vb vf t := ⟨h.b.mono hb, h.f.mono hb⟩
theorem tam_z {base : Nat} {w : World} : TaM base w (.slice none 0 0) (.slice none 0 0) tabz := ⟨SlM.nil_ _, SlM.nil_ _⟩
theorem MaM.far {B : Nat} {w : World} {vb vf vl vo : Value} {m : Ma} (h : MaM B w vb vf vl vo m) {p : Addr} (hp : p.block < B) {u : Value} : MaM B (w.setCell p u) vb vf vl vo m := ⟨h.t.far hp, h.l.far hp, h.o.far hp⟩
theorem MaM.mono {B B' : Nat} {w : World} {vb vf vl vo : Value} {m : Ma} (h : MaM B w vb vf vl vo m) (hb : B' ≤ B) : MaM B' w vb vf vl vo m := ⟨h.t.mono hb, h.l.mono hb, h.o.mono hb⟩
theorem mam_z {base : Nat} {w : World} : MaM base w (.slice none 0 0) (.slice none 0 0) (.slice none 0 0) (.slice none 0 0) maz := ⟨tam_z, SlM.nil_ _, SlM.nil_ _⟩
theorem fndI_lt {fs : List Fr} {s p : Int} (h : 0 ≤ fndI fs s p) : ∃ (k : Nat) (f : Fr), fndI fs s p = (k : Int) ∧ fs[k]? = some f ∧ f.used = true ∧ (f.s, f.p) = (s, p) := by
 unfold fndI at h ⊢
 cases e : fnd fs s p with
 | none => rw [e] at h; simp at h
 | some i =>
  obtain ⟨f, h1, h2, h3⟩ := fnd_some e
  exact ⟨i, f, rfl, h1, h2, h3⟩
def tagO (m : Ma) (s p : Int) : Bool := if 128 ≤ p then true else tgO m.g s
def tagT (m : Ma) (s p : Int) : Int := if 128 ≤ p then -1 else tgT m.g s
def drpC (m : Ma) (s p : Int) : Ca := if tagO m s p = true ∧ 0 ≤ plcI m.c.ls (tagT m s p) p then ⟨m.c.ls.set (plcI m.c.ls (tagT m s p) p).toNat lnz, m.c.hand⟩ else m.c
theorem tgO_no {g : Tg} {s : Int} (h : tgv g = false) : tgO g s = false ∧ tgT g s = 0 := by
 have h1 : tgO g s = false := by unfold tgO; rw [h]; rfl
 exact ⟨h1, by unfold tgT; rw [h1]; rfl⟩
theorem tgO_neg {g : Tg} {s : Int} (h : ¬ 0 ≤ ownI g.os s) : tgO g s = false ∧ tgT g s = 0 := by
 have h1 : tgO g s = false := by unfold tgO; rw [decide_eq_false h, Bool.and_false]
 exact ⟨h1, by unfold tgT; rw [h1]; rfl⟩
theorem ownI_lt {os : List (Int × Int)} {s : Int} (h : 0 ≤ ownI os s) : ∃ (k : Nat) (o : Int × Int), ownI os s = (k : Int) ∧ os[k]? = some o ∧ o.1 = s := by
 unfold ownI at h ⊢
 cases e : own os s with
 | none => rw [e] at h; simp at h
 | some i =>
  unfold own at e
  obtain ⟨hi, h1, _⟩ := List.findIdx?_eq_some_iff_getElem.1 e
  exact ⟨i, os[i], rfl, List.getElem?_eq_getElem hi, by simpa using h1⟩
theorem tgO_yes {g : Tg} {s : Int} (h : tgv g = true) {k : Nat} {o : Int × Int} (e : ownI g.os s = (k : Int)) (eo : g.os[k]? = some o) : tgO g s = true ∧ tgT g s = o.2 := by
 have h1 : tgO g s = true := by unfold tgO; rw [h, e]; simp
 refine ⟨h1, ?_⟩
 unfold tgT
 rw [h1, if_pos rfl, e, Int.toNat_natCast, List.getD_eq_getElem?_getD, eo]
 rfl
theorem plcI_lt {ls : List Ln} {t p : Int} (h : 0 ≤ plcI ls t p) : ∃ (k : Nat) (x : Ln), plcI ls t p = (k : Int) ∧ ls[k]? = some x ∧ fits t p x = true := by
 unfold plcI at h ⊢
 cases e : plc ls t p with
 | none => rw [e] at h; simp at h
 | some i =>
  unfold plc at e
  obtain ⟨hi, h1, _⟩ := List.findIdx?_eq_some_iff_getElem.1 e
  exact ⟨i, ls[i], rfl, List.getElem?_eq_getElem hi, h1⟩
end Go.Proofs.YtibpnlojlfcpmaaGreatDoor
