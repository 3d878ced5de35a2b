/- A part of the proofs of this seat: Eq, L3. -/
import Derived.Test.YtibpnlojlfcpmaaGreatDoorBPlain
set_option linter.unusedVariables false
set_option linter.unusedSimpArgs false
set_option maxRecDepth 1000000
namespace Go.Proofs.YtibpnlojlfcpmaaGreatDoor
open Go.RowKit
theorem four_of {α β : Type} {f : α → β} {l : List α} {x y z u : β} (h : l.map f = [x, y, z, u]) : ∃ a b c d, l = [a, b, c, d] ∧ f a = x ∧ f b = y ∧ f c = z ∧ f d = u := by
 match l, h with
 | [a, b, c, d], h => simp at h; exact ⟨a, b, c, d, rfl, h.1, h.2.1, h.2.2.1, h.2.2.2⟩
abbrev frV (f : Fr) : Value := .agg #[.bool f.used, .int .i64 f.s, .int .i64 f.p, .int .i64 f.r, .int .i64 f.n]
theorem eqIn_key (e : Nat) (a b c d : Int) (w : World) : (Op.equalIn (e + 2) 61 (.agg #[.int .i64 a, .int .i64 b]) (.agg #[.int .i64 c, .int .i64 d])).run Tryz.prog w = .ok (keq a b c d) w := by
 have hu : Tryz.prog.underlying 61 = some (.struct (Tryz.prog.fieldsOf 61)) := by kernel_rfl
 have hp : Tryz.prog.stoodInHeld 61 = false := by kernel_rfl
 have hf : (Tryz.prog.fieldsOf 61).toList.map (fun f => (f.name, f.type, f.offset)) = [("Space", 3, 0), ("Page", 3, 1)] := by kernel_rfl
 rw [run_equalIn_struct w (e + 1) _ _ _ hu hp]
 obtain ⟨f, g, hl, h1, h2⟩ := two_of hf
 rw [hl]
 simp only [Prod.mk.injEq] at h1 h2
 obtain ⟨n1, t1, o1⟩ := h1
 obtain ⟨n2, t2, o2⟩ := h2
 simp [Op.eqFields, n1, t1, o1, n2, t2, o2, part, run_equalIn_int, Tryz.underlying3, go_sem, keq]
 by_cases e1 : a = c <;> by_cases e2 : b = d <;> simp [e1, e2]
theorem eqIn_fr (e : Nat) (f g : Fr) (w : World) : (Op.equalIn (e + 3) 66 (frV f) (frV g)).run Tryz.prog w = .ok (decide (f = g)) w := by
 have hu : Tryz.prog.underlying 66 = some (.struct (Tryz.prog.fieldsOf 66)) := by kernel_rfl
 have hp : Tryz.prog.stoodInHeld 66 = false := by kernel_rfl
 have hf : (Tryz.prog.fieldsOf 66).toList.map (fun f => (f.name, f.type, f.offset)) = [("Used", 4, 0), ("Key", 61, 1), ("Rights", 3, 3), ("Next", 3, 4)] := by kernel_rfl
 have hk : Tryz.prog.underlying 61 = some (.struct (Tryz.prog.fieldsOf 61)) := by kernel_rfl
 have hc : Tryz.prog.cellsOf 61 = 2 := by kernel_rfl
 show (Op.equalIn (e + 2 + 1) 66 (.agg _) (.agg _)).run Tryz.prog w = _
 rw [run_equalIn_struct w (e + 2) _ _ _ hu hp]
 obtain ⟨f1, f2, f3, f4, hl, h1, h2, h3, h4⟩ := four_of hf
 rw [hl]
 simp only [Prod.mk.injEq] at h1 h2 h3 h4
 obtain ⟨n1, t1, o1⟩ := h1
 obtain ⟨n2, t2, o2⟩ := h2
 obtain ⟨n3, t3, o3⟩ := h3
 obtain ⟨n4, t4, o4⟩ := h4
 obtain ⟨fu, fs, fp, frr, fn⟩ := f
 obtain ⟨gu, gs, gp, grr, gn⟩ := g
 simp [Op.eqFields, n1, t1, o1, n2, t2, o2, n3, t3, o3, n4, t4, o4, part, run_equalIn_int, run_equalIn_bool, eqIn_key, Tryz.underlying3, Tryz.underlying4, go_sem]
 unfold keq
 by_cases e1 : fu = gu <;> by_cases e2 : fs = gs <;> by_cases e3 : fp = gp <;> by_cases e4 : frr = grr <;> by_cases e5 : fn = gn <;> simp [e1, e2, e3, e4, e5]
theorem eql_of {t : TypeId} {a b : Array Value} {r : Bool} (h : ∀ (e : Nat) (w : World), (Op.equalIn (e + 3) t (.agg a) (.agg b)).run Tryz.prog w = .ok r w) (w : World) : (binOp .eql t (.agg a) (.agg b)).run Tryz.prog w = .ok (.bool r) w := by
 simp only [binOp]
 simp [Op.equal, Op.maxDepth, h 9997]
theorem neq_of {t : TypeId} {a b : Array Value} {r : Bool} (h : ∀ (e : Nat) (w : World), (Op.equalIn (e + 3) t (.agg a) (.agg b)).run Tryz.prog w = .ok r w) (w : World) : (binOp .neq t (.agg a) (.agg b)).run Tryz.prog w = .ok (.bool !r) w := by
 simp only [binOp]
 simp [Op.equal, Op.maxDepth, h 9997]
theorem eql_fr (f g : Fr) (w : World) : (binOp .eql 66 (frV f) (frV g)).run Tryz.prog w = .ok (.bool (decide (f = g))) w := eql_of (fun e w => eqIn_fr e f g w) w
theorem neq_fr (f g : Fr) (w : World) : (binOp .neq 66 (frV f) (frV g)).run Tryz.prog w = .ok (.bool !(decide (f = g))) w := neq_of (fun e w => eqIn_fr e f g w) w
theorem six_of {α β : Type} {f : α → β} {l : List α} {x y z u v s : β} (h : l.map f = [x, y, z, u, v, s]) : ∃ a b c d e g, l = [a, b, c, d, e, g] ∧ f a = x ∧ f b = y ∧ f c = z ∧ f d = u ∧ f e = v ∧ f g = s := by
 match l, h with
 | [a, b, c, d, e, g], h => simp at h; exact ⟨a, b, c, d, e, g, rfl, h.1, h.2.1, h.2.2.1, h.2.2.2.1, h.2.2.2.2.1, h.2.2.2.2.2⟩
abbrev lnV (x : Ln) : Value := .agg #[.bool x.v, .int .i64 x.t, .int .i64 x.p, .int .i64 x.f, .int .i64 x.r, .bool x.w]
theorem eqIn_ln (e : Nat) (x y : Ln) (w : World) : (Op.equalIn (e + 3) 129 (lnV x) (lnV y)).run Tryz.prog w = .ok (decide (x = y)) w := by
 have hu : Tryz.prog.underlying 129 = some (.struct (Tryz.prog.fieldsOf 129)) := by kernel_rfl
 have hp : Tryz.prog.stoodInHeld 129 = false := by kernel_rfl
 have hf : (Tryz.prog.fieldsOf 129).toList.map (fun f => (f.name, f.type, f.offset)) = [("Valid", 4, 0), ("Tag", 3, 1), ("Page", 3, 2), ("Frame", 3, 3), ("Rights", 3, 4), ("Wired", 4, 5)] := by kernel_rfl
 show (Op.equalIn (e + 2 + 1) 129 (.agg _) (.agg _)).run Tryz.prog w = _
 rw [run_equalIn_struct w (e + 2) _ _ _ hu hp]
 obtain ⟨f1, f2, f3, f4, f5, f6, hl, h1, h2, h3, h4, h5, h6⟩ := six_of hf
 rw [hl]
 simp only [Prod.mk.injEq] at h1 h2 h3 h4 h5 h6
 obtain ⟨n1, t1, o1⟩ := h1
 obtain ⟨n2, t2, o2⟩ := h2
 obtain ⟨n3, t3, o3⟩ := h3
 obtain ⟨n4, t4, o4⟩ := h4
 obtain ⟨n5, t5, o5⟩ := h5
 obtain ⟨n6, t6, o6⟩ := h6
 obtain ⟨a1, a2, a3, a4, a5, a6⟩ := x
 obtain ⟨b1, b2, b3, b4, b5, b6⟩ := y
 simp [Op.eqFields, n1, t1, o1, n2, t2, o2, n3, t3, o3, n4, t4, o4, n5, t5, o5, n6, t6, o6, part, run_equalIn_int, run_equalIn_bool, Tryz.underlying3, Tryz.underlying4, go_sem]
 by_cases e1 : a1 = b1 <;> by_cases e2 : a2 = b2 <;> by_cases e3 : a3 = b3 <;> by_cases e4 : a4 = b4 <;> by_cases e5 : a5 = b5 <;> by_cases e6 : a6 = b6 <;> simp [e1, e2, e3, e4, e5, e6]
theorem eql_ln (f g : Ln) (w : World) : (binOp .eql 129 (lnV f) (lnV g)).run Tryz.prog w = .ok (.bool (decide (f = g))) w := eql_of (fun e w => eqIn_ln e f g w) w
set_option maxHeartbeats 1000000 in
theorem l3Frame_any (f : Fr) (w : World) : Calls Tryz.prog 192 #[frV f] w fun r w' => r = .returned (.bool (frok f)) ∧ Below w.heap.size w w' := by
 obtain ⟨u, s, p, r, n⟩ := f
 cases u with
 | false =>
  have he : ∀ W, (binOp .eql 66 (.agg #[.bool false, .int .i64 s, .int .i64 p, .int .i64 r, .int .i64 n]) (.agg #[.bool false, .int .i64 0, .int .i64 0, .int .i64 0, .int .i64 (-1)])).run Tryz.prog W = .ok (.bool (frok ⟨false, s, p, r, n⟩)) W := fun W => eql_fr ⟨false, s, p, r, n⟩ frz W
  simp only [frV]
  generalize frok ⟨false, s, p, r, n⟩ = B at he ⊢
  go_enter Tryz.func192, Tryz.ntmps192
  go_wp2
  go_ret
  exact ⟨rfl, by repeat first | exact bR | refine bA ?_⟩
 | true =>
  have H : Hid (frok ⟨true, s, p, r, n⟩ = (kval (s, p) && inR r 8)) := rfl
  by_cases hk : kval (s, p) = true
  ·simp only [frV]
   go_enter Tryz.func192, Tryz.ntmps192
   go_wp2_with fail
   refine (sKeyValid_any _ _ _).mono ?_
   rintro e w1 ⟨rfl, hb1⟩
   obtain ⟨ob, hbw⟩ := one_box hb1
   have q3 := ob.cell_ 3 (v := .int .i64 r) rfl
   rw [hk]
   go_wp2_with (go_at_call 119; refine (sRightsValid_any _ _).mono ?_; rintro e w' ⟨rfl, rfl⟩)
   go_ret
   exact ⟨by rw [H.out, hk]; rfl, hbw⟩
  ·have hk := bool_ff hk
   simp only [frV]
   go_enter Tryz.func192, Tryz.ntmps192
   go_wp2_with fail
   refine (sKeyValid_any _ _ _).mono ?_
   rintro e w1 ⟨rfl, hb1⟩
   obtain ⟨ob, hbw⟩ := one_box hb1
   rw [hk]
   go_wp2
   go_ret
   exact ⟨by rw [H.out, hk]; rfl, hbw⟩
def lenV : Value → Nat
 | .slice _ n _ => n
 | _ => 0
theorem own_other {w w' : World} {g : Nat} {t : TypeId} {cs : Array Value} {r : Option Nat} (h : Own w g t cs) (hg : w.grownBy w' r) (hne : some g ≠ r) : Own w' g t cs := (hg.block g h.lt hne).trans h
def ints (l : List Nat) : List Int := l.map (fun i => Int.ofNat i)
theorem ints_append (a b : List Nat) : ints (a ++ b) = ints a ++ ints b := List.map_append
theorem ints_length (a : List Nat) : (ints a).length = a.length := List.length_map _
theorem ints_get {a : List Nat} {k j : Nat} (h : a[k]? = some j) : (ints a)[k]? = some (j : Int) := by unfold ints; rw [List.getElem?_map, h]; rfl
def ChSt (t : Tab) (b : Nat) (pre : List Nat) (i : Int) : Prop := bch t b = (chn t.fs (t.fs.length - pre.length) i).map (pre ++ ·)
theorem chst_end {t : Tab} {b : Nat} {pre : List Nat} (h : ChSt t b pre (-1)) : bch t b = some pre := by
 unfold ChSt at h
 rw [h, chn_neg]
 simp
theorem chst_out {t : Tab} {b : Nat} {pre : List Nat} {i : Int} (h : ChSt t b pre i) (h1 : i ≠ -1) (h2 : ¬ (0 ≤ i ∧ i < t.fs.length)) : bch t b = none := by
 unfold ChSt at h
 rw [h, chn_out _ h1 h2]
 rfl
theorem chst_full {t : Tab} {b : Nat} {pre : List Nat} {i : Int} (h : ChSt t b pre i) (h1 : i ≠ -1) (h2 : t.fs.length ≤ pre.length) : bch t b = none := by
 unfold ChSt at h
 rw [h, show t.fs.length - pre.length = 0 by omega, chn_none0 h1]
 rfl
theorem chst_free {t : Tab} {b : Nat} {pre : List Nat} {i : Nat} {f : Fr} (h : ChSt t b pre i) (e : t.fs[i]? = some f) (hu : f.used = false) : bch t b = none := by
 unfold ChSt at h
 rw [h, chn_free _ e hu]
 rfl
theorem chst_step {t : Tab} {b : Nat} {pre : List Nat} {i : Nat} {f : Fr} (h : ChSt t b pre i) (e : t.fs[i]? = some f) (hu : f.used = true) (h2 : pre.length < t.fs.length) : ChSt t b (pre ++ [i]) f.n := by
 unfold ChSt at h ⊢
 rw [h]
 obtain ⟨m, hm⟩ : ∃ m, t.fs.length - pre.length = m + 1 := ⟨t.fs.length - pre.length - 1, by omega⟩
 rw [hm, chn_step m e hu, List.length_append, List.length_singleton, show t.fs.length - (pre.length + 1) = m by omega]
 cases chn t.fs m f.n <;> simp
theorem chst_zero {t : Tab} {b : Nat} {i : Int} (e : t.bs[b]? = some i) : ChSt t b [] i := by
 unfold ChSt
 rw [bch_of e]
 cases chn t.fs t.fs.length i <;> simp
theorem chst_in {t : Tab} {b : Nat} {pre ch : List Nat} {k : Nat} (h : ChSt t b pre k) (e : bch t b = some ch) : ∃ r, ch = pre ++ k :: r := by
 unfold ChSt at h
 rw [e] at h
 cases e2 : chn t.fs (t.fs.length - pre.length) k with
 | none => rw [e2] at h; cases h
 | some r0 =>
  rw [e2] at h
  injection h with h
  obtain ⟨j, _, _, r, h1, _, _, _, _, h2⟩ := chn_cons e2 (by omega)
  have : j = k := by omega
  subst this
  exact ⟨r, by rw [h, h2]⟩
theorem chst_twice {t : Tab} {b : Nat} {pre : List Nat} {k : Nat} (h : ChSt t b pre k) (hk : k ∈ pre) : bch t b = none := by
 cases e : bch t b with
 | none => rfl
 | some ch =>
  obtain ⟨r, hr⟩ := chst_in h e
  have hn := bch_nodup e
  rw [hr, List.nodup_append] at hn
  exact absurd rfl (hn.2.2 k hk k (by simp))
theorem chst_other {t : Tab} {b : Nat} {pre : List Nat} {k : Nat} (h : ChSt t b pre k) (hb : boks t b = true) (hk : k ∈ uni t b) : bok t b = false := by
 cases e : bch t b with
 | none => exact bok_none e
 | some ch =>
  obtain ⟨r, hr⟩ := chst_in h e
  obtain ⟨b', ch', hb', e', hm⟩ := uni_mem hk
  obtain ⟨ch2, e2, hc2⟩ := bok_parts (boks_at hb hb')
  rw [e'] at e2
  injection e2 with e2
  subst e2
  obtain ⟨f, ef, hh⟩ := hok_parts (hc2 k hm)
  exact bok_false e (by rw [hr]; simp) ef (by omega)
theorem chst_hash {t : Tab} {b : Nat} {pre : List Nat} {k : Nat} {f : Fr} (h : ChSt t b pre k) (ef : t.fs[k]? = some f) (hh : hsh f.s f.p t.bs.length ≠ b) : bok t b = false := by
 cases e : bch t b with
 | none => exact bok_none e
 | some ch =>
  obtain ⟨r, hr⟩ := chst_in h e
  exact bok_false e (by rw [hr]; simp) ef hh
set_option maxRecDepth 100000 in
set_option maxHeartbeats 2000000 in
theorem l3Chain_any (vb vf : Value) (t : Tab) (b : Nat) (w : World) (hT : TaR w vb vf t) (hb : b < t.bs.length) (hl : t.fs.length ≤ 100000) :
  Calls Tryz.prog 134 #[.agg #[vb, vf], .int .i64 b] w fun r w' => ∃ v, r = .returned (.tuple #[v, .bool (bch t b).isSome]) ∧ (∀ ch, bch t b = some ch → SlR intE w' v (ints ch)) ∧ Below w.heap.size w w' := by
 obtain ⟨Ab, cb, rfl, hbc, hbm, hB⟩ := hT.b
 obtain ⟨Af, cf, rfl, hfc, hfm, hF⟩ := hT.f
 obtain ⟨i0, ei0⟩ : ∃ i0, t.bs[b]? = some i0 := ⟨_, List.getElem?_eq_getElem hb⟩
 have H0 := Hd (chst_zero ei0)
 obtain ⟨b1, o1, rfl, hb1, c1⟩ := hB.i1 ei0
 have HF := Hd hF
 clear hF hB hT ei0
 have hbx : Own ((w.alloc (.cells #[.slice (some ⟨b1, o1, none⟩) t.bs.length cb, .slice Af t.fs.length cf] 40)).alloc (.cells #[] 3)) w.heap.size 40 #[.slice (some ⟨b1, o1, none⟩) t.bs.length cb, .slice Af t.fs.length cf] := (Own.new_ _ _ _).alloc
 have hO : ((w.alloc (.cells #[.slice (some ⟨b1, o1, none⟩) t.bs.length cb, .slice Af t.fs.length cf] 40)).alloc (.cells #[] 3)).ownsRow (w.heap.size + 1) 3 1 (.slice (some ⟨w.heap.size + 1, 0, none⟩) 0 0) 0 (intE.cells (ints [])) := by
  have h := World.ownsRow_made (base := w.heap.size + 1) (e := 3) (size := 1) (w.alloc (.cells #[.slice (some ⟨b1, o1, none⟩) t.bs.length cb, .slice Af t.fs.length cf] 40)) #[] 0 (by simp) (by simp [maxLen]) rfl
  simpa [Enc.cells, ints] using h
 have HBX := Hd hbx
 have HO := Hd hO
 have hb0 : Below w.heap.size w ((w.alloc (.cells #[.slice (some ⟨b1, o1, none⟩) t.bs.length cb, .slice Af t.fs.length cf] 40)).alloc (.cells #[] 3)) := bA (bA bR)
 clear hbx hO
 go_enter Tryz.func134, Tryz.ntmps134
 go_wp2
 clear c1
 go_loopw [6, 7] (fun v u wr => ∃ (pre : List Nat) (i : Int), u = .int .i64 i ∧ pre.length ≤ t.fs.length ∧ Hid (ChSt t b pre i) ∧ wr.ownsRow (w.heap.size + 1) 3 1 v pre.length (intE.cells (ints pre)) ∧ Own wr w.heap.size 40 #[.slice (some ⟨b1, o1, none⟩) t.bs.length cb, .slice Af t.fs.length cf] ∧ Below w.heap.size w wr) (fun v _ _ => t.fs.length - lenV v)
 case atStart => exact ⟨[], i0, rfl, by simp, H0, HO.out, HBX.out, hb0⟩
 case round =>
  obtain ⟨pre, i, rfl, hpl, hst, hown, hbox, hb'⟩ := hrel
  obtain ⟨Ao, co, rfl, hoc, hom, hro⟩ := rs_own (E := intE) (l := ints pre) (ints_length pre).symm hown
  rw [ints_length] at *
  have q0 := hbox.cell_ 0 (v := .slice (some ⟨b1, o1, none⟩) t.bs.length cb) rfl
  have q1 := hbox.cell_ 1 (v := .slice Af t.fs.length cf) rfl
  have hbl := hbox.lt
  have HBOX := Hd hbox
  have HOWN := Hd hown
  clear hbox hown
  by_cases h1 : i = -1
  ·subst h1
   have HE := Hd (chst_end hst.out)
   have HR : Hid (SlR intE wr (.slice Ao pre.length co) (ints pre)) := ⟨Ao, co, by rw [ints_length], by rw [ints_length]; exact hoc, hom, hro⟩
   go_wp2
   go_ret2
   rw [HE.out]
   exact ⟨_, rfl, (fun ch h => by injection h with h; subst h; exact HR.out), hb'⟩
  ·have g1 : (i == -1) = false := by rw [beq_eq_false_iff_ne]; exact h1
   by_cases h2 : 0 ≤ i ∧ i < t.fs.length
   ·obtain ⟨h3, h4⟩ := h2
    obtain ⟨k, rfl⟩ := Int.eq_ofNat_of_zero_le h3
    have g2 : ¬ (k : Int) < 0 := by omega
    have g3 : ¬ (t.fs.length : Int) ≤ (k : Int) := by omega
    by_cases h5 : pre.length < t.fs.length
    ·have g4 : ¬ (t.fs.length : Int) ≤ (pre.length : Int) := by omega
     obtain ⟨f, ef⟩ : ∃ f, t.fs[k]? = some f := ⟨_, List.getElem?_eq_getElem (by omega)⟩
     obtain ⟨b2, o2, rfl, hb2, d0, d1, d2, d3, d4⟩ := (HF.out.below hb').fr ef
     by_cases hu : f.used = true
     ·rw [hu] at d0
      have HST := Hd (chst_step hst.out ef hu h5)
      obtain ⟨v4, w4, hrun, hown4, hg4, _⟩ := run_append_i (w.heap.size + 1) wr _ pre.length (ints pre) (k : Int) HOWN.out (ints_length pre) (by omega) (by omega)
      have hb4 := bG (bA hb' (o := .cells #[.int .i64 (k : Int)] 3)) hg4 (fun x hx => by have := own_block HOWN.out x hx; omega)
      have hne : ∀ k, k ≤ w.heap.size → some k ≠ Value.ownBlock (.slice Ao pre.length co) := fun k hk e => by have := own_block HOWN.out k e.symm; omega
      have hd4 : w4.cell? ⟨b2, o2 + k * 5 + 4, none⟩ = some (.int .i64 f.n) := hg4.cell (a := ⟨b2, o2 + k * 5 + 4, none⟩) (((bA (bR (w := wr))).cell (p := ⟨b2, o2 + k * 5 + 4, none⟩) (by have := hb'.size; show b2 < _; omega)).trans d4) (hne b2 (by have := hb'.size; omega))
      have hbox4 := own_other (HBOX.out.alloc (o := .cells #[.int .i64 (k : Int)] 3)) hg4 (hne _ (Nat.le_refl _))
      rw [show ints pre ++ [(k : Int)] = ints (pre ++ [k]) by rw [ints_append]; rfl] at hown4
      obtain ⟨A4, c4, rfl, _, _, _⟩ := own_rd hown4
      have y1 := hbox4.cell_ 1 (v := .slice (some ⟨b2, o2, none⟩) t.fs.length cf) rfl
      have HB4 := Hd hbox4
      have HO4 := Hd hown4
      clear hown4 hbox4 hg4 hne
      go_wp2_with (at_builtin; refine wpList_append_run _ rfl (.tmp 43) (.tmp 45) 22 rfl _ _ _ _ rfl rfl hrun ?_)
      go_roundw
      case rel => exact ⟨pre ++ [k], f.n, rfl, by simp; omega, HST, by simpa using HO4.out, HB4.out, hb4⟩
      case measure => simp [lenV]; omega
     ·have hu := bool_ff hu
      rw [hu] at d0
      have HE : Hid (bch t b = none) := chst_free hst.out ef hu
      go_wp2
      go_ret2
      rw [HE.out]
      exact ⟨_, rfl, (fun _ h => by cases h), hb'⟩
    ·have g4 : (t.fs.length : Int) ≤ (pre.length : Int) := by omega
     have HE : Hid (bch t b = none) := chst_full hst.out h1 (by omega)
     go_wp2
     go_ret2
     rw [HE.out]
     exact ⟨_, rfl, (fun _ h => by cases h), hb'⟩
   ·by_cases h3 : i < 0
    ·have HE : Hid (bch t b = none) := chst_out hst.out h1 h2
     go_wp2
     go_ret2
     rw [HE.out]
     exact ⟨_, rfl, (fun _ h => by cases h), hb'⟩
    ·have g2 : (t.fs.length : Int) ≤ i := by omega
     have HE : Hid (bch t b = none) := chst_out hst.out h1 h2
     go_wp2
     go_ret2
     rw [HE.out]
     exact ⟨_, rfl, (fun _ h => by cases h), hb'⟩
end Go.Proofs.YtibpnlojlfcpmaaGreatDoor
