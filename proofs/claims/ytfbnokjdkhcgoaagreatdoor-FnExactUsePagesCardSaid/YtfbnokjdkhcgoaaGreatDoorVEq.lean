/- A part of the proofs of this seat: Eq, L3, TV. -/
import Derived.Test.YtfbnokjdkhcgoaaGreatDoorVPlain
set_option linter.unusedVariables false
set_option linter.unusedSimpArgs false
set_option maxRecDepth 1000000
namespace Go.Proofs.YtfbnokjdkhcgoaaGreatDoor
open Go.RowKit
theorem four_of {α β : Type} {f : α → β} {l : List α} {x y z u : β} (h : l.map f = [x, y, z, u]) : ∃ a b c d, l = [a, b, c, d] ∧ f a = x ∧ f b = y ∧ f c = z ∧ f d = u := by
 match l, h with
 | [a, b, c, d], h => simp at h; exact ⟨a, b, c, d, rfl, h.1, h.2.1, h.2.2.1, h.2.2.2⟩
abbrev frV (f : Fr) : Value := .agg #[.bool f.used, .int .i64 f.s, .int .i64 f.p, .int .i64 f.r, .int .i64 f.n]
theorem eqIn_key (e : Nat) (a b c d : Int) (w : World) : (Op.equalIn (e + 2) 54 (.agg #[.int .i64 a, .int .i64 b]) (.agg #[.int .i64 c, .int .i64 d])).run Tryz.prog w = .ok (keq a b c d) w := by
 have hu : Tryz.prog.underlying 54 = some (.struct (Tryz.prog.fieldsOf 54)) := by kernel_rfl
 have hp : Tryz.prog.stoodInHeld 54 = false := by kernel_rfl
 have hf : (Tryz.prog.fieldsOf 54).toList.map (fun f => (f.name, f.type, f.offset)) = [("Space", 3, 0), ("Page", 3, 1)] := by kernel_rfl
 rw [run_equalIn_struct w (e + 1) _ _ _ hu hp]
 obtain ⟨f, g, hl, h1, h2⟩ := two_of hf
 rw [hl]
 simp only [Prod.mk.injEq] at h1 h2
 obtain ⟨n1, t1, o1⟩ := h1
 obtain ⟨n2, t2, o2⟩ := h2
 simp [Op.eqFields, n1, t1, o1, n2, t2, o2, part, run_equalIn_int, Tryz.underlying3, go_sem, keq]
 by_cases e1 : a = c <;> by_cases e2 : b = d <;> simp [e1, e2]
theorem eqIn_fr (e : Nat) (f g : Fr) (w : World) : (Op.equalIn (e + 3) 80 (frV f) (frV g)).run Tryz.prog w = .ok (decide (f = g)) w := by
 have hu : Tryz.prog.underlying 80 = some (.struct (Tryz.prog.fieldsOf 80)) := by kernel_rfl
 have hp : Tryz.prog.stoodInHeld 80 = false := by kernel_rfl
 have hf : (Tryz.prog.fieldsOf 80).toList.map (fun f => (f.name, f.type, f.offset)) = [("Used", 4, 0), ("Key", 54, 1), ("Rights", 3, 3), ("Next", 3, 4)] := by kernel_rfl
 have hk : Tryz.prog.underlying 54 = some (.struct (Tryz.prog.fieldsOf 54)) := by kernel_rfl
 have hc : Tryz.prog.cellsOf 54 = 2 := by kernel_rfl
 show (Op.equalIn (e + 2 + 1) 80 (.agg _) (.agg _)).run Tryz.prog w = _
 rw [run_equalIn_struct w (e + 2) _ _ _ hu hp]
 obtain ⟨f1, f2, f3, f4, hl, h1, h2, h3, h4⟩ := four_of hf
 rw [hl]
 simp only [Prod.mk.injEq] at h1 h2 h3 h4
 obtain ⟨n1, t1, o1⟩ := h1
 obtain ⟨n2, t2, o2⟩ := h2
 obtain ⟨n3, t3, o3⟩ := h3
 obtain ⟨n4, t4, o4⟩ := h4
 obtain ⟨fu, fs, fp, frr, fn⟩ := f
 obtain ⟨gu, gs, gp, grr, gn⟩ := g
 simp [Op.eqFields, n1, t1, o1, n2, t2, o2, n3, t3, o3, n4, t4, o4, part, run_equalIn_int, run_equalIn_bool, eqIn_key, Tryz.underlying3, Tryz.underlying4, go_sem]
 unfold keq
 by_cases e1 : fu = gu <;> by_cases e2 : fs = gs <;> by_cases e3 : fp = gp <;> by_cases e4 : frr = grr <;> by_cases e5 : fn = gn <;> simp [e1, e2, e3, e4, e5]
theorem eql_of {t : TypeId} {a b : Array Value} {r : Bool} (h : ∀ (e : Nat) (w : World), (Op.equalIn (e + 3) t (.agg a) (.agg b)).run Tryz.prog w = .ok r w) (w : World) : (binOp .eql t (.agg a) (.agg b)).run Tryz.prog w = .ok (.bool r) w := by
 simp only [binOp]
 simp [Op.equal, Op.maxDepth, h 9997]
theorem neq_of {t : TypeId} {a b : Array Value} {r : Bool} (h : ∀ (e : Nat) (w : World), (Op.equalIn (e + 3) t (.agg a) (.agg b)).run Tryz.prog w = .ok r w) (w : World) : (binOp .neq t (.agg a) (.agg b)).run Tryz.prog w = .ok (.bool !r) w := by
 simp only [binOp]
 simp [Op.equal, Op.maxDepth, h 9997]
theorem eql_fr (f g : Fr) (w : World) : (binOp .eql 80 (frV f) (frV g)).run Tryz.prog w = .ok (.bool (decide (f = g))) w := eql_of (fun e w => eqIn_fr e f g w) w
theorem neq_fr (f g : Fr) (w : World) : (binOp .neq 80 (frV f) (frV g)).run Tryz.prog w = .ok (.bool !(decide (f = g))) w := neq_of (fun e w => eqIn_fr e f g w) w
theorem six_of {α β : Type} {f : α → β} {l : List α} {x y z u v s : β} (h : l.map f = [x, y, z, u, v, s]) : ∃ a b c d e g, l = [a, b, c, d, e, g] ∧ f a = x ∧ f b = y ∧ f c = z ∧ f d = u ∧ f e = v ∧ f g = s := by
 match l, h with
 | [a, b, c, d, e, g], h => simp at h; exact ⟨a, b, c, d, e, g, rfl, h.1, h.2.1, h.2.2.1, h.2.2.2.1, h.2.2.2.2.1, h.2.2.2.2.2⟩
abbrev lnV (x : Ln) : Value := .agg #[.bool x.v, .int .i64 x.t, .int .i64 x.p, .int .i64 x.f, .int .i64 x.r, .bool x.w]
theorem eqIn_ln (e : Nat) (x y : Ln) (w : World) : (Op.equalIn (e + 3) 50 (lnV x) (lnV y)).run Tryz.prog w = .ok (decide (x = y)) w := by
 have hu : Tryz.prog.underlying 50 = some (.struct (Tryz.prog.fieldsOf 50)) := by kernel_rfl
 have hp : Tryz.prog.stoodInHeld 50 = false := by kernel_rfl
 have hf : (Tryz.prog.fieldsOf 50).toList.map (fun f => (f.name, f.type, f.offset)) = [("Valid", 4, 0), ("Tag", 3, 1), ("Page", 3, 2), ("Frame", 3, 3), ("Rights", 3, 4), ("Wired", 4, 5)] := by kernel_rfl
 show (Op.equalIn (e + 2 + 1) 50 (.agg _) (.agg _)).run Tryz.prog w = _
 rw [run_equalIn_struct w (e + 2) _ _ _ hu hp]
 obtain ⟨f1, f2, f3, f4, f5, f6, hl, h1, h2, h3, h4, h5, h6⟩ := six_of hf
 rw [hl]
 simp only [Prod.mk.injEq] at h1 h2 h3 h4 h5 h6
 obtain ⟨n1, t1, o1⟩ := h1
 obtain ⟨n2, t2, o2⟩ := h2
 obtain ⟨n3, t3, o3⟩ := h3
 obtain ⟨n4, t4, o4⟩ := h4
 obtain ⟨n5, t5, o5⟩ := h5
 obtain ⟨n6, t6, o6⟩ := h6
 obtain ⟨a1, a2, a3, a4, a5, a6⟩ := x
 obtain ⟨b1, b2, b3, b4, b5, b6⟩ := y
 simp [Op.eqFields, n1, t1, o1, n2, t2, o2, n3, t3, o3, n4, t4, o4, n5, t5, o5, n6, t6, o6, part, run_equalIn_int, run_equalIn_bool, Tryz.underlying3, Tryz.underlying4, go_sem]
 by_cases e1 : a1 = b1 <;> by_cases e2 : a2 = b2 <;> by_cases e3 : a3 = b3 <;> by_cases e4 : a4 = b4 <;> by_cases e5 : a5 = b5 <;> by_cases e6 : a6 = b6 <;> simp [e1, e2, e3, e4, e5, e6]
theorem eql_ln (f g : Ln) (w : World) : (binOp .eql 50 (lnV f) (lnV g)).run Tryz.prog w = .ok (.bool (decide (f = g))) w := eql_of (fun e w => eqIn_ln e f g w) w
set_option maxHeartbeats 1000000 in
theorem l3Frame_any (f : Fr) (w : World) : Calls Tryz.prog 196 #[frV f] w fun r w' => r = .returned (.bool (frok f)) ∧ Below w.heap.size w w' := by
 obtain ⟨u, s, p, r, n⟩ := f
 cases u with
 | false =>
  have he : ∀ W, (binOp .eql 80 (.agg #[.bool false, .int .i64 s, .int .i64 p, .int .i64 r, .int .i64 n]) (.agg #[.bool false, .int .i64 0, .int .i64 0, .int .i64 0, .int .i64 (-1)])).run Tryz.prog W = .ok (.bool (frok ⟨false, s, p, r, n⟩)) W := fun W => eql_fr ⟨false, s, p, r, n⟩ frz W
  simp only [frV]
  generalize frok ⟨false, s, p, r, n⟩ = B at he ⊢
  go_enter Tryz.func196, Tryz.ntmps196
  go_wp2
  go_ret
  exact ⟨rfl, by repeat first | exact bR | refine bA ?_⟩
 | true =>
  have H : Hid (frok ⟨true, s, p, r, n⟩ = (kval (s, p) && inR r 8)) := rfl
  by_cases hk : kval (s, p) = true
  ·simp only [frV]
   go_enter Tryz.func196, Tryz.ntmps196
   go_wp2_with fail
   refine (sKeyValid_any _ _ _).mono ?_
   rintro e w1 ⟨rfl, hb1⟩
   obtain ⟨ob, hbw⟩ := one_box hb1
   have q3 := ob.cell_ 3 (v := .int .i64 r) rfl
   rw [hk]
   go_wp2_with (go_at_call 49; refine (sRightsValid_any _ _).mono ?_; rintro e w' ⟨rfl, rfl⟩)
   go_ret
   exact ⟨by rw [H.out, hk]; rfl, hbw⟩
  ·have hk := bool_ff hk
   simp only [frV]
   go_enter Tryz.func196, Tryz.ntmps196
   go_wp2_with fail
   refine (sKeyValid_any _ _ _).mono ?_
   rintro e w1 ⟨rfl, hb1⟩
   obtain ⟨ob, hbw⟩ := one_box hb1
   rw [hk]
   go_wp2
   go_ret
   exact ⟨by rw [H.out, hk]; rfl, hbw⟩
def lenV : Value → Nat
 | .slice _ n _ => n
 | _ => 0
theorem own_other {w w' : World} {g : Nat} {t : TypeId} {cs : Array Value} {r : Option Nat} (h : Own w g t cs) (hg : w.grownBy w' r) (hne : some g ≠ r) : Own w' g t cs := (hg.block g h.lt hne).trans h
def ints (l : List Nat) : List Int := l.map (fun i => Int.ofNat i)
theorem ints_append (a b : List Nat) : ints (a ++ b) = ints a ++ ints b := List.map_append
theorem ints_length (a : List Nat) : (ints a).length = a.length := List.length_map _
theorem ints_get {a : List Nat} {k j : Nat} (h : a[k]? = some j) : (ints a)[k]? = some (j : Int) := by unfold ints; rw [List.getElem?_map, h]; rfl
def ChSt (t : Tab) (b : Nat) (pre : List Nat) (i : Int) : Prop := bch t b = (chn t.fs (t.fs.length - pre.length) i).map (pre ++ ·)
theorem chst_end {t : Tab} {b : Nat} {pre : List Nat} (h : ChSt t b pre (-1)) : bch t b = some pre := by
 unfold ChSt at h
 rw [h, chn_neg]
 simp
theorem chst_out {t : Tab} {b : Nat} {pre : List Nat} {i : Int} (h : ChSt t b pre i) (h1 : i ≠ -1) (h2 : ¬ (0 ≤ i ∧ i < t.fs.length)) : bch t b = none := by
 unfold ChSt at h
 rw [h, chn_out _ h1 h2]
 rfl
theorem chst_full {t : Tab} {b : Nat} {pre : List Nat} {i : Int} (h : ChSt t b pre i) (h1 : i ≠ -1) (h2 : t.fs.length ≤ pre.length) : bch t b = none := by
 unfold ChSt at h
 rw [h, show t.fs.length - pre.length = 0 by omega, chn_none0 h1]
 rfl
theorem chst_free {t : Tab} {b : Nat} {pre : List Nat} {i : Nat} {f : Fr} (h : ChSt t b pre i) (e : t.fs[i]? = some f) (hu : f.used = false) : bch t b = none := by
 unfold ChSt at h
 rw [h, chn_free _ e hu]
 rfl
theorem chst_step {t : Tab} {b : Nat} {pre : List Nat} {i : Nat} {f : Fr} (h : ChSt t b pre i) (e : t.fs[i]? = some f) (hu : f.used = true) (h2 : pre.length < t.fs.length) : ChSt t b (pre ++ [i]) f.n := by
 unfold ChSt at h ⊢
 rw [h]
 obtain ⟨m, hm⟩ : ∃ m, t.fs.length - pre.length = m + 1 := ⟨t.fs.length - pre.length - 1, by omega⟩
 rw [hm, chn_step m e hu, List.length_append, List.length_singleton, show t.fs.length - (pre.length + 1) = m by omega]
 cases chn t.fs m f.n <;> simp
theorem chst_zero {t : Tab} {b : Nat} {i : Int} (e : t.bs[b]? = some i) : ChSt t b [] i := by
 unfold ChSt
 rw [bch_of e]
 cases chn t.fs t.fs.length i <;> simp
theorem chst_in {t : Tab} {b : Nat} {pre ch : List Nat} {k : Nat} (h : ChSt t b pre k) (e : bch t b = some ch) : ∃ r, ch = pre ++ k :: r := by
 unfold ChSt at h
 rw [e] at h
 cases e2 : chn t.fs (t.fs.length - pre.length) k with
 | none => rw [e2] at h; cases h
 | some r0 =>
  rw [e2] at h
  injection h with h
  obtain ⟨j, _, _, r, h1, _, _, _, _, h2⟩ := chn_cons e2 (by omega)
  have : j = k := by omega
  subst this
  exact ⟨r, by rw [h, h2]⟩
theorem chst_twice {t : Tab} {b : Nat} {pre : List Nat} {k : Nat} (h : ChSt t b pre k) (hk : k ∈ pre) : bch t b = none := by
 cases e : bch t b with
 | none => rfl
 | some ch =>
  obtain ⟨r, hr⟩ := chst_in h e
  have hn := bch_nodup e
  rw [hr, List.nodup_append] at hn
  exact absurd rfl (hn.2.2 k hk k (by simp))
theorem chst_other {t : Tab} {b : Nat} {pre : List Nat} {k : Nat} (h : ChSt t b pre k) (hb : boks t b = true) (hk : k ∈ uni t b) : bok t b = false := by
 cases e : bch t b with
 | none => exact bok_none e
 | some ch =>
  obtain ⟨r, hr⟩ := chst_in h e
  obtain ⟨b', ch', hb', e', hm⟩ := uni_mem hk
  obtain ⟨ch2, e2, hc2⟩ := bok_parts (boks_at hb hb')
  rw [e'] at e2
  injection e2 with e2
  subst e2
  obtain ⟨f, ef, hh⟩ := hok_parts (hc2 k hm)
  exact bok_false e (by rw [hr]; simp) ef (by omega)
theorem chst_hash {t : Tab} {b : Nat} {pre : List Nat} {k : Nat} {f : Fr} (h : ChSt t b pre k) (ef : t.fs[k]? = some f) (hh : hsh f.s f.p t.bs.length ≠ b) : bok t b = false := by
 cases e : bch t b with
 | none => exact bok_none e
 | some ch =>
  obtain ⟨r, hr⟩ := chst_in h e
  exact bok_false e (by rw [hr]; simp) ef hh
set_option maxRecDepth 100000 in
set_option maxHeartbeats 2000000 in
theorem l3Chain_any (vb vf : Value) (t : Tab) (b : Nat) (w : World) (hT : TaR w vb vf t) (hb : b < t.bs.length) (hl : t.fs.length ≤ 100000) :
  Calls Tryz.prog 93 #[.agg #[vb, vf], .int .i64 b] w fun r w' => ∃ v, r = .returned (.tuple #[v, .bool (bch t b).isSome]) ∧ (∀ ch, bch t b = some ch → SlR intE w' v (ints ch)) ∧ Below w.heap.size w w' := by
 obtain ⟨Ab, cb, rfl, hbc, hbm, hB⟩ := hT.b
 obtain ⟨Af, cf, rfl, hfc, hfm, hF⟩ := hT.f
 obtain ⟨i0, ei0⟩ : ∃ i0, t.bs[b]? = some i0 := ⟨_, List.getElem?_eq_getElem hb⟩
 have H0 := Hd (chst_zero ei0)
 obtain ⟨b1, o1, rfl, hb1, c1⟩ := hB.i1 ei0
 have HF := Hd hF
 clear hF hB hT ei0
 have hbx : Own ((w.alloc (.cells #[.slice (some ⟨b1, o1, none⟩) t.bs.length cb, .slice Af t.fs.length cf] 26)).alloc (.cells #[] 3)) w.heap.size 26 #[.slice (some ⟨b1, o1, none⟩) t.bs.length cb, .slice Af t.fs.length cf] := (Own.new_ _ _ _).alloc
 have hO : ((w.alloc (.cells #[.slice (some ⟨b1, o1, none⟩) t.bs.length cb, .slice Af t.fs.length cf] 26)).alloc (.cells #[] 3)).ownsRow (w.heap.size + 1) 3 1 (.slice (some ⟨w.heap.size + 1, 0, none⟩) 0 0) 0 (intE.cells (ints [])) := by
  have h := World.ownsRow_made (base := w.heap.size + 1) (e := 3) (size := 1) (w.alloc (.cells #[.slice (some ⟨b1, o1, none⟩) t.bs.length cb, .slice Af t.fs.length cf] 26)) #[] 0 (by simp) (by simp [maxLen]) rfl
  simpa [Enc.cells, ints] using h
 have HBX := Hd hbx
 have HO := Hd hO
 have hb0 : Below w.heap.size w ((w.alloc (.cells #[.slice (some ⟨b1, o1, none⟩) t.bs.length cb, .slice Af t.fs.length cf] 26)).alloc (.cells #[] 3)) := bA (bA bR)
 clear hbx hO
 go_enter Tryz.func93, Tryz.ntmps93
 go_wp2
 clear c1
 go_loopw [6, 7] (fun v u wr => ∃ (pre : List Nat) (i : Int), u = .int .i64 i ∧ pre.length ≤ t.fs.length ∧ Hid (ChSt t b pre i) ∧ wr.ownsRow (w.heap.size + 1) 3 1 v pre.length (intE.cells (ints pre)) ∧ Own wr w.heap.size 26 #[.slice (some ⟨b1, o1, none⟩) t.bs.length cb, .slice Af t.fs.length cf] ∧ Below w.heap.size w wr) (fun v _ _ => t.fs.length - lenV v)
 case atStart => exact ⟨[], i0, rfl, by simp, H0, HO.out, HBX.out, hb0⟩
 case round =>
  obtain ⟨pre, i, rfl, hpl, hst, hown, hbox, hb'⟩ := hrel
  obtain ⟨Ao, co, rfl, hoc, hom, hro⟩ := rs_own (E := intE) (l := ints pre) (ints_length pre).symm hown
  rw [ints_length] at *
  have q0 := hbox.cell_ 0 (v := .slice (some ⟨b1, o1, none⟩) t.bs.length cb) rfl
  have q1 := hbox.cell_ 1 (v := .slice Af t.fs.length cf) rfl
  have hbl := hbox.lt
  have HBOX := Hd hbox
  have HOWN := Hd hown
  clear hbox hown
  by_cases h1 : i = -1
  ·subst h1
   have HE := Hd (chst_end hst.out)
   have HR : Hid (SlR intE wr (.slice Ao pre.length co) (ints pre)) := ⟨Ao, co, by rw [ints_length], by rw [ints_length]; exact hoc, hom, hro⟩
   go_wp2
   go_ret2
   rw [HE.out]
   exact ⟨_, rfl, (fun ch h => by injection h with h; subst h; exact HR.out), hb'⟩
  ·have g1 : (i == -1) = false := by rw [beq_eq_false_iff_ne]; exact h1
   by_cases h2 : 0 ≤ i ∧ i < t.fs.length
   ·obtain ⟨h3, h4⟩ := h2
    obtain ⟨k, rfl⟩ := Int.eq_ofNat_of_zero_le h3
    have g2 : ¬ (k : Int) < 0 := by omega
    have g3 : ¬ (t.fs.length : Int) ≤ (k : Int) := by omega
    by_cases h5 : pre.length < t.fs.length
    ·have g4 : ¬ (t.fs.length : Int) ≤ (pre.length : Int) := by omega
     obtain ⟨f, ef⟩ : ∃ f, t.fs[k]? = some f := ⟨_, List.getElem?_eq_getElem (by omega)⟩
     obtain ⟨b2, o2, rfl, hb2, d0, d1, d2, d3, d4⟩ := (HF.out.below hb').fr ef
     by_cases hu : f.used = true
     ·rw [hu] at d0
      have HST := Hd (chst_step hst.out ef hu h5)
      obtain ⟨v4, w4, hrun, hown4, hg4, _⟩ := run_append_i (w.heap.size + 1) wr _ pre.length (ints pre) (k : Int) HOWN.out (ints_length pre) (by omega) (by omega)
      have hb4 := bG (bA hb' (o := .cells #[.int .i64 (k : Int)] 3)) hg4 (fun x hx => by have := own_block HOWN.out x hx; omega)
      have hne : ∀ k, k ≤ w.heap.size → some k ≠ Value.ownBlock (.slice Ao pre.length co) := fun k hk e => by have := own_block HOWN.out k e.symm; omega
      have hd4 : w4.cell? ⟨b2, o2 + k * 5 + 4, none⟩ = some (.int .i64 f.n) := hg4.cell (a := ⟨b2, o2 + k * 5 + 4, none⟩) (((bA (bR (w := wr))).cell (p := ⟨b2, o2 + k * 5 + 4, none⟩) (by have := hb'.size; show b2 < _; omega)).trans d4) (hne b2 (by have := hb'.size; omega))
      have hbox4 := own_other (HBOX.out.alloc (o := .cells #[.int .i64 (k : Int)] 3)) hg4 (hne _ (Nat.le_refl _))
      rw [show ints pre ++ [(k : Int)] = ints (pre ++ [k]) by rw [ints_append]; rfl] at hown4
      obtain ⟨A4, c4, rfl, _, _, _⟩ := own_rd hown4
      have y1 := hbox4.cell_ 1 (v := .slice (some ⟨b2, o2, none⟩) t.fs.length cf) rfl
      have HB4 := Hd hbox4
      have HO4 := Hd hown4
      clear hown4 hbox4 hg4 hne
      go_wp2_with (at_builtin; refine wpList_append_run _ rfl (.tmp 43) (.tmp 45) 23 rfl _ _ _ _ rfl rfl hrun ?_)
      go_roundw
      case rel => exact ⟨pre ++ [k], f.n, rfl, by simp; omega, HST, by simpa using HO4.out, HB4.out, hb4⟩
      case measure => simp [lenV]; omega
     ·have hu := bool_ff hu
      rw [hu] at d0
      have HE : Hid (bch t b = none) := chst_free hst.out ef hu
      go_wp2
      go_ret2
      rw [HE.out]
      exact ⟨_, rfl, (fun _ h => by cases h), hb'⟩
    ·have g4 : (t.fs.length : Int) ≤ (pre.length : Int) := by omega
     have HE : Hid (bch t b = none) := chst_full hst.out h1 (by omega)
     go_wp2
     go_ret2
     rw [HE.out]
     exact ⟨_, rfl, (fun _ h => by cases h), hb'⟩
   ·by_cases h3 : i < 0
    ·have HE : Hid (bch t b = none) := chst_out hst.out h1 h2
     go_wp2
     go_ret2
     rw [HE.out]
     exact ⟨_, rfl, (fun _ h => by cases h), hb'⟩
    ·have g2 : (t.fs.length : Int) ≤ i := by omega
     have HE : Hid (bch t b = none) := chst_out hst.out h1 h2
     go_wp2
     go_ret2
     rw [HE.out]
     exact ⟨_, rfl, (fun _ h => by cases h), hb'⟩
set_option maxRecDepth 100000 in
set_option maxHeartbeats 4000000 in
theorem sTableValid_any (vb vf : Value) (t : Tab) (w : World) (hT : TaR w vb vf t) :
  Calls Tryz.prog 130 #[.agg #[vb, vf]] w fun r w' => r = .returned (.bool (tv t)) ∧ Below w.heap.size w w' := by
 have HT := Hd hT
 obtain ⟨Ab, cb, rfl, hbc, hbm, hB⟩ := hT.b
 obtain ⟨Af, cf, rfl, hfc, hfm, hF⟩ := hT.f
 have hbm2 : t.bs.length ≤ 9223372036854775807 := by unfold maxLen at hbm; omega
 have hfm2 : t.fs.length ≤ 9223372036854775807 := by unfold maxLen at hfm; omega
 have HF := Hd hF
 have hbx := Own.new_ w 26 #[.slice Ab t.bs.length cb, .slice Af t.fs.length cf]
 have hbz : Below w.heap.size w (w.alloc (.cells #[.slice Ab t.bs.length cb, .slice Af t.fs.length cf] 26)) := bA bR
 generalize hW : w.alloc (.cells #[.slice Ab t.bs.length cb, .slice Af t.fs.length cf] 26) = W0 at hbx hbz
 have q0 := hbx.cell_ 0 (v := .slice Ab t.bs.length cb) rfl
 have q1 := hbx.cell_ 1 (v := .slice Af t.fs.length cf) rfl
 have HBX := Hd hbx
 clear hB hF hbx hT hbm hfm
 by_cases h1 : t.fs.length < 1
 ·have g1 : (t.fs.length : Int) < 1 := by omega
  go_enter Tryz.func130, Tryz.ntmps130
  have HE : Hid (tv t = false) := tv_sz (by unfold tsz; simp; omega)
  go_wp2
  go_ret
  exact ⟨by rw [HE.out]; rfl, hbz⟩
 ·have g1 : ¬ (t.fs.length : Int) < 1 := by omega
  by_cases h2 : 16 < t.fs.length
  ·have g2 : (16 : Int) < (t.fs.length : Int) := by omega
   go_enter Tryz.func130, Tryz.ntmps130
   have HE : Hid (tv t = false) := tv_sz (by unfold tsz; simp; omega)
   go_wp2
   go_ret
   exact ⟨by rw [HE.out]; rfl, hbz⟩
  ·have g2 : ¬ (16 : Int) < (t.fs.length : Int) := by omega
   by_cases h3 : 1 ≤ t.bs.length ∧ t.bs.length ≤ 16
   case neg =>
    have g3 : (decide ((1 : Int) ≤ (t.bs.length : Int)) && decide ((t.bs.length : Int) ≤ 16)) = false := by
     simp; omega
    go_enter Tryz.func130, Tryz.ntmps130
    go_wp2_with fail
    refine (l2Buckets_any _ _).mono ?_
    rintro e w1 ⟨rfl, rfl⟩
    rw [g3]
    have HE : Hid (tv t = false) := tv_sz (by unfold tsz; simp; omega)
    go_wp2
    go_ret
    exact ⟨by rw [HE.out]; rfl, hbz⟩
   case pos =>
    have g3 : (decide ((1 : Int) ≤ (t.bs.length : Int)) && decide ((t.bs.length : Int) ≤ 16)) = true := by
     simp; omega
    have HSZ : Hid (tsz t = true) := by show _ = _; unfold tsz; simp; omega
    go_enter Tryz.func130, Tryz.ntmps130
    go_wp2_with fail
    refine (l2Buckets_any _ _).mono ?_
    rintro e w1 ⟨rfl, rfl⟩
    rw [g3]
    go_wp2
    clear q0 q1
    go_loopw [3, 4] (fun sv u wr => ∃ k : Nat, k ≤ t.fs.length ∧ u = .int .i64 k ∧ sv = .int .i64 (nus t.fs k) ∧ Hid (frs t.fs k = true) ∧ Own wr w.heap.size 26 #[.slice Ab t.bs.length cb, .slice Af t.fs.length cf] ∧ Below w.heap.size w wr) (fun _ u _ => t.fs.length - (intOf u).toNat)
    case atStart => exact ⟨0, by omega, rfl, rfl, rfl, HBX.out, hbz⟩
    case round =>
     clear hbz
     obtain ⟨k, hk, rfl, rfl, hfr, hbox, hbz⟩ := hrel
     have q0 := hbox.cell_ 0 (v := .slice Ab t.bs.length cb) rfl
     have q1 := hbox.cell_ 1 (v := .slice Af t.fs.length cf) rfl
     have HBOX := Hd hbox
     have hbl := hbox.lt
     clear hbox
     by_cases hlt : k < t.fs.length
     ·obtain ⟨f, ef⟩ : ∃ f, t.fs[k]? = some f := ⟨_, List.getElem?_eq_getElem hlt⟩
      obtain ⟨b2, o2, rfl, hb2, d0, d1, d2, d3, d4⟩ := (HF.out.below hbz).fr ef
      go_wp2_with fail
      refine (l3Frame_any f _).mono ?_
      rintro e w3 ⟨rfl, hb3'⟩
      have hbz3 := bT hbz hb3'
      have HBX3 := Hd (HBOX.out.below hb3')
      have hbl3 := HBX3.out.lt
      clear d0 d1 d2 d3 d4 q0 q1 hbz hbl
      have hbz := hbz3
      clear hbz3
      have q0 := HBX3.out.cell_ 0 (v := .slice Ab t.bs.length cb) rfl
      have q1 := HBX3.out.cell_ 1 (v := .slice (some ⟨b2, o2, none⟩) t.fs.length cf) rfl
      obtain ⟨b2', o2', e2, hb2', d0, d1, d2, d3, d4⟩ := (HF.out.below hbz).fr ef
      injection e2 with e2
      injection e2 with e2 e3
      subst e2 e3
      have HD0 := Hd d0
      by_cases hok : frok f = true
      case neg =>
       have hok := bool_ff hok
       rw [hok]
       have HE : Hid (tv t = false) := tv_fr ef hok
       go_wp2
       go_ret
       exact ⟨by rw [HE.out]; rfl, hbz⟩
      case pos =>
       rw [hok]
       have HN := Hd (nus_step ef)
       have hnk := nus_le t.fs k
       generalize nus t.fs k = F at *
       have HK : Hid ((f.used = true → ∀ (r : Nat) (g : Fr), r < k → t.fs[r]? = some g → g.used = true → ¬ (g.s, g.p) = (f.s, f.p)) → frs t.fs (k + 1) = true) := fun h => frs_step (f := f) hfr.out ef hok h
       have EF := Hd ef
       cases hu : f.used with
       | false =>
        have HN2 : Hid (nus t.fs (k + 1) = F) := by have h := HN.out; rw [hu] at h; exact h
        rw [hu] at d0
        clear ef hok
        go_wp2
        clear q0 q1 d0 d1 d2 d3 d4
        go_loopw [5] (fun u wi => ∃ r : Nat, r ≤ k ∧ u = .int .i64 r ∧ Below w3.heap.size w3 wi) (fun u _ => k - (intOf u).toNat)
        case atStart => exact ⟨0, by omega, rfl, bR⟩
        case round =>
         obtain ⟨r, hr, rfl, hbi⟩ := hrel
         have hboxi := HBX3.out.below hbi
         have q0 := hboxi.cell_ 0 (v := .slice Ab t.bs.length cb) rfl
         have q1 := hboxi.cell_ 1 (v := .slice (some ⟨b2, o2, none⟩) t.fs.length cf) rfl
         have hbli := hboxi.lt
         clear hboxi
         obtain ⟨b3, o3, e3, hb3, d0, d1, d2, d3, d4⟩ := (HF.out.below (bT hbz hbi)).fr EF.out
         injection e3 with e3
         injection e3 with e3 e5
         subst e3 e5
         rw [hu] at d0
         by_cases hlr : r < k
         ·go_wp2
          go_quiet (fail)
          go_wp2
          go_roundw
          case rel => exact ⟨r + 1, by omega, by go_num, bDN hbi⟩
          case measure => simp [intOf]; omega
         ·go_wp2
          go_roundw
          case rel => exact ⟨k + 1, by omega, by go_num, by rw [HN2.out], HK.out (fun h => by rw [hu] at h; cases h), HBX3.out.below hbi, bT hbz hbi⟩
          case measure => simp [intOf]; omega
       | true =>
        have HN2 : Hid (nus t.fs (k + 1) = F + 1) := by have h := HN.out; rw [hu] at h; exact h
        rw [hu] at d0
        clear ef hok
        go_wp2
        clear q0 q1 d0 d1 d2 d3 d4
        go_loopw [5] (fun u wi => ∃ r : Nat, r ≤ k ∧ u = .int .i64 r ∧ Hid (∀ (j : Nat) (g : Fr), j < r → t.fs[j]? = some g → g.used = true → ¬ (g.s, g.p) = (f.s, f.p)) ∧ Below w3.heap.size w3 wi) (fun u _ => k - (intOf u).toNat)
        case atStart => exact ⟨0, by omega, rfl, (fun j g h => absurd h (by omega)), bR⟩
        case round =>
         obtain ⟨r, hr, rfl, hdup, hbi⟩ := hrel
         have hboxi := HBX3.out.below hbi
         have q0 := hboxi.cell_ 0 (v := .slice Ab t.bs.length cb) rfl
         have q1 := hboxi.cell_ 1 (v := .slice (some ⟨b2, o2, none⟩) t.fs.length cf) rfl
         have hbli := hboxi.lt
         clear hboxi
         obtain ⟨b3, o3, e3, hb3, d0, d1, d2, d3, d4⟩ := (HF.out.below (bT hbz hbi)).fr EF.out
         injection e3 with e3
         injection e3 with e3 e5
         subst e3 e5
         rw [hu] at d0
         by_cases hlr : r < k
         ·obtain ⟨g, eg⟩ : ∃ g, t.fs[r]? = some g := ⟨_, List.getElem?_eq_getElem (by omega)⟩
          obtain ⟨b4, o4, e4, hb4, x0, x1, x2, x3, x4⟩ := (HF.out.below (bT hbz hbi)).fr eg
          injection e4 with e4
          injection e4 with e4 e5
          subst e4 e5
          have he := fun W => eql_key g.s g.p f.s f.p W
          have EG := Hd eg
          clear eg
          cases hug : g.used with
          | false =>
           rw [hug] at x0
           have HD2 : Hid (∀ (j : Nat) (g' : Fr), j < r + 1 → t.fs[j]? = some g' → g'.used = true → ¬ (g'.s, g'.p) = (f.s, f.p)) := fun j g' hj e hgu => by
            rcases Nat.lt_or_ge j r with h | h
            ·exact hdup.out j g' h e hgu
            ·obtain rfl : j = r := by omega
             rw [EG.out] at e
             injection e with e
             rw [← e, hug] at hgu; cases hgu
           go_wp2
           go_quiet (fail)
           go_wp2
           go_roundw
           case rel => exact ⟨r + 1, by omega, by go_num, HD2, bDN hbi⟩
           case measure => simp [intOf]; omega
          | true =>
           rw [hug] at x0
           by_cases hkk : (g.s, g.p) = (f.s, f.p)
           ·have hq : keq g.s g.p f.s f.p = true := keq_true hkk
            have HE : Hid (tv t = false) := tv_dup hlr EG.out EF.out hug hu hkk
            clear hkk
            go_wp2
            go_quiet (fail)
            go_wp2
            go_ret
            exact ⟨by rw [HE.out]; rfl, bT hbz (bDN hbi)⟩
           ·have hq : keq g.s g.p f.s f.p = false := keq_false hkk
            have HD2 : Hid (∀ (j : Nat) (g' : Fr), j < r + 1 → t.fs[j]? = some g' → g'.used = true → ¬ (g'.s, g'.p) = (f.s, f.p)) := fun j g' hj e hgu => by
             rcases Nat.lt_or_ge j r with h | h
             ·exact hdup.out j g' h e hgu
             ·obtain rfl : j = r := by omega
              rw [EG.out] at e
              injection e with e
              rw [← e]; exact hkk
            clear hkk
            go_wp2
            go_quiet (fail)
            go_wp2
            go_roundw
            case rel => exact ⟨r + 1, by omega, by go_num, HD2, bDN hbi⟩
            case measure => simp [intOf]; omega
         ·obtain rfl : r = k := by omega
          go_wp2
          go_roundw
          case rel => exact ⟨r + 1, by omega, by go_num, by rw [HN2.out]; rfl, HK.out (fun _ => hdup.out), HBX3.out.below hbi, bT hbz hbi⟩
          case measure => simp [intOf]; omega
     ·obtain rfl : k = t.fs.length := by omega
      have hnn := nus_le t.fs t.fs.length
      have HFR := Hd hfr.out
      have HBOX1 := HBOX
      have hbz1 := hbz
      clear hlt hk
      generalize hU : nus t.fs t.fs.length = U at *
      go_wp2
      clear q0 q1 hbl
      go_loopw [3, 6] (fun sv u wr => ∃ b : Nat, b ≤ t.bs.length ∧ u = .int .i64 b ∧ sv = .int .i64 ((U : Int) - (bsum t b : Nat)) ∧ bsum t b ≤ b * 16 ∧ Hid (boks t b = true) ∧ Own wr w.heap.size 26 #[.slice Ab t.bs.length cb, .slice Af t.fs.length cf] ∧ Below w.heap.size w wr) (fun _ u _ => t.bs.length - (intOf u).toNat)
      case atStart => exact ⟨0, by omega, rfl, by simp [bsum], by simp [bsum], rfl, HBOX1.out, hbz1⟩
      case round =>
       clear hbz hbz1
       obtain ⟨b, hb, rfl, rfl, hsum, hbo, hbox, hbz⟩ := hrel
       have q0 := hbox.cell_ 0 (v := .slice Ab t.bs.length cb) rfl
       have q1 := hbox.cell_ 1 (v := .slice Af t.fs.length cf) rfl
       have HBOX := Hd hbox
       have hbl := hbox.lt
       clear hbox
       by_cases hlt : b < t.bs.length
       ·go_wp2_with fail
        refine (l3Chain_any _ _ t b _ (HT.out.now hbz) hlt (by omega)).mono ?_
        rintro e w3 ⟨v, rfl, hsl, hb3'⟩
        have HBX3 := Hd (HBOX.out.below hb3')
        have hbz3 := bT hbz hb3'
        clear q0 q1 hbz hbl
        have hbz := hbz3
        clear hbz3
        cases hch : bch t b with
        | none =>
         simp only [Option.isSome_none]
         have HE : Hid (tv t = false) := tv_bok (bok_none hch) hlt
         go_wp2
         go_ret
         exact ⟨by rw [HE.out]; rfl, hbz⟩
        | some ch =>
         simp only [Option.isSome_some]
         obtain ⟨Al, cl, rfl, hlc, hlm, hL⟩ := hsl ch hch
         rw [ints_length] at *
         have HL := Hd hL
         have HCH := Hd hch
         have hcl := (show ch.length ≤ t.fs.length from by
          obtain ⟨x, _, ec⟩ := bch_some hch
          exact chn_len ec)
         have hsb := bsum_step hch
         clear hsl hL hch
         go_wp2
         go_loopw [9] (fun u wi => ∃ r : Nat, r ≤ ch.length ∧ u = .int .i64 r ∧ Hid (∀ (m j : Nat), m < r → ch[m]? = some j → ∃ f : Fr, t.fs[j]? = some f ∧ hsh f.s f.p t.bs.length = b) ∧ Below w3.heap.size w3 wi) (fun u _ => ch.length - (intOf u).toNat)
         case atStart => exact ⟨0, by omega, rfl, (fun m j h => absurd h (by omega)), bR⟩
         case round =>
          obtain ⟨r, hr, rfl, hacc, hbi⟩ := hrel
          have hboxi := HBX3.out.below hbi
          have q0 := hboxi.cell_ 0 (v := .slice Ab t.bs.length cb) rfl
          have q1 := hboxi.cell_ 1 (v := .slice Af t.fs.length cf) rfl
          have hbli := hboxi.lt
          clear hboxi
          by_cases hlr : r < ch.length
          ·obtain ⟨j, ej⟩ : ∃ j, ch[r]? = some j := ⟨_, List.getElem?_eq_getElem hlr⟩
           obtain ⟨f, ef, huf⟩ := bch_mem HCH.out j (List.mem_of_getElem? ej)
           obtain ⟨hjl, _⟩ := List.getElem?_eq_some_iff.1 ef
           obtain ⟨b5, o5, hAl, hb5, y0⟩ := (HL.out.now (Nat.le_refl _) hbi).i1 (ints_get ej)
           obtain ⟨b4, o4, hAf, hb4, x0, x1, x2, x3, x4⟩ := (HF.out.below (bT hbz hbi)).fr ef
           have hkv : kval (f.s, f.p) = true := by
            obtain ⟨⟨g, eg, hg⟩, _⟩ := frs_at HFR.out hjl
            rw [ef] at eg
            injection eg with eg
            subst eg
            unfold frok at hg
            rw [huf] at hg
            simp only [if_true, Bool.and_eq_true] at hg
            exact hg.1
           have HH := fun W => l2Hash_any f.s f.p t.bs.length W hkv (by omega)
           have HHH := Hd HH
           have HACC : Hid (hsh f.s f.p t.bs.length = b → ∀ (m j : Nat), m < r + 1 → ch[m]? = some j → ∃ f : Fr, t.fs[j]? = some f ∧ hsh f.s f.p t.bs.length = b) := fun hh m j' hm e => by
            rcases Nat.lt_or_ge m r with h | h
            ·exact hacc.out m j' h e
            ·obtain rfl : m = r := by omega
             rw [ej] at e
             injection e with e
             rw [← e]
             exact ⟨f, ef, hh⟩
           have HBAD : Hid (hsh f.s f.p t.bs.length ≠ b → tv t = false) := fun hh => tv_bok (bok_false HCH.out (List.mem_of_getElem? ej) ef hh) hlt
           have hj2 : (j : Int) < (t.fs.length : Int) := by omega
           subst hAl hAf
           clear HH ef ej hkv huf
           generalize hsh f.s f.p t.bs.length = hv at HHH HACC HBAD
           have z0 := xcell (w := wr) q0 (by simp; omega)
           have z1 := xcell (w := wr) q1 (by simp; omega)
           have z2 := xcell (w := wr) y0 (by simp; omega)
           have z3 := xcell (w := wr) x1 (by have := (bT hbz hbi).size; show b4 < _; omega)
           have z4 := xcell (w := wr) x2 (by have := (bT hbz hbi).size; show b4 < _; omega)
           by_cases hh : hv = b
           ·have HAC2 := Hd (HACC.out hh)
            subst hh
            clear HACC
            go_wp2
            refine wp_region_ext (by kernel_rfl) (by kernel_rfl) ?_
            repeat (go_big_quiet_step ((go_at_call 94; exact ext_call (HHH.out _))))
            refine wpQuiet_nil ?_
            intro _ hw'
            obtain ⟨⟨wq, hq⟩, hw''⟩ := hw'
            subst hw''
            try dsimp only
            go_wp2
            go_roundw
            case rel => exact ⟨r + 1, by omega, by go_num, HAC2.out, bT hbi hq⟩
            case measure => simp [intOf]; omega
           ·have g5 : (hv == (b : Int)) = false := by rw [beq_eq_false_iff_ne]; exact hh
            have HE : Hid (tv t = false) := HBAD.out hh
            go_wp2
            refine wp_region_ext (by kernel_rfl) (by kernel_rfl) ?_
            repeat (go_big_quiet_step ((go_at_call 94; exact ext_call (HHH.out _))))
            refine wpQuiet_nil ?_
            intro _ hw'
            obtain ⟨⟨wq, hq⟩, hw''⟩ := hw'
            subst hw''
            try dsimp only
            go_wp2
            go_ret
            exact ⟨by rw [HE.out]; rfl, bT hbz (bT hbi hq)⟩
          ·obtain rfl : r = ch.length := by omega
           have hB2 : Hid (boks t (b + 1) = true) := boks_step hbo.out HCH.out (fun m j e => hacc.out m j (List.getElem?_eq_some_iff.1 e).1 e)
           have hs2 : bsum t (b + 1) ≤ (b + 1) * 16 := by omega
           have HS2 := Hd hsb
           clear hsb
           go_wp2
           go_roundw
           case rel => exact ⟨b + 1, by omega, by go_num, by rw [HS2.out]; congr 1; omega, hs2, hB2, HBX3.out.below hbi, bT hbz hbi⟩
           case measure => simp [intOf]; omega
       ·obtain rfl : b = t.bs.length := by omega
        have HE : Hid (tv t = decide (bsum t t.bs.length = nus t.fs t.fs.length)) := tv_end HSZ.out HFR.out hbo.out
        rw [hU] at HE
        generalize bsum t t.bs.length = S at *
        by_cases hSU : S = U
        ·have HE2 : Hid (tv t = true) := by show _ = _; rw [HE.out, decide_eq_true hSU]
         have g5 : ((U : Int) - (S : Int) == 0) = true := by rw [beq_iff_eq]; omega
         go_wp2
         go_ret
         exact ⟨by rw [HE2.out]; rfl, hbz⟩
        ·have HE2 : Hid (tv t = false) := by show _ = _; rw [HE.out, decide_eq_false hSU]
         have g5 : ((U : Int) - (S : Int) == 0) = false := by rw [beq_eq_false_iff_ne]; omega
         go_wp2
         go_ret
         exact ⟨by rw [HE2.out]; rfl, hbz⟩
end Go.Proofs.YtfbnokjdkhcgoaaGreatDoor
