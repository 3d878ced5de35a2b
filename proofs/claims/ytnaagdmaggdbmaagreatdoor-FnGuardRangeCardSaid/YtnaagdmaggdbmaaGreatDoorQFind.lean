/- A part of the proofs of this seat: Find, Copy. -/
import Derived.Laws.Cover3
import Derived.Test.YtnaagdmaggdbmaaGreatDoorQCaP
import Derived.Test.YtnaagdmaggdbmaaGreatDoorQTI
set_option linter.unusedVariables false
set_option linter.unusedSimpArgs false
namespace Go.Proofs.YtnaagdmaggdbmaaGreatDoor
open Go.RowKit
def pix {α : Type} (p : α → Bool) (l : List α) : Int := match l.findIdx? p with | some i => i | none => -1
theorem pix_at {α : Type} {p : α → Bool} {l : List α} {k : Nat} {a : α} (hk : l[k]? = some a) (h : ∀ (j : Nat) (b : α), j < k → l[j]? = some b → p b = false) (e : p a = true) : pix p l = k := by
 obtain ⟨hlt, hk2⟩ := List.getElem?_eq_some_iff.1 hk
 have : l.findIdx? p = some k := by
  rw [List.findIdx?_eq_some_iff_getElem]
  refine ⟨hlt, by rw [hk2]; exact e, fun j hj => ?_⟩
  have := h j l[j] hj (List.getElem?_eq_getElem (by omega))
  simp [this]
 unfold pix
 rw [this]
theorem pix_none {α : Type} {p : α → Bool} {l : List α} {n : Nat} (hn : l.length ≤ n) (h : ∀ (j : Nat) (b : α), j < n → l[j]? = some b → p b = false) : pix p l = -1 := by
 have : l.findIdx? p = none := by
  rw [List.findIdx?_eq_none_iff]
  intro x hx
  obtain ⟨j, hj, e⟩ := List.getElem_of_mem hx
  have := h j x (by omega) (by rw [List.getElem?_eq_getElem hj, e])
  simp [this]
 unfold pix
 rw [this]
theorem pix_step {α : Type} {p : α → Bool} {l : List α} {k : Nat} {a : α} (hk : l[k]? = some a) (h : ∀ (j : Nat) (b : α), j < k → l[j]? = some b → p b = false) (e : p a = false) : ∀ (j : Nat) (b : α), j < k + 1 → l[j]? = some b → p b = false := by
 intro j b hj hb
 rcases Nat.lt_or_ge j k with h1 | h1
 ·exact h j b h1 hb
 ·obtain rfl : j = k := by omega
  rw [hk] at hb
  injection hb with hb
  rw [← hb]; exact e
theorem cells_at {W : World} {cs : Array Value} {t : TypeId} {n i : Nat} {v : Value} (hn : n = W.heap.size) (e : cs[i]? = some v) : (W.alloc (.cells cs t)).cell? ⟨n, i, none⟩ = some v := by
 subst hn
 exact (Own.new_ _ _ _).cell_ i e
theorem cells_far {W : World} {o : Obj} {n i : Nat} {v : Value} (hn : n < W.heap.size) (e : W.cell? ⟨n, i, none⟩ = some v) : (W.alloc o).cell? ⟨n, i, none⟩ = some v := ((bA (bR (w := W)) (o := o)).cell (p := ⟨n, i, none⟩) hn).trans e
def fitK (s p : Int) (f : Fr) : Bool := f.used && keq f.s f.p s p
theorem find1_any (f : Fr) (g : Nat) (s p : Int) (w : World) (hg : g < w.heap.size) (h0 : w.cell? ⟨g, 0, none⟩ = some (.int .i64 s)) (h1 : w.cell? ⟨g, 1, none⟩ = some (.int .i64 p)) :
  Calls Tryz.prog 135 #[.agg #[.bool f.used, .int .i64 f.s, .int .i64 f.p, .int .i64 f.r, .int .i64 f.n], .pointer (some ⟨g, 0, none⟩)] w fun r w' => r = .returned (.bool (fitK s p f)) ∧ Below w.heap.size w w' := by
 have he := fun W => eql_key f.s f.p s p W
 generalize hq : keq f.s f.p s p = q at he
 cases hu : f.used with
 | true =>
  have H : Hid (fitK s p f = q) := by simp [Hid, fitK, hu, hq]
  go_enter Tryz.func135, Tryz.ntmps135
  go_wp2
  go_ret
  exact ⟨by rw [H.out]; rfl, bA bR⟩
 | false =>
  have H : Hid (fitK s p f = false) := by simp [Hid, fitK, hu]
  go_enter Tryz.func135, Tryz.ntmps135
  go_wp2
  go_ret
  exact ⟨by rw [H.out]; rfl, bA bR⟩
theorem indexFr_any (A : Option Addr) (c : Nat) (l : List Fr) (g : Nat) (s p : Int) (w : World) (h : Rs frE w.heap.size w A l) (hl : l.length ≤ 9223372036854775807)
  (hg : g < w.heap.size) (h0 : w.cell? ⟨g, 0, none⟩ = some (.int .i64 s)) (h1 : w.cell? ⟨g, 1, none⟩ = some (.int .i64 p)) :
  Calls Tryz.prog 134 #[.slice A l.length c, .func (.func 135) #[] #[.pointer (some ⟨g, 0, none⟩)]] w fun r w' => r = .returned (.int .i64 (pix (fitK s p) l)) ∧ Below w.heap.size w w' := by
 go_enter Tryz.func134, Tryz.ntmps134
 go_wp2
 go_loopw [5, 8] (fun _ i wr => ∃ k : Nat, k ≤ l.length ∧ i = .int .i64 k ∧ Below w.heap.size w wr ∧ Hid (∀ (j : Nat) (b : _), j < k → l[j]? = some b → (fitK s p) b = false)) (fun _ i _ => l.length - (intOf i).toNat)
 case atStart => exact ⟨0, by omega, rfl, bR, fun j b hj => by omega⟩
 case round =>
  obtain ⟨k, hk, rfl, hb, hall⟩ := hrel
  by_cases hlt : k < l.length
  ·obtain ⟨a, ea⟩ : ∃ a, l[k]? = some a := ⟨_, List.getElem?_eq_getElem hlt⟩
   obtain ⟨b, o, rfl, hbb, d0, d1, d2, d3, d4⟩ := (h.below hb).fr ea
   have k0 := (hb.cell (p := ⟨g, 0, none⟩) hg).trans h0
   have k1 := (hb.cell (p := ⟨g, 1, none⟩) hg).trans h1
   go_wp2_with fail
   refine (find1_any a g s p _ (Nat.lt_of_lt_of_le hg hb.size) k0 k1).mono ?_
   rintro e w1 ⟨rfl, hb1⟩
   cases hv : (fitK s p) a with
   | true =>
    have H : Hid (pix (fitK s p) l = k) := pix_at ea hall.out hv
    clear ea
    go_wp2
    go_ret
    exact ⟨by rw [H.out]; rfl, bT hb hb1⟩
   | false =>
    have H := Lib.hid (pix_step ea hall.out hv)
    clear ea
    go_wp2
    go_roundw
    case rel => exact ⟨k + 1, by omega, by go_num, bT hb hb1, H⟩
    case measure => simp [intOf]; omega
  ·have H : Hid (pix (fitK s p) l = -1) := pix_none (Nat.le_of_not_lt hlt) hall.out
   go_wp2
   go_ret
   exact ⟨by rw [H.out]; rfl, hb⟩
theorem fitK_fnd (fs : List Fr) (s p : Int) : pix (fitK s p) fs = fndI fs s p := by
 have : (fitK s p) = (fun f : Fr => f.used && decide ((f.s, f.p) = (s, p))) := by
  funext f
  unfold fitK keq
  congr 1
  by_cases h1 : f.s = s <;> by_cases h2 : f.p = p <;> simp [h1, h2]
 unfold pix fndI fnd
 rw [this]
 try (cases fs.findIdx? (fun f : Fr => f.used && decide ((f.s, f.p) = (s, p))) <;> rfl)
theorem find_any (vb vf : Value) (t : Tab) (s p : Int) (w : World) (hT : TaR w vb vf t) :
  Calls Tryz.prog 68 #[.agg #[vb, vf], .agg #[.int .i64 s, .int .i64 p]] w fun r w' => r = .returned (.int .i64 (fndI t.fs s p)) ∧ Below w.heap.size w w' := by
 obtain ⟨Ab, cb, rfl, hbc, hbm, hB⟩ := hT.b
 obtain ⟨Af, cf, rfl, hfc, hfm, hF⟩ := hT.f
 have hfm2 : t.fs.length ≤ 9223372036854775807 := by unfold maxLen at hfm; omega
 rw [← fitK_fnd]
 go_enter Tryz.func68, Tryz.ntmps68
 go_wp2_with fail
 refine (indexFr_any _ _ _ _ s p _ ?_ hfm2 ?_ ?_ ?_).mono ?_
 case refine_5 =>
  rintro e w1 ⟨rfl, hb1⟩
  go_wp2
  go_ret
  exact ⟨rfl, bT (by first | exact bA (bA bR) | exact bA bR) hb1⟩
 ·exact hF.now (Nat.le_refl _) (bA (bA bR))
 ·simp
 ·exact cells_at (by simp) rfl
 ·exact cells_at (by simp) rfl
theorem own1_any (f : Int × Int) (g : Nat) (s : Int) (w : World) (hg : g < w.heap.size) (h0 : w.cell? ⟨g, 0, none⟩ = some (.int .i64 s)) :
  Calls Tryz.prog 133 #[.agg #[.int .i64 f.1, .int .i64 f.2], .pointer (some ⟨g, 0, none⟩)] w fun r w' => r = .returned (.bool (decide (f.1 = s))) ∧ Below w.heap.size w w' := by
 go_enter Tryz.func133, Tryz.ntmps133
 go_wp2
 go_ret
 exact ⟨rfl, bA bR⟩
theorem indexOw_any (A : Option Addr) (c : Nat) (l : List (Int × Int)) (g : Nat) (s : Int) (w : World) (h : Rs owE w.heap.size w A l) (hl : l.length ≤ 9223372036854775807)
  (hg : g < w.heap.size) (h0 : w.cell? ⟨g, 0, none⟩ = some (.int .i64 s)) :
  Calls Tryz.prog 132 #[.slice A l.length c, .func (.func 133) #[] #[.pointer (some ⟨g, 0, none⟩)]] w fun r w' => r = .returned (.int .i64 (pix (fun o : Int × Int => decide (o.1 = s)) l)) ∧ Below w.heap.size w w' := by
 go_enter Tryz.func132, Tryz.ntmps132
 go_wp2
 go_loopw [5, 8] (fun _ i wr => ∃ k : Nat, k ≤ l.length ∧ i = .int .i64 k ∧ Below w.heap.size w wr ∧ Hid (∀ (j : Nat) (b : _), j < k → l[j]? = some b → (fun o : Int × Int => decide (o.1 = s)) b = false)) (fun _ i _ => l.length - (intOf i).toNat)
 case atStart => exact ⟨0, by omega, rfl, bR, fun j b hj => by omega⟩
 case round =>
  obtain ⟨k, hk, rfl, hb, hall⟩ := hrel
  by_cases hlt : k < l.length
  ·obtain ⟨a, ea⟩ : ∃ a, l[k]? = some a := ⟨_, List.getElem?_eq_getElem hlt⟩
   obtain ⟨b, o, rfl, hbb, d0, d1⟩ := (h.below hb).ow ea
   have k0 := (hb.cell (p := ⟨g, 0, none⟩) hg).trans h0
   go_wp2_with fail
   refine (own1_any a g s _ (Nat.lt_of_lt_of_le hg hb.size) k0).mono ?_
   rintro e w1 ⟨rfl, hb1⟩
   cases hv : (fun o : Int × Int => decide (o.1 = s)) a with
   | true =>
    have H : Hid (pix (fun o : Int × Int => decide (o.1 = s)) l = k) := pix_at ea hall.out hv
    clear ea
    go_wp2
    go_ret
    exact ⟨by rw [H.out]; rfl, bT hb hb1⟩
   | false =>
    have H := Lib.hid (pix_step ea hall.out hv)
    clear ea
    go_wp2
    go_roundw
    case rel => exact ⟨k + 1, by omega, by go_num, bT hb hb1, H⟩
    case measure => simp [intOf]; omega
  ·have H : Hid (pix (fun o : Int × Int => decide (o.1 = s)) l = -1) := pix_none (Nat.le_of_not_lt hlt) hall.out
   go_wp2
   go_ret
   exact ⟨by rw [H.out]; rfl, hb⟩
theorem pix_own (os : List (Int × Int)) (s : Int) : pix (fun o : Int × Int => decide (o.1 = s)) os = ownI os s := by
 unfold pix ownI own
 cases os.findIdx? (fun o : Int × Int => decide (o.1 = s)) <;> rfl
theorem own_any (vo : Value) (g : Tg) (s : Int) (w : World) (hT : SlR owE w vo g.os) :
  Calls Tryz.prog 66 #[.agg #[.int .i64 g.count, .int .i64 g.next, .int .i64 g.round, vo], .int .i64 s] w fun r w' => r = .returned (.int .i64 (ownI g.os s)) ∧ Below w.heap.size w w' := by
 obtain ⟨Ab, cb, rfl, hbc, hbm, hB⟩ := hT
 have hfm2 : g.os.length ≤ 9223372036854775807 := by unfold maxLen at hbm; omega
 rw [← pix_own]
 go_enter Tryz.func66, Tryz.ntmps66
 go_wp2_with fail
 refine (indexOw_any _ _ _ _ s _ ?_ hfm2 ?_ ?_).mono ?_
 case refine_4 =>
  rintro e w1 ⟨rfl, hb1⟩
  go_wp2
  go_ret
  exact ⟨rfl, bT (by first | exact bA (bA bR) | exact bA bR) hb1⟩
 ·exact hB.now (Nat.le_refl _) (bA (bA bR))
 ·simp
 ·exact cells_at (by simp) rfl
theorem place1_any (f : Ln) (g h : Nat) (tag page : Int) (w : World) (hg : g < w.heap.size) (hh : h < w.heap.size) (h0 : w.cell? ⟨g, 0, none⟩ = some (.int .i64 page)) (h1 : w.cell? ⟨h, 0, none⟩ = some (.int .i64 tag)) :
  Calls Tryz.prog 172 #[.agg #[.bool f.v, .int .i64 f.t, .int .i64 f.p, .int .i64 f.f, .int .i64 f.r, .bool f.w], .pointer (some ⟨g, 0, none⟩), .pointer (some ⟨h, 0, none⟩)] w fun r w' => r = .returned (.bool (fits tag page f)) ∧ Below w.heap.size w w' := by
 cases hv : f.v with
 | false =>
  have H : Hid (fits tag page f = false) := by simp [Hid, fits, hv]
  go_enter Tryz.func172, Tryz.ntmps172
  go_wp2
  go_ret
  exact ⟨by rw [H.out]; rfl, bA bR⟩
 | true =>
  by_cases hp : f.p = page
  ·by_cases ht : f.t = tag
   ·have H : Hid (fits tag page f = true) := by simp [Hid, fits, hv, hp, ht]
    go_enter Tryz.func172, Tryz.ntmps172
    go_wp2
    go_ret
    exact ⟨by rw [H.out]; rfl, bA bR⟩
   ·have H : Hid (fits tag page f = (f.t == tag || f.t == -1)) := by
     show _ = _
     rw [beq_eq_false_iff_ne.2 ht, Bool.false_or]
     simp [fits, hv, hp, ht]
     by_cases h : f.t = -1 <;> simp [h]
    go_enter Tryz.func172, Tryz.ntmps172
    go_wp2
    go_ret
    exact ⟨by rw [H.out]; rfl, bA bR⟩
  ·have H : Hid (fits tag page f = false) := by simp [Hid, fits, hp]
   go_enter Tryz.func172, Tryz.ntmps172
   go_wp2
   go_ret
   exact ⟨by rw [H.out]; rfl, bA bR⟩
theorem indexLn_any (A : Option Addr) (c : Nat) (l : List Ln) (g i : Nat) (tag page : Int) (w : World) (h : Rs lnE w.heap.size w A l) (hl : l.length ≤ 9223372036854775807)
  (hg : g < w.heap.size) (h0 : w.cell? ⟨g, 0, none⟩ = some (.int .i64 page)) (hi : i < w.heap.size) (h1 : w.cell? ⟨i, 0, none⟩ = some (.int .i64 tag)) :
  Calls Tryz.prog 171 #[.slice A l.length c, .func (.func 172) #[] #[.pointer (some ⟨g, 0, none⟩), .pointer (some ⟨i, 0, none⟩)]] w fun r w' => r = .returned (.int .i64 (pix (fits tag page) l)) ∧ Below w.heap.size w w' := by
 go_enter Tryz.func171, Tryz.ntmps171
 go_wp2
 go_loopw [5, 8] (fun _ i wr => ∃ k : Nat, k ≤ l.length ∧ i = .int .i64 k ∧ Below w.heap.size w wr ∧ Hid (∀ (j : Nat) (b : _), j < k → l[j]? = some b → (fits tag page) b = false)) (fun _ i _ => l.length - (intOf i).toNat)
 case atStart => exact ⟨0, by omega, rfl, bR, fun j b hj => by omega⟩
 case round =>
  obtain ⟨k, hk, rfl, hb, hall⟩ := hrel
  by_cases hlt : k < l.length
  ·obtain ⟨a, ea⟩ : ∃ a, l[k]? = some a := ⟨_, List.getElem?_eq_getElem hlt⟩
   obtain ⟨b, o, rfl, hbb, d0, d1, d2, d3, d4, d5⟩ := (h.below hb).ln ea
   have k0 := (hb.cell (p := ⟨g, 0, none⟩) hg).trans h0
   have k1 := (hb.cell (p := ⟨i, 0, none⟩) hi).trans h1
   go_wp2_with fail
   refine (place1_any a g i tag page _ (Nat.lt_of_lt_of_le hg hb.size) (Nat.lt_of_lt_of_le hi hb.size) k0 k1).mono ?_
   rintro e w1 ⟨rfl, hb1⟩
   cases hv : (fits tag page) a with
   | true =>
    have H : Hid (pix (fits tag page) l = k) := pix_at ea hall.out hv
    clear ea
    go_wp2
    go_ret
    exact ⟨by rw [H.out]; rfl, bT hb hb1⟩
   | false =>
    have H := Lib.hid (pix_step ea hall.out hv)
    clear ea
    go_wp2
    go_roundw
    case rel => exact ⟨k + 1, by omega, by go_num, bT hb hb1, H⟩
    case measure => simp [intOf]; omega
  ·have H : Hid (pix (fits tag page) l = -1) := pix_none (Nat.le_of_not_lt hlt) hall.out
   go_wp2
   go_ret
   exact ⟨by rw [H.out]; rfl, hb⟩
theorem pix_plc (ls : List Ln) (tag page : Int) : pix (fits tag page) ls = plcI ls tag page := by
 unfold pix plcI plc
 cases ls.findIdx? (fits tag page) <;> rfl
theorem place_any (vl : Value) (c : Ca) (tag page : Int) (w : World) (hT : SlR lnE w vl c.ls) :
  Calls Tryz.prog 103 #[.agg #[vl, .int .i64 c.hand], .int .i64 tag, .int .i64 page] w fun r w' => r = .returned (.int .i64 (plcI c.ls tag page)) ∧ Below w.heap.size w w' := by
 obtain ⟨Ab, cb, rfl, hbc, hbm, hB⟩ := hT
 have hfm2 : c.ls.length ≤ 9223372036854775807 := by unfold maxLen at hbm; omega
 rw [← pix_plc]
 go_enter Tryz.func103, Tryz.ntmps103
 go_wp2_with fail
 refine (indexLn_any _ _ _ _ _ tag page _ ?_ hfm2 ?_ ?_ ?_ ?_).mono ?_
 case refine_6 =>
  rintro e w1 ⟨rfl, hb1⟩
  go_wp2
  go_ret
  exact ⟨rfl, bT (bA (bA (bA bR))) hb1⟩
 ·exact hB.now (Nat.le_refl _) (bA (bA (bA bR)))
 ·simp
 ·exact cells_at (by simp) rfl
 ·simp
 ·exact cells_far (by simp) (cells_at (by simp) rfl)
end Go.Proofs.YtnaagdmaggdbmaaGreatDoor
namespace Go.Proofs.YtnaagdmaggdbmaaGreatDoor
open Go.RowKit
set_option maxRecDepth 1000000
theorem eql_snil {t e : TypeId} (h : Tryz.prog.underlying t = some (.slice e)) (a : Option Addr) (n c : Nat) (w : World) : (binOp .eql t (.slice a n c) (.slice none 0 0)).run Tryz.prog w = .ok (.bool a.isNone) w := by
 simp only [binOp]
 simp [run_equal_slice_nil w t e a n c h]
theorem fr_info : (Tryz.prog.info? 48).map (fun i => (i.zero, i.size, i.bytes)) = some (some (.agg #[.bool false, .int .i64 0, .int .i64 0, .int .i64 0, .int .i64 0]), 5, 40) := by kernel_rfl
theorem ln_info : (Tryz.prog.info? 106).map (fun i => (i.zero, i.size, i.bytes)) = some (some (.agg #[.bool false, .int .i64 0, .int .i64 0, .int .i64 0, .int .i64 0, .bool false]), 6, 48) := by kernel_rfl
theorem ow_info : (Tryz.prog.info? 155).map (fun i => (i.zero, i.size, i.bytes)) = some (some (.agg #[.int .i64 0, .int .i64 0]), 2, 16) := by kernel_rfl
theorem run_copy {α : Type} (E : Enc α) (t ty e : TypeId) (i : TypeInfo) (z : Value) (bytes : Nat) (ht : Tryz.prog.underlying t = some (.slice e)) (hi : Tryz.prog.info? e = some i) (hz : i.zero = some z)
  (hs : i.size = E.sz) (hby : i.bytes = bytes) (hzs : z.cells.size = E.sz) (hbb : bytes ≤ 1000)
  (base : Nat) (W : World) (v : Value) (hown : W.ownsRow base e E.sz v 0 []) (B : Nat) (A : Option Addr) (c : Nat) (l : List α) (hr : Rs E B W A l) (hl : l.length ≤ 1048576) (hb : base ≤ W.heap.size) :
  ∃ v' w', (Builtin.append_ #[t, t] ty #[v, .slice A l.length c]).run Tryz.prog W = .ok v' w' ∧ w'.ownsRow base e E.sz v' l.length (E.cells l) ∧ W.grownBy w' v.ownBlock ∧ (v'.ownBlock = v.ownBlock ∨ v'.ownBlock = some W.heap.size) := by
 have hm : 0 + l.length ≤ maxLen := by simp only [maxLen]; omega
 have hbytes : (0 + l.length) * bytes ≤ 140737488355328 := Nat.le_trans (Nat.mul_le_mul (show 0 + l.length ≤ 1048576 by omega) hbb) (by omega)
 obtain ⟨v', w', h1, h2, h3, h4⟩ := run_append_rd (P := Tryz.prog) W base t ty e i z E.sz bytes ht hi hz hs hby hzs E.pos v 0 [] hown B A l.length c (E.cells l) hr (E.cells_one l) hm hbytes hb
 exact ⟨v', w', h1, by simpa using h2, h3, h4⟩
theorem owns_lit {base : Nat} {e : TypeId} (W : World) (sz : Nat) (hb : base ≤ W.heap.size) : (W.alloc (.cells #[] e)).ownsRow base e sz (.slice (some ⟨W.heap.size, 0, none⟩) 0 0) 0 [] := by
 have h := World.ownsRow_made (base := W.heap.size) (e := e) (size := sz) W #[] 0 (by simp) (by simp [maxLen]) (by simp)
 exact own_mono h hb
theorem cloneFrame_any (v : Value) (l : List _) (w : World) (h : SlR frE w v l) (hl : l.length ≤ 1048576) :
  Calls Tryz.prog 196 #[v] w (Post2 fun v' w' => SlM frE 48 w.heap.size w' v' l ∧ Below w.heap.size w w') := by
 obtain ⟨A, c, rfl, hlc, hcm, hR⟩ := h
 obtain ⟨i0, hi0, hz0, hz1, hz2⟩ := info_parts fr_info
 have hnil := eql_snil Tryz.underlying24
 cases A with
 | none =>
  have h0 : l = [] := by
   rcases Nat.eq_zero_or_pos l.length with h | h
   ·exact List.length_eq_zero_iff.1 h
   ·obtain ⟨b, o, e, _⟩ := hR.at_ h
    cases e
  subst h0
  go_enter Tryz.func196, Tryz.ntmps196
  go_wp2
  go_ret
  exact ⟨_, rfl, SlM.nil_ _, bR⟩
 | some ad =>
  have hO := owns_lit (base := w.heap.size) (e := 48) w frE.sz (Nat.le_refl _)
  have hR2 := hR.alloc (.cells #[] 48)
  obtain ⟨v', w', hrun, hown, hg, _⟩ := run_copy frE 24 24 48 i0 _ _ Tryz.underlying24 hi0 hz0 hz1 hz2 rfl (by omega) w.heap.size _ _ hO _ _ c l hR2 hl (by simp)
  have HM := Lib.hid (slm_own rfl hown)
  have HB : Hid (Below w.heap.size w w') := bG (bA bR) hg (fun k hk => own_block hO k hk)
  clear hO hR2 hown hg
  go_enter Tryz.func196, Tryz.ntmps196
  go_wp2_with (at_builtin; refine wpList_append_run _ rfl (.tmp 5) (.tmp 6) 24 rfl _ _ _ _ rfl rfl hrun ?_)
  go_ret
  exact ⟨_, rfl, HM.out, HB.out⟩
theorem clipFrame_any (A : Option Addr) (n c : Nat) (w : World) (hn : n ≤ c) : Calls Tryz.prog 195 #[.slice A n c] w fun r w' => r = .returned (.slice A n n) ∧ w = w' := by
 obtain ⟨i0, hi0, _⟩ := info_parts fr_info
 have hs := fun W => slice_max (P := Tryz.prog) W 24 48 i0 A n c Tryz.underlying24 hi0 hn
 go_enter Tryz.func195, Tryz.ntmps195
 go_wp2
 go_ret
 exact ⟨rfl, rfl⟩
theorem clipFrame_p (A : Option Addr) (n c : Nat) (w : World) (hn : n ≤ c) : Calls Tryz.prog 195 #[.slice A n c] w (Post2 fun v w' => v = .slice A n n ∧ w = w') := (clipFrame_any A n c w hn).mono fun _ _ h => ⟨_, h.1, rfl, h.2⟩
theorem cloneint_any (v : Value) (l : List _) (w : World) (h : SlR intE w v l) (hl : l.length ≤ 1048576) :
  Calls Tryz.prog 194 #[v] w (Post2 fun v' w' => SlM intE 3 w.heap.size w' v' l ∧ Below w.heap.size w w') := by
 obtain ⟨A, c, rfl, hlc, hcm, hR⟩ := h
 obtain ⟨i0, hi0, hz0, hz1, hz2⟩ := info_parts int_info2
 have hnil := eql_snil Tryz.underlying23
 cases A with
 | none =>
  have h0 : l = [] := by
   rcases Nat.eq_zero_or_pos l.length with h | h
   ·exact List.length_eq_zero_iff.1 h
   ·obtain ⟨b, o, e, _⟩ := hR.at_ h
    cases e
  subst h0
  go_enter Tryz.func194, Tryz.ntmps194
  go_wp2
  go_ret
  exact ⟨_, rfl, SlM.nil_ _, bR⟩
 | some ad =>
  have hO := owns_lit (base := w.heap.size) (e := 3) w intE.sz (Nat.le_refl _)
  have hR2 := hR.alloc (.cells #[] 3)
  obtain ⟨v', w', hrun, hown, hg, _⟩ := run_copy intE 23 23 3 i0 _ _ Tryz.underlying23 hi0 hz0 hz1 hz2 rfl (by omega) w.heap.size _ _ hO _ _ c l hR2 hl (by simp)
  have HM := Lib.hid (slm_own rfl hown)
  have HB : Hid (Below w.heap.size w w') := bG (bA bR) hg (fun k hk => own_block hO k hk)
  clear hO hR2 hown hg
  go_enter Tryz.func194, Tryz.ntmps194
  go_wp2_with (at_builtin; refine wpList_append_run _ rfl (.tmp 5) (.tmp 6) 23 rfl _ _ _ _ rfl rfl hrun ?_)
  go_ret
  exact ⟨_, rfl, HM.out, HB.out⟩
theorem clipint_any (A : Option Addr) (n c : Nat) (w : World) (hn : n ≤ c) : Calls Tryz.prog 96 #[.slice A n c] w fun r w' => r = .returned (.slice A n n) ∧ w = w' := by
 obtain ⟨i0, hi0, _⟩ := info_parts int_info2
 have hs := fun W => slice_max (P := Tryz.prog) W 23 3 i0 A n c Tryz.underlying23 hi0 hn
 go_enter Tryz.func96, Tryz.ntmps96
 go_wp2
 go_ret
 exact ⟨rfl, rfl⟩
theorem clipint_p (A : Option Addr) (n c : Nat) (w : World) (hn : n ≤ c) : Calls Tryz.prog 96 #[.slice A n c] w (Post2 fun v w' => v = .slice A n n ∧ w = w') := (clipint_any A n c w hn).mono fun _ _ h => ⟨_, h.1, rfl, h.2⟩
theorem cloneLine_any (v : Value) (l : List _) (w : World) (h : SlR lnE w v l) (hl : l.length ≤ 1048576) :
  Calls Tryz.prog 167 #[v] w (Post2 fun v' w' => SlM lnE 106 w.heap.size w' v' l ∧ Below w.heap.size w w') := by
 obtain ⟨A, c, rfl, hlc, hcm, hR⟩ := h
 obtain ⟨i0, hi0, hz0, hz1, hz2⟩ := info_parts ln_info
 have hnil := eql_snil Tryz.underlying27
 cases A with
 | none =>
  have h0 : l = [] := by
   rcases Nat.eq_zero_or_pos l.length with h | h
   ·exact List.length_eq_zero_iff.1 h
   ·obtain ⟨b, o, e, _⟩ := hR.at_ h
    cases e
  subst h0
  go_enter Tryz.func167, Tryz.ntmps167
  go_wp2
  go_ret
  exact ⟨_, rfl, SlM.nil_ _, bR⟩
 | some ad =>
  have hO := owns_lit (base := w.heap.size) (e := 106) w lnE.sz (Nat.le_refl _)
  have hR2 := hR.alloc (.cells #[] 106)
  obtain ⟨v', w', hrun, hown, hg, _⟩ := run_copy lnE 27 27 106 i0 _ _ Tryz.underlying27 hi0 hz0 hz1 hz2 rfl (by omega) w.heap.size _ _ hO _ _ c l hR2 hl (by simp)
  have HM := Lib.hid (slm_own rfl hown)
  have HB : Hid (Below w.heap.size w w') := bG (bA bR) hg (fun k hk => own_block hO k hk)
  clear hO hR2 hown hg
  go_enter Tryz.func167, Tryz.ntmps167
  go_wp2_with (at_builtin; refine wpList_append_run _ rfl (.tmp 5) (.tmp 6) 27 rfl _ _ _ _ rfl rfl hrun ?_)
  go_ret
  exact ⟨_, rfl, HM.out, HB.out⟩
theorem clipLine_any (A : Option Addr) (n c : Nat) (w : World) (hn : n ≤ c) : Calls Tryz.prog 166 #[.slice A n c] w fun r w' => r = .returned (.slice A n n) ∧ w = w' := by
 obtain ⟨i0, hi0, _⟩ := info_parts ln_info
 have hs := fun W => slice_max (P := Tryz.prog) W 27 106 i0 A n c Tryz.underlying27 hi0 hn
 go_enter Tryz.func166, Tryz.ntmps166
 go_wp2
 go_ret
 exact ⟨rfl, rfl⟩
theorem cloneOwn_any (v : Value) (l : List _) (w : World) (h : SlR owE w v l) (hl : l.length ≤ 1048576) :
  Calls Tryz.prog 169 #[v] w (Post2 fun v' w' => SlM owE 155 w.heap.size w' v' l ∧ Below w.heap.size w w') := by
 obtain ⟨A, c, rfl, hlc, hcm, hR⟩ := h
 obtain ⟨i0, hi0, hz0, hz1, hz2⟩ := info_parts ow_info
 have hnil := eql_snil Tryz.underlying30
 cases A with
 | none =>
  have h0 : l = [] := by
   rcases Nat.eq_zero_or_pos l.length with h | h
   ·exact List.length_eq_zero_iff.1 h
   ·obtain ⟨b, o, e, _⟩ := hR.at_ h
    cases e
  subst h0
  go_enter Tryz.func169, Tryz.ntmps169
  go_wp2
  go_ret
  exact ⟨_, rfl, SlM.nil_ _, bR⟩
 | some ad =>
  have hO := owns_lit (base := w.heap.size) (e := 155) w owE.sz (Nat.le_refl _)
  have hR2 := hR.alloc (.cells #[] 155)
  obtain ⟨v', w', hrun, hown, hg, _⟩ := run_copy owE 30 30 155 i0 _ _ Tryz.underlying30 hi0 hz0 hz1 hz2 rfl (by omega) w.heap.size _ _ hO _ _ c l hR2 hl (by simp)
  have HM := Lib.hid (slm_own rfl hown)
  have HB : Hid (Below w.heap.size w w') := bG (bA bR) hg (fun k hk => own_block hO k hk)
  clear hO hR2 hown hg
  go_enter Tryz.func169, Tryz.ntmps169
  go_wp2_with (at_builtin; refine wpList_append_run _ rfl (.tmp 5) (.tmp 6) 30 rfl _ _ _ _ rfl rfl hrun ?_)
  go_ret
  exact ⟨_, rfl, HM.out, HB.out⟩
theorem clipOwn_any (A : Option Addr) (n c : Nat) (w : World) (hn : n ≤ c) : Calls Tryz.prog 168 #[.slice A n c] w fun r w' => r = .returned (.slice A n n) ∧ w = w' := by
 obtain ⟨i0, hi0, _⟩ := info_parts ow_info
 have hs := fun W => slice_max (P := Tryz.prog) W 30 155 i0 A n c Tryz.underlying30 hi0 hn
 go_enter Tryz.func168, Tryz.ntmps168
 go_wp2
 go_ret
 exact ⟨rfl, rfl⟩
end Go.Proofs.YtnaagdmaggdbmaaGreatDoor
