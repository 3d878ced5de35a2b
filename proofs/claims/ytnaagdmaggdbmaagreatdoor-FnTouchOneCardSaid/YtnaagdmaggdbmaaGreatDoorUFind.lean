/- A part of the proofs of this seat: Find, SpS. -/
import Derived.Test.YtnaagdmaggdbmaaGreatDoorUCaP
import Derived.Test.YtnaagdmaggdbmaaGreatDoorUEq
import Derived.Test.YtnaagdmaggdbmaaGreatDoorUTI
import Derived.Test.YtnaagdmaggdbmaaGreatDoorUCaS
set_option linter.unusedVariables false
set_option linter.unusedSimpArgs false
namespace Go.Proofs.YtnaagdmaggdbmaaGreatDoor
open Go.RowKit
def pix {α : Type} (p : α → Bool) (l : List α) : Int := match l.findIdx? p with | some i => i | none => -1
theorem pix_at {α : Type} {p : α → Bool} {l : List α} {k : Nat} {a : α} (hk : l[k]? = some a) (h : ∀ (j : Nat) (b : α), j < k → l[j]? = some b → p b = false) (e : p a = true) : pix p l = k := by
 obtain ⟨hlt, hk2⟩ := List.getElem?_eq_some_iff.1 hk
 have : l.findIdx? p = some k := by
  rw [List.findIdx?_eq_some_iff_getElem]
  refine ⟨hlt, by rw [hk2]; exact e, fun j hj => ?_⟩
  have := h j l[j] hj (List.getElem?_eq_getElem (by omega))
  simp [this]
 unfold pix
 rw [this]
theorem pix_none {α : Type} {p : α → Bool} {l : List α} {n : Nat} (hn : l.length ≤ n) (h : ∀ (j : Nat) (b : α), j < n → l[j]? = some b → p b = false) : pix p l = -1 := by
 have : l.findIdx? p = none := by
  rw [List.findIdx?_eq_none_iff]
  intro x hx
  obtain ⟨j, hj, e⟩ := List.getElem_of_mem hx
  have := h j x (by omega) (by rw [List.getElem?_eq_getElem hj, e])
  simp [this]
 unfold pix
 rw [this]
theorem pix_step {α : Type} {p : α → Bool} {l : List α} {k : Nat} {a : α} (hk : l[k]? = some a) (h : ∀ (j : Nat) (b : α), j < k → l[j]? = some b → p b = false) (e : p a = false) : ∀ (j : Nat) (b : α), j < k + 1 → l[j]? = some b → p b = false := by
 intro j b hj hb
 rcases Nat.lt_or_ge j k with h1 | h1
 ·exact h j b h1 hb
 ·obtain rfl : j = k := by omega
  rw [hk] at hb
  injection hb with hb
  rw [← hb]; exact e
theorem cells_at {W : World} {cs : Array Value} {t : TypeId} {n i : Nat} {v : Value} (hn : n = W.heap.size) (e : cs[i]? = some v) : (W.alloc (.cells cs t)).cell? ⟨n, i, none⟩ = some v := by
 subst hn
 exact (Own.new_ _ _ _).cell_ i e
theorem cells_far {W : World} {o : Obj} {n i : Nat} {v : Value} (hn : n < W.heap.size) (e : W.cell? ⟨n, i, none⟩ = some v) : (W.alloc o).cell? ⟨n, i, none⟩ = some v := ((bA (bR (w := W)) (o := o)).cell (p := ⟨n, i, none⟩) hn).trans e
def fitK (s p : Int) (f : Fr) : Bool := f.used && keq f.s f.p s p
theorem find1_any (f : Fr) (g : Nat) (s p : Int) (w : World) (hg : g < w.heap.size) (h0 : w.cell? ⟨g, 0, none⟩ = some (.int .i64 s)) (h1 : w.cell? ⟨g, 1, none⟩ = some (.int .i64 p)) :
  Calls Tryz.prog 135 #[.agg #[.bool f.used, .int .i64 f.s, .int .i64 f.p, .int .i64 f.r, .int .i64 f.n], .pointer (some ⟨g, 0, none⟩)] w fun r w' => r = .returned (.bool (fitK s p f)) ∧ Below w.heap.size w w' := by
 have he := fun W => eql_key f.s f.p s p W
 generalize hq : keq f.s f.p s p = q at he
 cases hu : f.used with
 | true =>
  have H : Hid (fitK s p f = q) := by simp [Hid, fitK, hu, hq]
  go_enter Tryz.func135, Tryz.ntmps135
  go_wp2
  go_ret
  exact ⟨by rw [H.out]; rfl, bA bR⟩
 | false =>
  have H : Hid (fitK s p f = false) := by simp [Hid, fitK, hu]
  go_enter Tryz.func135, Tryz.ntmps135
  go_wp2
  go_ret
  exact ⟨by rw [H.out]; rfl, bA bR⟩
theorem indexFr_any (A : Option Addr) (c : Nat) (l : List Fr) (g : Nat) (s p : Int) (w : World) (h : Rs frE w.heap.size w A l) (hl : l.length ≤ 9223372036854775807)
  (hg : g < w.heap.size) (h0 : w.cell? ⟨g, 0, none⟩ = some (.int .i64 s)) (h1 : w.cell? ⟨g, 1, none⟩ = some (.int .i64 p)) :
  Calls Tryz.prog 134 #[.slice A l.length c, .func (.func 135) #[] #[.pointer (some ⟨g, 0, none⟩)]] w fun r w' => r = .returned (.int .i64 (pix (fitK s p) l)) ∧ Below w.heap.size w w' := by
 go_enter Tryz.func134, Tryz.ntmps134
 go_wp2
 go_loopw [5, 8] (fun _ i wr => ∃ k : Nat, k ≤ l.length ∧ i = .int .i64 k ∧ Below w.heap.size w wr ∧ Hid (∀ (j : Nat) (b : _), j < k → l[j]? = some b → (fitK s p) b = false)) (fun _ i _ => l.length - (intOf i).toNat)
 case atStart => exact ⟨0, by omega, rfl, bR, fun j b hj => by omega⟩
 case round =>
  obtain ⟨k, hk, rfl, hb, hall⟩ := hrel
  by_cases hlt : k < l.length
  ·obtain ⟨a, ea⟩ : ∃ a, l[k]? = some a := ⟨_, List.getElem?_eq_getElem hlt⟩
   obtain ⟨b, o, rfl, hbb, d0, d1, d2, d3, d4⟩ := (h.below hb).fr ea
   have k0 := (hb.cell (p := ⟨g, 0, none⟩) hg).trans h0
   have k1 := (hb.cell (p := ⟨g, 1, none⟩) hg).trans h1
   go_wp2_with fail
   refine (find1_any a g s p _ (Nat.lt_of_lt_of_le hg hb.size) k0 k1).mono ?_
   rintro e w1 ⟨rfl, hb1⟩
   cases hv : (fitK s p) a with
   | true =>
    have H : Hid (pix (fitK s p) l = k) := pix_at ea hall.out hv
    clear ea
    go_wp2
    go_ret
    exact ⟨by rw [H.out]; rfl, bT hb hb1⟩
   | false =>
    have H := Lib.hid (pix_step ea hall.out hv)
    clear ea
    go_wp2
    go_roundw
    case rel => exact ⟨k + 1, by omega, by go_num, bT hb hb1, H⟩
    case measure => simp [intOf]; omega
  ·have H : Hid (pix (fitK s p) l = -1) := pix_none (Nat.le_of_not_lt hlt) hall.out
   go_wp2
   go_ret
   exact ⟨by rw [H.out]; rfl, hb⟩
theorem fitK_fnd (fs : List Fr) (s p : Int) : pix (fitK s p) fs = fndI fs s p := by
 have : (fitK s p) = (fun f : Fr => f.used && decide ((f.s, f.p) = (s, p))) := by
  funext f
  unfold fitK keq
  congr 1
  by_cases h1 : f.s = s <;> by_cases h2 : f.p = p <;> simp [h1, h2]
 unfold pix fndI fnd
 rw [this]
 try (cases fs.findIdx? (fun f : Fr => f.used && decide ((f.s, f.p) = (s, p))) <;> rfl)
theorem find_any (vb vf : Value) (t : Tab) (s p : Int) (w : World) (hT : TaR w vb vf t) :
  Calls Tryz.prog 68 #[.agg #[vb, vf], .agg #[.int .i64 s, .int .i64 p]] w fun r w' => r = .returned (.int .i64 (fndI t.fs s p)) ∧ Below w.heap.size w w' := by
 obtain ⟨Ab, cb, rfl, hbc, hbm, hB⟩ := hT.b
 obtain ⟨Af, cf, rfl, hfc, hfm, hF⟩ := hT.f
 have hfm2 : t.fs.length ≤ 9223372036854775807 := by unfold maxLen at hfm; omega
 rw [← fitK_fnd]
 go_enter Tryz.func68, Tryz.ntmps68
 go_wp2_with fail
 refine (indexFr_any _ _ _ _ s p _ ?_ hfm2 ?_ ?_ ?_).mono ?_
 case refine_5 =>
  rintro e w1 ⟨rfl, hb1⟩
  go_wp2
  go_ret
  exact ⟨rfl, bT (by first | exact bA (bA bR) | exact bA bR) hb1⟩
 ·exact hF.now (Nat.le_refl _) (bA (bA bR))
 ·simp
 ·exact cells_at (by simp) rfl
 ·exact cells_at (by simp) rfl
theorem own1_any (f : Int × Int) (g : Nat) (s : Int) (w : World) (hg : g < w.heap.size) (h0 : w.cell? ⟨g, 0, none⟩ = some (.int .i64 s)) :
  Calls Tryz.prog 133 #[.agg #[.int .i64 f.1, .int .i64 f.2], .pointer (some ⟨g, 0, none⟩)] w fun r w' => r = .returned (.bool (decide (f.1 = s))) ∧ Below w.heap.size w w' := by
 go_enter Tryz.func133, Tryz.ntmps133
 go_wp2
 go_ret
 exact ⟨rfl, bA bR⟩
theorem indexOw_any (A : Option Addr) (c : Nat) (l : List (Int × Int)) (g : Nat) (s : Int) (w : World) (h : Rs owE w.heap.size w A l) (hl : l.length ≤ 9223372036854775807)
  (hg : g < w.heap.size) (h0 : w.cell? ⟨g, 0, none⟩ = some (.int .i64 s)) :
  Calls Tryz.prog 132 #[.slice A l.length c, .func (.func 133) #[] #[.pointer (some ⟨g, 0, none⟩)]] w fun r w' => r = .returned (.int .i64 (pix (fun o : Int × Int => decide (o.1 = s)) l)) ∧ Below w.heap.size w w' := by
 go_enter Tryz.func132, Tryz.ntmps132
 go_wp2
 go_loopw [5, 8] (fun _ i wr => ∃ k : Nat, k ≤ l.length ∧ i = .int .i64 k ∧ Below w.heap.size w wr ∧ Hid (∀ (j : Nat) (b : _), j < k → l[j]? = some b → (fun o : Int × Int => decide (o.1 = s)) b = false)) (fun _ i _ => l.length - (intOf i).toNat)
 case atStart => exact ⟨0, by omega, rfl, bR, fun j b hj => by omega⟩
 case round =>
  obtain ⟨k, hk, rfl, hb, hall⟩ := hrel
  by_cases hlt : k < l.length
  ·obtain ⟨a, ea⟩ : ∃ a, l[k]? = some a := ⟨_, List.getElem?_eq_getElem hlt⟩
   obtain ⟨b, o, rfl, hbb, d0, d1⟩ := (h.below hb).ow ea
   have k0 := (hb.cell (p := ⟨g, 0, none⟩) hg).trans h0
   go_wp2_with fail
   refine (own1_any a g s _ (Nat.lt_of_lt_of_le hg hb.size) k0).mono ?_
   rintro e w1 ⟨rfl, hb1⟩
   cases hv : (fun o : Int × Int => decide (o.1 = s)) a with
   | true =>
    have H : Hid (pix (fun o : Int × Int => decide (o.1 = s)) l = k) := pix_at ea hall.out hv
    clear ea
    go_wp2
    go_ret
    exact ⟨by rw [H.out]; rfl, bT hb hb1⟩
   | false =>
    have H := Lib.hid (pix_step ea hall.out hv)
    clear ea
    go_wp2
    go_roundw
    case rel => exact ⟨k + 1, by omega, by go_num, bT hb hb1, H⟩
    case measure => simp [intOf]; omega
  ·have H : Hid (pix (fun o : Int × Int => decide (o.1 = s)) l = -1) := pix_none (Nat.le_of_not_lt hlt) hall.out
   go_wp2
   go_ret
   exact ⟨by rw [H.out]; rfl, hb⟩
theorem pix_own (os : List (Int × Int)) (s : Int) : pix (fun o : Int × Int => decide (o.1 = s)) os = ownI os s := by
 unfold pix ownI own
 cases os.findIdx? (fun o : Int × Int => decide (o.1 = s)) <;> rfl
theorem own_any (vo : Value) (g : Tg) (s : Int) (w : World) (hT : SlR owE w vo g.os) :
  Calls Tryz.prog 66 #[.agg #[.int .i64 g.count, .int .i64 g.next, .int .i64 g.round, vo], .int .i64 s] w fun r w' => r = .returned (.int .i64 (ownI g.os s)) ∧ Below w.heap.size w w' := by
 obtain ⟨Ab, cb, rfl, hbc, hbm, hB⟩ := hT
 have hfm2 : g.os.length ≤ 9223372036854775807 := by unfold maxLen at hbm; omega
 rw [← pix_own]
 go_enter Tryz.func66, Tryz.ntmps66
 go_wp2_with fail
 refine (indexOw_any _ _ _ _ s _ ?_ hfm2 ?_ ?_).mono ?_
 case refine_4 =>
  rintro e w1 ⟨rfl, hb1⟩
  go_wp2
  go_ret
  exact ⟨rfl, bT (by first | exact bA (bA bR) | exact bA bR) hb1⟩
 ·exact hB.now (Nat.le_refl _) (bA (bA bR))
 ·simp
 ·exact cells_at (by simp) rfl
theorem place1_any (f : Ln) (g h : Nat) (tag page : Int) (w : World) (hg : g < w.heap.size) (hh : h < w.heap.size) (h0 : w.cell? ⟨g, 0, none⟩ = some (.int .i64 page)) (h1 : w.cell? ⟨h, 0, none⟩ = some (.int .i64 tag)) :
  Calls Tryz.prog 172 #[.agg #[.bool f.v, .int .i64 f.t, .int .i64 f.p, .int .i64 f.f, .int .i64 f.r, .bool f.w], .pointer (some ⟨g, 0, none⟩), .pointer (some ⟨h, 0, none⟩)] w fun r w' => r = .returned (.bool (fits tag page f)) ∧ Below w.heap.size w w' := by
 cases hv : f.v with
 | false =>
  have H : Hid (fits tag page f = false) := by simp [Hid, fits, hv]
  go_enter Tryz.func172, Tryz.ntmps172
  go_wp2
  go_ret
  exact ⟨by rw [H.out]; rfl, bA bR⟩
 | true =>
  by_cases hp : f.p = page
  ·by_cases ht : f.t = tag
   ·have H : Hid (fits tag page f = true) := by simp [Hid, fits, hv, hp, ht]
    go_enter Tryz.func172, Tryz.ntmps172
    go_wp2
    go_ret
    exact ⟨by rw [H.out]; rfl, bA bR⟩
   ·have H : Hid (fits tag page f = (f.t == tag || f.t == -1)) := by
     show _ = _
     rw [beq_eq_false_iff_ne.2 ht, Bool.false_or]
     simp [fits, hv, hp, ht]
     by_cases h : f.t = -1 <;> simp [h]
    go_enter Tryz.func172, Tryz.ntmps172
    go_wp2
    go_ret
    exact ⟨by rw [H.out]; rfl, bA bR⟩
  ·have H : Hid (fits tag page f = false) := by simp [Hid, fits, hp]
   go_enter Tryz.func172, Tryz.ntmps172
   go_wp2
   go_ret
   exact ⟨by rw [H.out]; rfl, bA bR⟩
theorem indexLn_any (A : Option Addr) (c : Nat) (l : List Ln) (g i : Nat) (tag page : Int) (w : World) (h : Rs lnE w.heap.size w A l) (hl : l.length ≤ 9223372036854775807)
  (hg : g < w.heap.size) (h0 : w.cell? ⟨g, 0, none⟩ = some (.int .i64 page)) (hi : i < w.heap.size) (h1 : w.cell? ⟨i, 0, none⟩ = some (.int .i64 tag)) :
  Calls Tryz.prog 171 #[.slice A l.length c, .func (.func 172) #[] #[.pointer (some ⟨g, 0, none⟩), .pointer (some ⟨i, 0, none⟩)]] w fun r w' => r = .returned (.int .i64 (pix (fits tag page) l)) ∧ Below w.heap.size w w' := by
 go_enter Tryz.func171, Tryz.ntmps171
 go_wp2
 go_loopw [5, 8] (fun _ i wr => ∃ k : Nat, k ≤ l.length ∧ i = .int .i64 k ∧ Below w.heap.size w wr ∧ Hid (∀ (j : Nat) (b : _), j < k → l[j]? = some b → (fits tag page) b = false)) (fun _ i _ => l.length - (intOf i).toNat)
 case atStart => exact ⟨0, by omega, rfl, bR, fun j b hj => by omega⟩
 case round =>
  obtain ⟨k, hk, rfl, hb, hall⟩ := hrel
  by_cases hlt : k < l.length
  ·obtain ⟨a, ea⟩ : ∃ a, l[k]? = some a := ⟨_, List.getElem?_eq_getElem hlt⟩
   obtain ⟨b, o, rfl, hbb, d0, d1, d2, d3, d4, d5⟩ := (h.below hb).ln ea
   have k0 := (hb.cell (p := ⟨g, 0, none⟩) hg).trans h0
   have k1 := (hb.cell (p := ⟨i, 0, none⟩) hi).trans h1
   go_wp2_with fail
   refine (place1_any a g i tag page _ (Nat.lt_of_lt_of_le hg hb.size) (Nat.lt_of_lt_of_le hi hb.size) k0 k1).mono ?_
   rintro e w1 ⟨rfl, hb1⟩
   cases hv : (fits tag page) a with
   | true =>
    have H : Hid (pix (fits tag page) l = k) := pix_at ea hall.out hv
    clear ea
    go_wp2
    go_ret
    exact ⟨by rw [H.out]; rfl, bT hb hb1⟩
   | false =>
    have H := Lib.hid (pix_step ea hall.out hv)
    clear ea
    go_wp2
    go_roundw
    case rel => exact ⟨k + 1, by omega, by go_num, bT hb hb1, H⟩
    case measure => simp [intOf]; omega
  ·have H : Hid (pix (fits tag page) l = -1) := pix_none (Nat.le_of_not_lt hlt) hall.out
   go_wp2
   go_ret
   exact ⟨by rw [H.out]; rfl, hb⟩
theorem pix_plc (ls : List Ln) (tag page : Int) : pix (fits tag page) ls = plcI ls tag page := by
 unfold pix plcI plc
 cases ls.findIdx? (fits tag page) <;> rfl
theorem place_any (vl : Value) (c : Ca) (tag page : Int) (w : World) (hT : SlR lnE w vl c.ls) :
  Calls Tryz.prog 103 #[.agg #[vl, .int .i64 c.hand], .int .i64 tag, .int .i64 page] w fun r w' => r = .returned (.int .i64 (plcI c.ls tag page)) ∧ Below w.heap.size w w' := by
 obtain ⟨Ab, cb, rfl, hbc, hbm, hB⟩ := hT
 have hfm2 : c.ls.length ≤ 9223372036854775807 := by unfold maxLen at hbm; omega
 rw [← pix_plc]
 go_enter Tryz.func103, Tryz.ntmps103
 go_wp2_with fail
 refine (indexLn_any _ _ _ _ _ tag page _ ?_ hfm2 ?_ ?_ ?_ ?_).mono ?_
 case refine_6 =>
  rintro e w1 ⟨rfl, hb1⟩
  go_wp2
  go_ret
  exact ⟨rfl, bT (bA (bA (bA bR))) hb1⟩
 ·exact hB.now (Nat.le_refl _) (bA (bA (bA bR)))
 ·simp
 ·exact cells_at (by simp) rfl
 ·simp
 ·exact cells_far (by simp) (cells_at (by simp) rfl)
end Go.Proofs.YtnaagdmaggdbmaaGreatDoor
namespace Go.Proofs.YtnaagdmaggdbmaaGreatDoor
open Go.RowKit
set_option maxRecDepth 1000000
theorem sKeyFor_any (s p : Int) (w : World) : Calls Tryz.prog 49 #[.int .i64 s, .int .i64 p] w fun r w' => r = .returned (.agg #[.int .i64 (keyI s p), .int .i64 p]) ∧ Below w.heap.size w w' := by
 by_cases h : 128 ≤ p
 ·have H : Hid (keyI s p = 0) := by show _ = _; unfold keyI; rw [if_pos h]
  go_enter Tryz.func49, Tryz.ntmps49
  go_wp2
  refine bodyPost_ret (v := .agg #[.int .i64 (keyI s p), .int .i64 p]) (by simp [results, Tryz.results49, go_sem, H.out]) rfl ⟨rfl, ?_⟩
  repeat first | exact bR | refine bS ?_ (by simp) | refine bA ?_
 ·have H : Hid (keyI s p = s) := by show _ = _; unfold keyI; rw [if_neg h]
  go_enter Tryz.func49, Tryz.ntmps49
  go_wp2
  refine bodyPost_ret (v := .agg #[.int .i64 (keyI s p), .int .i64 p]) (by simp [results, Tryz.results49, go_sem, H.out]) rfl ⟨rfl, ?_⟩
  repeat first | exact bR | refine bS ?_ (by simp) | refine bA ?_
set_option maxHeartbeats 1000000 in
theorem l5Find_any (vo : Value) (g : Tg) (s : Int) (w : World) (hT : SlR owE w vo g.os) :
  Calls Tryz.prog 115 #[.agg #[.int .i64 g.count, .int .i64 g.next, .int .i64 g.round, vo], .int .i64 s] w fun r w' => r = .returned (.int .i64 (ownI g.os s)) ∧ Below w.heap.size w w' := by
 obtain ⟨A, cc, rfl, hbc, hbm, hL⟩ := hT
 have hfm2 : g.os.length ≤ 9223372036854775807 := by unfold maxLen at hbm; omega
 have HL := Lib.hid hL
 have hbx := Own.new_ w 32 #[.int .i64 g.count, .int .i64 g.next, .int .i64 g.round, .slice A g.os.length cc]
 have hbz : Below w.heap.size w (w.alloc (.cells #[.int .i64 g.count, .int .i64 g.next, .int .i64 g.round, .slice A g.os.length cc] 32)) := bA bR
 have hsz0 : (w.alloc (.cells #[.int .i64 g.count, .int .i64 g.next, .int .i64 g.round, .slice A g.os.length cc] 32)).heap.size = w.heap.size + 1 := by simp
 generalize hW : w.alloc (.cells #[.int .i64 g.count, .int .i64 g.next, .int .i64 g.round, .slice A g.os.length cc] 32) = W0 at hbx hbz hsz0
 have q0 := hbx.cell_ 0 (v := .int .i64 g.count) rfl
 have q1 := hbx.cell_ 1 (v := .int .i64 g.next) rfl
 have q2 := hbx.cell_ 2 (v := .int .i64 g.round) rfl
 have q3 := hbx.cell_ 3 (v := .slice A g.os.length cc) rfl
 have HBX := Lib.hid hbx
 clear hL hbx
 clear q0 q1 q2 q3 hsz0
 go_enter Tryz.func115, Tryz.ntmps115
 go_wp2
 go_loopw [5] (fun u wr => ∃ k : Nat, k ≤ g.os.length ∧ u = .int .i64 k ∧ Hid (∀ (j : Nat) (q : Int × Int), j < k → g.os[j]? = some q → ¬ q.1 = s) ∧ Own wr w.heap.size 32 #[.int .i64 g.count, .int .i64 g.next, .int .i64 g.round, .slice A g.os.length cc] ∧ Below w.heap.size w wr) (fun u _ => g.os.length - (intOf u).toNat)
 case atStart => exact ⟨0, by omega, rfl, (fun j q h => absurd h (by omega)), HBX.out, hbz⟩
 case round =>
  obtain ⟨k, hk, rfl, hacc, hbox, hbi⟩ := hrel
  have q3 := hbox.cell_ 3 (v := .slice A g.os.length cc) rfl
  by_cases hlt : k < g.os.length
  ·obtain ⟨o, eo⟩ : ∃ o, g.os[k]? = some o := ⟨_, List.getElem?_eq_getElem hlt⟩
   obtain ⟨b, ob, rfl, hbb, d0, d1⟩ := (HL.out.below hbi).ow eo
   have HBOX := Lib.hid hbox
   clear hbox
   by_cases ht : o.1 = s
   ·have H := Lib.hid (own_at eo hacc.out ht)
    clear eo
    go_wp2
    go_ret
    exact ⟨by rw [H.out]; rfl, hbi⟩
   ·have HACC := Lib.hid (own_go eo hacc.out ht)
    clear eo
    go_wp2
    go_roundw
    case rel => exact ⟨k + 1, by omega, by go_num, HACC, HBOX.out, hbi⟩
    case measure => simp [intOf]; omega
  ·have H := Lib.hid (own_none (Nat.le_of_not_lt hlt) hacc.out)
   clear hbox
   go_wp2
   go_ret
   exact ⟨by rw [H.out]; rfl, hbi⟩
set_option maxHeartbeats 4000000 in
theorem sTagsValid_any (vo : Value) (g : Tg) (w : World) (hT : SlR owE w vo g.os) :
  Calls Tryz.prog 114 #[.agg #[.int .i64 g.count, .int .i64 g.next, .int .i64 g.round, vo]] w fun r w' => r = .returned (.bool (tgv g)) ∧ Below w.heap.size w w' := by
 obtain ⟨A, cc, rfl, hbc, hbm, hL⟩ := hT
 have hfm2 : g.os.length ≤ 9223372036854775807 := by unfold maxLen at hbm; omega
 have HL := Lib.hid hL
 have hbx := Own.new_ w 32 #[.int .i64 g.count, .int .i64 g.next, .int .i64 g.round, .slice A g.os.length cc]
 have hbz : Below w.heap.size w (w.alloc (.cells #[.int .i64 g.count, .int .i64 g.next, .int .i64 g.round, .slice A g.os.length cc] 32)) := bA bR
 have hsz0 : (w.alloc (.cells #[.int .i64 g.count, .int .i64 g.next, .int .i64 g.round, .slice A g.os.length cc] 32)).heap.size = w.heap.size + 1 := by simp
 generalize hW : w.alloc (.cells #[.int .i64 g.count, .int .i64 g.next, .int .i64 g.round, .slice A g.os.length cc] 32) = W0 at hbx hbz hsz0
 have q0 := hbx.cell_ 0 (v := .int .i64 g.count) rfl
 have q1 := hbx.cell_ 1 (v := .int .i64 g.next) rfl
 have q2 := hbx.cell_ 2 (v := .int .i64 g.round) rfl
 have q3 := hbx.cell_ 3 (v := .slice A g.os.length cc) rfl
 have HBX := Lib.hid hbx
 clear hL hbx
 by_cases h1 : g.count < 1
 ·go_enter Tryz.func114, Tryz.ntmps114
  have HE : Hid (tgv g = false) := tgv_no fun h => by have := (tgv_parts h).1; omega
  go_wp2
  go_ret
  exact ⟨by rw [HE.out]; rfl, hbz⟩
 by_cases h2 : 8 < g.count
 ·go_enter Tryz.func114, Tryz.ntmps114
  have HE : Hid (tgv g = false) := tgv_no fun h => by have := (tgv_parts h).1; omega
  go_wp2
  go_ret
  exact ⟨by rw [HE.out]; rfl, hbz⟩
 by_cases h3 : g.next < 0
 ·go_enter Tryz.func114, Tryz.ntmps114
  have HE : Hid (tgv g = false) := tgv_no fun h => by have := (tgv_parts h).1; omega
  go_wp2
  go_ret
  exact ⟨by rw [HE.out]; rfl, hbz⟩
 by_cases h4 : g.count < g.next
 ·go_enter Tryz.func114, Tryz.ntmps114
  have HE : Hid (tgv g = false) := tgv_no fun h => by have := (tgv_parts h).1; omega
  go_wp2
  go_ret
  exact ⟨by rw [HE.out]; rfl, hbz⟩
 by_cases h5 : g.round < 0
 ·go_enter Tryz.func114, Tryz.ntmps114
  have HE : Hid (tgv g = false) := tgv_no fun h => by have := (tgv_parts h).1; omega
  go_wp2
  go_ret
  exact ⟨by rw [HE.out]; rfl, hbz⟩
 by_cases h6 : 1000000 < g.round
 ·go_enter Tryz.func114, Tryz.ntmps114
  have HE : Hid (tgv g = false) := tgv_no fun h => by have := (tgv_parts h).1; omega
  go_wp2
  go_ret
  exact ⟨by rw [HE.out]; rfl, hbz⟩
 by_cases h7 : g.next < (g.os.length : Int)
 ·go_enter Tryz.func114, Tryz.ntmps114
  have HE : Hid (tgv g = false) := tgv_no fun h => by have := tok_len (tgv_parts h).2 (tgv_parts h).1.2.2.1; omega
  go_wp2
  go_ret
  exact ⟨by rw [HE.out]; rfl, hbz⟩
 have HGB : Hid (tgb g = true) := tgb_iff.2 (by omega)
 go_enter Tryz.func114, Tryz.ntmps114
 go_wp2
 clear q0 q1 q2 q3
 go_loopw [3] (fun u wr => ∃ k : Nat, k ≤ g.os.length ∧ u = .int .i64 k ∧ Hid (tok g.os g.next k = true) ∧ Own wr w.heap.size 32 #[.int .i64 g.count, .int .i64 g.next, .int .i64 g.round, .slice A g.os.length cc] ∧ Below w.heap.size w wr) (fun u _ => g.os.length - (intOf u).toNat)
 case atStart => exact ⟨0, by omega, rfl, rfl, HBX.out, hbz⟩
 case round =>
  clear hbz
  obtain ⟨k, hk, rfl, htok, hbox, hbz⟩ := hrel
  have q1 := hbox.cell_ 1 (v := .int .i64 g.next) rfl
  have q3 := hbox.cell_ 3 (v := .slice A g.os.length cc) rfl
  have HBOX := Lib.hid hbox
  have hbl := hbox.lt
  clear hbox
  by_cases hlt : k < g.os.length
  ·obtain ⟨o, eo⟩ : ∃ o, g.os[k]? = some o := ⟨_, List.getElem?_eq_getElem hlt⟩
   obtain ⟨b, ob, rfl, hbb, d0, d1⟩ := (HL.out.below hbz).ow eo
   have EO := Lib.hid eo
   have hx := Own.new_ wr 155 #[.int .i64 o.1, .int .i64 o.2]
   have HB5 := Lib.hid (HBOX.out.alloc (o := .cells #[.int .i64 o.1, .int .i64 o.2] 155))
   have hb5 : Below w.heap.size w (wr.alloc (.cells #[.int .i64 o.1, .int .i64 o.2] 155)) := bA hbz
   generalize hW5 : wr.alloc (.cells #[.int .i64 o.1, .int .i64 o.2] 155) = w5 at *
   have z1 := xcell (w := w5) (HB5.out.cell_ 1 (v := .int .i64 g.next) rfl) HB5.out.lt
   have z3 := xcell (w := w5) (HB5.out.cell_ 3 (v := .slice (some ⟨b, ob, none⟩) g.os.length cc) rfl) HB5.out.lt
   have y0 := xcell (w := w5) (hx.cell_ 0 (v := .int .i64 o.1) rfl) hx.lt
   have y1 := xcell (w := w5) (hx.cell_ 1 (v := .int .i64 o.2) rfl) hx.lt
   have HX := Lib.hid hx
   have KW := fun W => l1Space_any o.1 W
   clear eo hx
   cases g1 : inR o.1 16 with
   | false =>
    rw [g1] at KW
    have HK := Lib.hid KW
    clear KW
    have HE : Hid (tgv g = false) := tgv_ob EO.out (.inl g1)
    go_wp2
    refine wp_region_ext (by kernel_rfl) (by kernel_rfl) ?_
    repeat (go_big_quiet_step ((go_at_call 188; exact ext_same (HK.out _))))
    refine wpQuiet_nil ?_
    intro _ hw'
    obtain ⟨⟨wq, hq⟩, hw''⟩ := hw'
    subst hw''
    try dsimp only
    go_wp2
    go_ret
    exact ⟨by rw [HE.out]; rfl, bT hb5 hq⟩
   | true =>
   rw [g1] at KW
   have HK := Lib.hid KW
   clear KW
   by_cases g2 : o.2 < 0
   case pos =>
    have HE : Hid (tgv g = false) := tgv_no fun h => by
     obtain ⟨o', e', _, h2, _⟩ := tok_at (tgv_parts h).2 hlt
     rw [EO.out] at e'
     injection e' with e'
     subst e'
     omega
    go_wp2
    refine wp_region_ext (by kernel_rfl) (by kernel_rfl) ?_
    repeat (go_big_quiet_step ((go_at_call 188; exact ext_same (HK.out _))))
    refine wpQuiet_nil ?_
    intro _ hw'
    obtain ⟨⟨wq, hq⟩, hw''⟩ := hw'
    subst hw''
    try dsimp only
    go_wp2
    go_ret
    exact ⟨by rw [HE.out]; rfl, bT hb5 hq⟩
   case neg =>
   by_cases g3 : g.next ≤ o.2
   case pos =>
    have HE : Hid (tgv g = false) := tgv_ob EO.out (.inr (.inl (by omega)))
    go_wp2
    have n2 : ¬ o.2 < 0 := by omega
    refine wp_region_ext (by kernel_rfl) (by kernel_rfl) ?_
    repeat (go_big_quiet_step ((go_at_call 188; exact ext_same (HK.out _))))
    refine wpQuiet_nil ?_
    intro _ hw'
    obtain ⟨⟨wq, hq⟩, hw''⟩ := hw'
    subst hw''
    try dsimp only
    go_wp2
    go_ret
    exact ⟨by rw [HE.out]; rfl, bT hb5 hq⟩
   case neg =>
   rcases k with _ | j
   ·have HLT : Hid (tlast g.os 0 < o.2) := by show _ < _; rw [tlast_0]; omega
    simp only [Nat.zero_mul, Nat.add_zero] at d0 d1
    go_wp2
    have n2 : ¬ o.2 < 0 := by omega
    have n3 : ¬ g.next ≤ o.2 := by omega
    refine wp_region_ext (by kernel_rfl) (by kernel_rfl) ?_
    repeat (go_big_quiet_step ((go_at_call 188; exact ext_same (HK.out _))))
    refine wpQuiet_nil ?_
    intro _ hw'
    obtain ⟨⟨wq, hq⟩, hw''⟩ := hw'
    subst hw''
    try dsimp only
    go_wp2
    go_loopw [5] (fun u wi => u = .int .i64 0 ∧ Below w5.heap.size w5 wi) (fun u _ => 0)
    case atStart => exact ⟨rfl, hq⟩
    case round =>
     obtain ⟨rfl, hbi⟩ := hrel
     have HTOK : Hid (tok g.os g.next (0 + 1) = true) := tok_step htok.out EO.out g1 (by omega) HLT.out (fun r q h => absurd h (by omega))
     have hbx6 := HB5.out.below hbi
     go_wp2
     go_roundw
     case rel => exact ⟨0 + 1, by omega, by go_num, HTOK, hbx6, bT hb5 hbi⟩
     case measure => simp [intOf]; omega
   ·obtain ⟨q, eq⟩ : ∃ q, g.os[j]? = some q := ⟨_, List.getElem?_eq_getElem (by omega)⟩
    obtain ⟨b', ob', e', hbb', f0, f1⟩ := (HL.out.below hbz).ow eq
    injection e' with e'
    injection e' with e' e2'
    subst e' e2'
    have y3 := xcell (w := w5) (p := ⟨b, ob + j * 2 + 1, none⟩) (v := .int .i64 q.2) (by rw [← hW5]; exact cells_far (by have := hbz.size; omega) f1) (by have := hb5.size; show b < _; omega)
    have HTL := Lib.hid (tlast_of eq)
    clear eq f0 f1
    by_cases g4 : o.2 ≤ q.2
    ·have HE : Hid (tgv g = false) := tgv_ob EO.out (.inr (.inr (.inl (by rw [HTL.out]; omega))))
     go_wp2
     have n2 : ¬ o.2 < 0 := by omega
     have n3 : ¬ g.next ≤ o.2 := by omega
     refine wp_region_ext (by kernel_rfl) (by kernel_rfl) ?_
     repeat (go_big_quiet_step ((go_at_call 188; exact ext_same (HK.out _))))
     refine wpQuiet_nil ?_
     intro _ hw'
     obtain ⟨⟨wq, hq⟩, hw''⟩ := hw'
     subst hw''
     try dsimp only
     go_wp2
     go_ret
     exact ⟨by rw [HE.out]; rfl, bT hb5 hq⟩
    ·have HLT : Hid (tlast g.os (j + 1) < o.2) := by show _ < _; rw [HTL.out]; omega
     go_wp2
     have n2 : ¬ o.2 < 0 := by omega
     have n3 : ¬ g.next ≤ o.2 := by omega
     have n4 : ¬ o.2 ≤ q.2 := by omega
     refine wp_region_ext (by kernel_rfl) (by kernel_rfl) ?_
     repeat (go_big_quiet_step ((go_at_call 188; exact ext_same (HK.out _))))
     refine wpQuiet_nil ?_
     intro _ hw'
     obtain ⟨⟨wq, hq⟩, hw''⟩ := hw'
     subst hw''
     try dsimp only
     go_wp2
     go_loopw [5] (fun u wi => ∃ r : Nat, r ≤ j + 1 ∧ u = .int .i64 r ∧ Hid (∀ (m : Nat) (q : Int × Int), m < r → g.os[m]? = some q → ¬ q.1 = o.1) ∧ Below w5.heap.size w5 wi) (fun u _ => j + 1 - (intOf u).toNat)
     case atStart => exact ⟨0, by omega, rfl, (fun m q h => absurd h (by omega)), hq⟩
     case round =>
      obtain ⟨r, hr, rfl, hacc, hbi⟩ := hrel
      by_cases hlr : r < j + 1
      ·obtain ⟨p, ep⟩ : ∃ p, g.os[r]? = some p := ⟨_, List.getElem?_eq_getElem (by omega)⟩
       obtain ⟨b2, o2, e2, hbb2, f0, f1⟩ := (HL.out.below (bT hb5 hbi)).ow ep
       injection e2 with e2
       injection e2 with e2 e3
       subst e2 e3
       have v0 := xcell f0 (by have := (bT hb5 hbi).size; show b < _; omega)
       have v3 := xcell ((HB5.out.below hbi).cell_ 3 (v := .slice (some ⟨b, ob, none⟩) g.os.length cc) rfl) (HB5.out.below hbi).lt
       have v4 := xcell ((HX.out.below hbi).cell_ 0 (v := .int .i64 o.1) rfl) (HX.out.below hbi).lt
       have EP := Lib.hid ep
       clear ep f0 f1
       by_cases hp : p.1 = o.1
       ·have HE : Hid (tgv g = false) := tgv_ob EO.out (.inr (.inr (.inr ⟨r, p, by omega, EP.out, hp⟩)))
        go_wp2
        refine wp_region_ext (by kernel_rfl) (by kernel_rfl) ?_
        repeat (go_big_quiet_step (fail))
        refine wpQuiet_nil ?_
        intro _ hw'
        obtain ⟨⟨wq, hq⟩, hw''⟩ := hw'
        subst hw''
        try dsimp only
        go_wp2
        go_ret
        exact ⟨by rw [HE.out]; rfl, bT (bT hb5 hbi) hq⟩
       ·have HACC : Hid (∀ (m : Nat) (q : Int × Int), m < r + 1 → g.os[m]? = some q → ¬ q.1 = o.1) := own_go EP.out hacc.out hp
        go_wp2
        have hp2 : ¬ p.1 = o.1 := hp
        refine wp_region_ext (by kernel_rfl) (by kernel_rfl) ?_
        repeat (go_big_quiet_step (fail))
        refine wpQuiet_nil ?_
        intro _ hw'
        obtain ⟨⟨wq, hq⟩, hw''⟩ := hw'
        subst hw''
        try dsimp only
        go_wp2
        go_roundw
        case rel => exact ⟨r + 1, by omega, by go_num, HACC, bT hbi hq⟩
        case measure => simp [intOf]; omega
      ·obtain rfl : r = j + 1 := by omega
       have HTOK : Hid (tok g.os g.next (j + 1 + 1) = true) := tok_step htok.out EO.out g1 (by omega) HLT.out hacc.out
       have hbx6 := HB5.out.below hbi
       go_wp2
       go_roundw
       case rel => exact ⟨j + 1 + 1, by omega, by go_num, HTOK, hbx6, bT hb5 hbi⟩
       case measure => simp [intOf]; omega
  ·obtain rfl : k = g.os.length := by omega
   have HE : Hid (tgv g = true) := tgv_end HGB.out htok.out
   go_wp2
   go_ret
   exact ⟨by rw [HE.out]; rfl, hbz⟩
set_option maxHeartbeats 1000000 in
theorem sSpaceOf_any (vo : Value) (g : Tg) (tag : Int) (w : World) (hT : SlR owE w vo g.os) :
  Calls Tryz.prog 189 #[.agg #[.int .i64 g.count, .int .i64 g.next, .int .i64 g.round, vo], .int .i64 tag] w fun r w' => r = .returned (.tuple #[.int .i64 (spV g tag), .bool (spO g tag)]) ∧ Below w.heap.size w w' := by
 have HV := Lib.hid hT
 obtain ⟨A, cc, rfl, hbc, hbm, hL⟩ := hT
 have hfm2 : g.os.length ≤ 9223372036854775807 := by unfold maxLen at hbm; omega
 have HL := Lib.hid hL
 have hbx := Own.new_ w 32 #[.int .i64 g.count, .int .i64 g.next, .int .i64 g.round, .slice A g.os.length cc]
 have hbz : Below w.heap.size w (w.alloc (.cells #[.int .i64 g.count, .int .i64 g.next, .int .i64 g.round, .slice A g.os.length cc] 32)) := bA bR
 have hsz0 : (w.alloc (.cells #[.int .i64 g.count, .int .i64 g.next, .int .i64 g.round, .slice A g.os.length cc] 32)).heap.size = w.heap.size + 1 := by simp
 generalize hW : w.alloc (.cells #[.int .i64 g.count, .int .i64 g.next, .int .i64 g.round, .slice A g.os.length cc] 32) = W0 at hbx hbz hsz0
 have q0 := hbx.cell_ 0 (v := .int .i64 g.count) rfl
 have q1 := hbx.cell_ 1 (v := .int .i64 g.next) rfl
 have q2 := hbx.cell_ 2 (v := .int .i64 g.round) rfl
 have q3 := hbx.cell_ 3 (v := .slice A g.os.length cc) rfl
 have HBX := Lib.hid hbx
 clear hL hbx q0 q1 q2 q3 hsz0
 go_enter Tryz.func189, Tryz.ntmps189
 go_wp2
 go_loopw [6] (fun u wr => ∃ k : Nat, k ≤ g.os.length ∧ u = .int .i64 k ∧ Hid (0 < k → tgv g = true) ∧ Hid (∀ (j : Nat) (q : Int × Int), j < k → g.os[j]? = some q → ¬ q.2 = tag) ∧ Own wr w.heap.size 32 #[.int .i64 g.count, .int .i64 g.next, .int .i64 g.round, .slice A g.os.length cc] ∧ Below w.heap.size w wr) (fun u _ => g.os.length - (intOf u).toNat)
 case atStart => exact ⟨0, by omega, rfl, (fun h => absurd h (by omega)), (fun j q h => absurd h (by omega)), HBX.out, hbz⟩
 case round =>
  clear hbz
  obtain ⟨k, hk, rfl, htv, hacc, hbox, hbz⟩ := hrel
  have q0 := hbox.cell_ 0 (v := .int .i64 g.count) rfl
  have q1 := hbox.cell_ 1 (v := .int .i64 g.next) rfl
  have q2 := hbox.cell_ 2 (v := .int .i64 g.round) rfl
  have q3 := hbox.cell_ 3 (v := .slice A g.os.length cc) rfl
  have HBOX := Lib.hid hbox
  clear hbox
  by_cases hlt : k < g.os.length
  ·go_wp2_with fail
   refine (sTagsValid_any _ g _ (HV.out.now hbz)).mono ?_
   rintro e w1 ⟨rfl, hb1⟩
   have HB1 := Lib.hid (HBOX.out.below hb1)
   have hbz1 := bT hbz hb1
   clear q0 q1 q2 q3 hb1 hbz
   have q3 := HB1.out.cell_ 3 (v := .slice A g.os.length cc) rfl
   cases h1 : tgv g with
   | false =>
    obtain ⟨e1, e2⟩ := spO_no (tag := tag) h1
    have E1 := Lib.hid e1
    have E2 := Lib.hid e2
    clear e1 e2
    go_wp2
    go_ret2
    exact ⟨by rw [E1.out, E2.out]; rfl, hbz1⟩
   | true =>
    obtain ⟨o, eo⟩ : ∃ o, g.os[k]? = some o := ⟨_, List.getElem?_eq_getElem hlt⟩
    obtain ⟨b, ob, rfl, hbb, d0, d1⟩ := (HL.out.below hbz1).ow eo
    by_cases ht : o.2 = tag
    ·obtain ⟨e1, e2⟩ := spO_some h1 (spc_at eo hacc.out ht) eo
     have E1 := Lib.hid e1
     have E2 := Lib.hid e2
     clear e1 e2 eo
     go_wp2
     go_ret2
     exact ⟨by rw [E1.out, E2.out]; rfl, hbz1⟩
    ·have HACC := Lib.hid (spc_go eo hacc.out ht)
     have H1 : Hid (tgv g = true) := h1
     clear eo
     go_wp2
     go_roundw
     case rel => exact ⟨k + 1, by omega, by go_num, (fun _ => H1.out), HACC, HB1.out, hbz1⟩
     case measure => simp [intOf]; omega
  ·obtain ⟨e1, e2⟩ : spO g tag = false ∧ spV g tag = 0 := by
    cases h1 : tgv g with
    | false => exact spO_no h1
    | true => exact spO_none h1 (spc_none (Nat.le_of_not_lt hlt) hacc.out)
   have E1 := Lib.hid e1
   have E2 := Lib.hid e2
   clear e1 e2
   go_wp2
   go_ret2
   exact ⟨by rw [E1.out, E2.out]; rfl, hbz⟩
end Go.Proofs.YtnaagdmaggdbmaaGreatDoor
