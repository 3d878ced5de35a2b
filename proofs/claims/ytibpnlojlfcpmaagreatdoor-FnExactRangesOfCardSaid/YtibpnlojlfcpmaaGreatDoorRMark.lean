/- A part of the proofs of this seat: Mark. -/
import Derived.Deep.RegionHeldLaw
import Derived.Test.YtibpnlojlfcpmaaGreatDoorRMa2
set_option linter.unusedVariables false
set_option linter.unusedSimpArgs false
set_option maxRecDepth 1000000
namespace Go.Proofs.YtibpnlojlfcpmaaGreatDoor
open Go.RowKit
theorem szIntS_any (A : Option Addr) (n c : Nat) (left : Int) (w : World) (hn : n ≤ 9223372036854775807) (h0 : 0 ≤ left) (h1 : left ≤ 1048576) :
  Calls Tryz.prog 124 #[.slice A n c, .int .i64 left] w fun r w' => r = .returned (.int .i64 (if left - (n : Int) < 0 then -1 else left - (n : Int))) ∧ w = w' := by
 by_cases h : left - (n : Int) < 0
 ·rw [if_pos h]
  go_enter Tryz.func124, Tryz.ntmps124
  go_wp2
  go_ret
  exact ⟨rfl, rfl⟩
 ·rw [if_neg h]
  go_enter Tryz.func124, Tryz.ntmps124
  go_wp2
  go_ret
  exact ⟨rfl, rfl⟩
theorem szFrameS_any (A : Option Addr) (n c : Nat) (left : Int) (w : World) (hn : n ≤ 9223372036854775807) (h0 : 0 ≤ left) (h1 : left ≤ 1048576) :
  Calls Tryz.prog 125 #[.slice A n c, .int .i64 left] w fun r w' => r = .returned (.int .i64 (if left - (n : Int) < 0 then -1 else left - (n : Int))) ∧ w = w' := by
 by_cases h : left - (n : Int) < 0
 ·rw [if_pos h]
  go_enter Tryz.func125, Tryz.ntmps125
  go_wp2
  go_ret
  exact ⟨rfl, rfl⟩
 ·rw [if_neg h]
  go_enter Tryz.func125, Tryz.ntmps125
  go_wp2
  go_ret
  exact ⟨rfl, rfl⟩
theorem szLineS_any (A : Option Addr) (n c : Nat) (left : Int) (w : World) (hn : n ≤ 9223372036854775807) (h0 : 0 ≤ left) (h1 : left ≤ 1048576) :
  Calls Tryz.prog 126 #[.slice A n c, .int .i64 left] w fun r w' => r = .returned (.int .i64 (if left - (n : Int) < 0 then -1 else left - (n : Int))) ∧ w = w' := by
 by_cases h : left - (n : Int) < 0
 ·rw [if_pos h]
  go_enter Tryz.func126, Tryz.ntmps126
  go_wp2
  go_ret
  exact ⟨rfl, rfl⟩
 ·rw [if_neg h]
  go_enter Tryz.func126, Tryz.ntmps126
  go_wp2
  go_ret
  exact ⟨rfl, rfl⟩
theorem szOwnS_any (A : Option Addr) (n c : Nat) (left : Int) (w : World) (hn : n ≤ 9223372036854775807) (h0 : 0 ≤ left) (h1 : left ≤ 1048576) :
  Calls Tryz.prog 127 #[.slice A n c, .int .i64 left] w fun r w' => r = .returned (.int .i64 (if left - (n : Int) < 0 then -1 else left - (n : Int))) ∧ w = w' := by
 by_cases h : left - (n : Int) < 0
 ·rw [if_pos h]
  go_enter Tryz.func127, Tryz.ntmps127
  go_wp2
  go_ret
  exact ⟨rfl, rfl⟩
 ·rw [if_neg h]
  go_enter Tryz.func127, Tryz.ntmps127
  go_wp2
  go_ret
  exact ⟨rfl, rfl⟩
theorem toKey_any (x y : Int) (w : World) : Calls Tryz.prog 233 #[.agg #[.int .i64 x, .int .i64 y]] w fun r w' => r = .returned (.agg #[.int .i64 x, .int .i64 y]) ∧ Below w.heap.size w w' := by
 go_enter Tryz.func233, Tryz.ntmps233
 go_wp2
 refine bodyPost_ret (v := .agg #[.int .i64 x, .int .i64 y]) (by simp [results, Tryz.results233, go_sem]) rfl ⟨rfl, ?_⟩
 repeat first | exact bR | refine bS ?_ (by simp) | refine bA ?_
theorem toOwn_any (o : Int × Int) (w : World) : Calls Tryz.prog 197 #[.agg #[.int .i64 o.1, .int .i64 o.2]] w fun r w' => r = .returned (.agg #[.int .i64 o.1, .int .i64 o.2]) ∧ Below w.heap.size w w' := by
 go_enter Tryz.func197, Tryz.ntmps197
 go_wp2
 refine bodyPost_ret (v := .agg #[.int .i64 o.1, .int .i64 o.2]) (by simp [results, Tryz.results197, go_sem]) rfl ⟨rfl, ?_⟩
 repeat first | exact bR | refine bS ?_ (by simp) | refine bA ?_
theorem toLine_any (x : Ln) (w : World) : Calls Tryz.prog 196 #[lnV x] w fun r w' => r = .returned (lnV x) ∧ Below w.heap.size w w' := by
 simp only [lnV]
 go_enter Tryz.func196, Tryz.ntmps196
 go_wp2
 refine bodyPost_ret (v := lnV x) (by simp [results, Tryz.results196, go_sem]) rfl ⟨rfl, ?_⟩
 repeat first | exact bR | refine bS ?_ (by simp) | refine bA ?_
theorem toFrame_any (f : Fr) (w : World) : Calls Tryz.prog 195 #[frV f] w fun r w' => r = .returned (frV f) ∧ Below w.heap.size w w' := by
 simp only [frV]
 go_enter Tryz.func195, Tryz.ntmps195
 go_wp2_with fail
 refine (toKey_any _ _ _).mono ?_
 rintro e w1 ⟨rfl, hb1⟩
 have h0 := ((Own.new_ w 208 #[.bool f.used, .int .i64 f.s, .int .i64 f.p, .int .i64 f.r, .int .i64 f.n]).alloc (o := .cells #[.bool false, .int .i64 0, .int .i64 0, .int .i64 0, .int .i64 0] 66)).alloc (o := .cells #[.bool f.used, .int .i64 0, .int .i64 0, .int .i64 0, .int .i64 0] 66) |>.below hb1
 have h1 := (ownAt (W := w.alloc (.cells #[.bool f.used, .int .i64 f.s, .int .i64 f.p, .int .i64 f.r, .int .i64 f.n] 208)) (g := w.heap.size + 1) (t := 66) (cs := #[.bool false, .int .i64 0, .int .i64 0, .int .i64 0, .int .i64 0]) (by simp)).alloc (o := .cells #[.bool f.used, .int .i64 0, .int .i64 0, .int .i64 0, .int .i64 0] 66) |>.below hb1
 have h2 := (ownAt (W := (w.alloc (.cells #[.bool f.used, .int .i64 f.s, .int .i64 f.p, .int .i64 f.r, .int .i64 f.n] 208)).alloc (.cells #[.bool false, .int .i64 0, .int .i64 0, .int .i64 0, .int .i64 0] 66)) (g := w.heap.size + 1 + 1) (t := 66) (cs := #[.bool f.used, .int .i64 0, .int .i64 0, .int .i64 0, .int .i64 0]) (by simp)).below hb1
 have hbw : Below w.heap.size w w1 := bT (bA (bA (bA bR))) hb1
 have a3 := h0.cell_ 3 (v := .int .i64 f.r) rfl
 have a4 := h0.cell_ 4 (v := .int .i64 f.n) rfl
 have b0 := h1.cell_ 0 (v := .bool false) rfl
 have b1 := h1.cell_ 1 (v := .int .i64 0) rfl
 have b2 := h1.cell_ 2 (v := .int .i64 0) rfl
 have b3 := h1.cell_ 3 (v := .int .i64 0) rfl
 have b4 := h1.cell_ 4 (v := .int .i64 0) rfl
 have c0 := h2.cell_ 0 (v := .bool f.used) rfl
 have c1 := h2.cell_ 1 (v := .int .i64 0) rfl
 have c2 := h2.cell_ 2 (v := .int .i64 0) rfl
 have c3 := h2.cell_ 3 (v := .int .i64 0) rfl
 have c4 := h2.cell_ 4 (v := .int .i64 0) rfl
 have f0 := h1.free 0
 have f1 := h1.free 1
 have f2 := h1.free 2
 have f3 := h1.free 3
 have f4 := h1.free 4
 have g1 := h2.free 1
 have g2 := h2.free 2
 have g3 := h2.free 3
 have g4 := h2.free 4
 have H1 := Hd h1
 have HB := Hd hbw
 clear h0 h1 h2 hbw hb1
 go_wp2
 have o3 := (((((((((H1.out.far (p := ⟨w.heap.size + 1 + 1, 1, none⟩) (u := .int .i64 f.s) (by simp)).far (p := ⟨w.heap.size + 1 + 1, 2, none⟩) (u := .int .i64 f.p) (by simp)).far (p := ⟨w.heap.size + 1 + 1, 3, none⟩) (u := .int .i64 f.r) (by simp)).far (p := ⟨w.heap.size + 1 + 1, 4, none⟩) (u := .int .i64 f.n) (by simp)).set_ 0 (.bool f.used)).set_ 1 (.int .i64 f.s)).set_ 2 (.int .i64 f.p)).set_ 3 (.int .i64 f.r)).set_ 4 (.int .i64 f.n))
 have t0 := o3.cell_ 0 (v := .bool f.used) (by simp)
 have t1 := o3.cell_ 1 (v := .int .i64 f.s) (by simp)
 have t2 := o3.cell_ 2 (v := .int .i64 f.p) (by simp)
 have t3 := o3.cell_ 3 (v := .int .i64 f.r) (by simp)
 have t4 := o3.cell_ 4 (v := .int .i64 f.n) (by simp)
 refine bodyPost_ret (v := frV f) (by simp [results, Tryz.results195, go_sem, t0, t1, t2, t3, t4]) rfl ⟨rfl, ?_⟩
 repeat (refine bS ?_ (by simp <;> omega))
 exact HB.out
theorem EOwn.slm {α : Type} {E : Enc α} {e : TypeId} {w : World} {g B : Nat} {l : List α} (h : EOwn E e w g l) (hB : B ≤ g) (hl : l.length ≤ maxLen) : SlM E e B w (.slice (some ⟨g, 0, none⟩) l.length l.length) l := by
 obtain ⟨cs, h1, h2, h3⟩ := h.own
 refine slm_of rfl (Nat.le_refl _) hl ⟨⟨E.cells_length l, fun _ => ⟨g, 0, rfl, h1.lt, fun j u hu => ?_⟩⟩, fun _ => ⟨g, cs, rfl, hB, h1, by omega⟩⟩
 obtain ⟨hj, _⟩ := List.getElem?_eq_some_iff.1 hu
 rw [E.cells_length] at hj
 rw [Nat.zero_add, h1.cell, h3 j hj, hu]
theorem fill_at {α : Type} {E : Enc α} {l : List α} {k : Nat} {a : α} {cs cs' : Array Value} (e : l[k]? = some a) (_ : cs'.size = cs.size) (hin : ∀ j u, (E.cs a)[j]? = some u → cs'[k * E.sz + j]? = some u)
  (hout : ∀ i, i < k * E.sz → cs'[i]? = cs[i]?) (h : ∀ j, j < k * E.sz → cs[j]? = (E.cells l)[j]?) : ∀ j, j < (k + 1) * E.sz → cs'[j]? = (E.cells l)[j]? := by
 intro j hj
 rcases Nat.lt_or_ge j (k * E.sz) with h1 | h1
 ·rw [hout j h1]; exact h j h1
 ·obtain ⟨d, rfl⟩ : ∃ d, j = k * E.sz + d := ⟨j - k * E.sz, by omega⟩
  have hd : d < E.sz := by rw [Nat.add_mul] at hj; omega
  obtain ⟨u, hu⟩ : ∃ u, (E.cs a)[d]? = some u := ⟨_, List.getElem?_eq_getElem (by rw [E.len]; exact hd)⟩
  rw [hin d u hu, E.cells_get e hu]
end Go.Proofs.YtibpnlojlfcpmaaGreatDoor
