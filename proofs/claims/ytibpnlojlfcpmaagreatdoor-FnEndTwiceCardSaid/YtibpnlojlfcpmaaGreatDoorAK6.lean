/- A part of the proofs of this seat: K6. -/
import Derived.Deep.CutRange
import Derived.Test.YtibpnlojlfcpmaaGreatDoorACopyv1
import Derived.Test.YtibpnlojlfcpmaaGreatDoorAGn
set_option linter.unusedVariables false
set_option linter.unusedSimpArgs false
set_option maxRecDepth 1000000
namespace Go.Proofs.YtibpnlojlfcpmaaGreatDoor
open Go.RowKit
structure K6 (w : World) (g p mb kb : Nat) (vb vf vl vo : Value) (m : Ma) (rb : Nat) (rv : Value) (l : List Key) (v : World) : Prop where
 bl : Below w.heap.size w v
 rd : Rdr w.heap.size v g p
 hm : MaM w.heap.size v vb vf vl vo m
 ob : Own v mb 48 #[vb, vf, vl, .int .i64 m.c.hand, .int .i64 m.g.count, .int .i64 m.g.next, .int .i64 m.g.round, vo, .int .i64 m.sp]
 n : Own v w.heap.size 48 #[.slice none 0 0, .slice none 0 0, .slice none 0 0, .int .i64 0, .int .i64 0, .int .i64 0, .int .i64 0, .slice none 0 0, .int .i64 0]
 k : Own v (w.heap.size + 1) 61 #[.int .i64 0, .int .i64 0]
 kv : ∃ a b : Int, small a ∧ small b ∧ Own v kb 61 #[.int .i64 a, .int .i64 b]
 row : v.ownsRow rb 61 2 rv l.length (kcells l)
section
variable {w v v' : World} {g p mb kb : Nat} {vb vf vl vo : Value} {m : Ma} {rb : Nat} {rv : Value} {l : List Key}
theorem K6.below (h : K6 w g p mb kb vb vf vl vo m rb rv l v) (hb : Below v.heap.size v v') : K6 w g p mb kb vb vf vl vo m rb rv l v' :=
 ⟨bT h.bl hb, rdr_below h.rd hb, h.hm.now hb, h.ob.below hb, h.n.below hb, h.k.below hb, let ⟨a, b, h1, h2, h3⟩ := h.kv; ⟨a, b, h1, h2, h3.below hb⟩, own_kept h.row hb⟩
theorem K6.gr {p' : Nat} (h : K6 w g p mb kb vb vf vl vo m rb rv l v) (hr : Rdr w.heap.size v' g p') (hg : v.grownBy v' (some g)) : K6 w g p' mb kb vb vf vl vo m rb rv l v' := by
 obtain ⟨A, n, c, ho, _, _, hBg⟩ := h.rd.ok
 obtain ⟨a, b, h1, h2, h3⟩ := h.kv
 exact ⟨bG h.bl hg (by intro k hk; injection hk with hk; omega), hr, h.hm.gr h.rd hg, own_gr h.ob hg (h.ob.ne ho (by decide)), own_gr h.n hg (h.n.ne ho (by decide)), own_gr h.k hg (h.k.ne ho (by decide)), ⟨a, b, h1, h2, own_gr h3 hg (h3.ne ho (by decide))⟩, ownsRow_gr h.row h.rd hg (by decide)⟩
theorem row_far {base n gk : Nat} {e : TypeId} {sz i : Nat} {w : World} {rv : Value} {xs : List Value} {u : Value} (h : w.ownsRow base e sz rv n xs) (hne : ∀ b, rv.ownBlock = some b → b ≠ gk) : (w.setCell ⟨gk, i, none⟩ u).ownsRow base e sz rv n xs := by
 obtain ⟨h1, h2⟩ := h
 rcases h2 with ⟨e1, h0⟩ | ⟨g', cap, cur, e1, hb, ho, hc⟩
 ·exact ⟨h1, .inl ⟨e1, h0⟩⟩
 ·subst e1
  exact ⟨h1, .inr ⟨g', cap, cur, rfl, hb, (show Own w g' e cur from ho).far (hne g' rfl), hc⟩⟩
theorem K6.key (h : K6 w g p mb kb vb vf vl vo m rb rv l v) (hB : w.heap.size + 2 ≤ kb) (hr : ∀ b, rv.ownBlock = some b → b ≠ kb) {a b : Int} (ha : small a) (hb : small b) : K6 w g p mb kb vb vf vl vo m rb rv l ((v.setCell ⟨kb, 0, none⟩ (.int .i64 a)).setCell ⟨kb, 1, none⟩ (.int .i64 b)) := by
 obtain ⟨a0, b0, h1, h2, h3⟩ := h.kv
 obtain ⟨A, n, c, ho, _, _, hBg⟩ := h.rd.ok
 have o1 := h3.set_ 0 (.int .i64 a)
 exact ⟨bS (bS h.bl (by show w.heap.size ≤ kb; omega)) (by show w.heap.size ≤ kb; omega), rdr_far (rdr_far h.rd (ho.ne h3 (by decide)) (by omega)) (ho.ne h3 (by decide)) (by omega), (h.hm.chg (GT.set2 (B := 0) h3 chg_ky (by decide) (by omega) _ _).oth), (h.ob.far (h.ob.ne h3 (by decide))).far (h.ob.ne h3 (by decide)), (h.n.far (by show w.heap.size ≠ kb; omega)).far (by show w.heap.size ≠ kb; omega), (h.k.far (by show w.heap.size + 1 ≠ kb; omega)).far (by show w.heap.size + 1 ≠ kb; omega), ⟨a, b, ha, hb, by simpa using o1.set_ 1 (.int .i64 b)⟩, row_far (row_far h.row hr) hr⟩
end
end Go.Proofs.YtibpnlojlfcpmaaGreatDoor
