/- A part of the proofs of this seat: Open. -/
import Derived.Test.YtibpnlojlfcpmaaGreatDoorRows
import Derived.ProofKit
import Derived.OpenShut
import Derived.ChangeOld
import Derived.Deep.SlicePairs
import Derived.Lib.SmallJoins
import Derived.Deep.RegionHeldLaw
import Derived.Test.YtibpnlojlfcpmaaGreatDoorRMk2
set_option linter.unusedVariables false
set_option linter.unusedSimpArgs false
set_option maxRecDepth 1000000
namespace Go.Proofs.YtibpnlojlfcpmaaGreatDoor
open Go.ChangeShapes Go.WideShapes Go.ChangeAt Go.RowKit Go.Joins
theorem ce_key : Program.cellsOf Tryz.prog 206 = 2 := by kernel_rfl
theorem ce_own : Program.cellsOf Tryz.prog 212 = 2 := by kernel_rfl
theorem ce_line : Program.cellsOf Tryz.prog 210 = 6 := by kernel_rfl
theorem ce_frame : Program.cellsOf Tryz.prog 208 = 5 := by kernel_rfl
theorem ce_sf : Program.cellsOf Tryz.prog 23 = 1 := by kernel_rfl
theorem ce_sl : Program.cellsOf Tryz.prog 26 = 1 := by kernel_rfl
theorem ce_so : Program.cellsOf Tryz.prog 29 = 1 := by kernel_rfl
theorem ce_si : Program.cellsOf Tryz.prog 22 = 1 := by kernel_rfl
theorem ce_table : Program.cellsOf Tryz.prog 25 = 2 := by kernel_rfl
theorem ce_cache : Program.cellsOf Tryz.prog 28 = 2 := by kernel_rfl
theorem ce_tags : Program.cellsOf Tryz.prog 31 = 4 := by kernel_rfl
theorem ce_machine : Program.cellsOf Tryz.prog 33 = 9 := by kernel_rfl
section
variable {H : Type} {enc : TypeId × Value → H} {w : World} {base : Nat} {spare : Nat → Bool} {held : Bool}
theorem fld {fs : Array Field} {t : TypeId} {fuel : Nat} {cs : List Value} {x : DataW H × List MemPlace} (ht : Tryz.prog.underlying t = some (.struct fs)) (h : DataW.trod enc Tryz.prog w base spare held fuel t cs = some x) :
  cs.length = Program.cellsOf Tryz.prog t ∧ ∃ n, ∀ (i : Nat) (f : Field), fs[i]? = some f → ∀ (ty off k : Nat), f.type = ty → f.offset = off → Program.cellsOf Tryz.prog ty = k → ∃ y, DataW.trod enc Tryz.prog w base spare held n ty ((cs.drop off).take k) = some y := by
 obtain ⟨xs, n, _, _, hl, hxl, hf⟩ := DataW.trod_struct ht h
 refine ⟨hl, n, fun i f hi ty off k e1 e2 e3 => ?_⟩
 subst e1 e2 e3
 have hlt : i < xs.length := by rw [hxl]; exact (Array.getElem?_eq_some_iff.1 hi).1
 exact ⟨xs[i], (hf i f hi).trans (List.getElem?_eq_getElem hlt)⟩
theorem one_int {n : Nat} {c : Value} {y : DataW H × List MemPlace} (h : DataW.trod enc Tryz.prog w base spare held n 3 [c] = some y) : ∃ a, c = .int .i64 a := by
 obtain ⟨a, e, _⟩ := DataW.trod_int Tryz.underlying3 h
 exact ⟨a, by simpa using e⟩
theorem one_bool {n : Nat} {c : Value} {y : DataW H × List MemPlace} (h : DataW.trod enc Tryz.prog w base spare held n 4 [c] = some y) : ∃ a, c = .bool a := by
 obtain ⟨a, e, _⟩ := DataW.trod_bool Tryz.underlying4 h
 exact ⟨a, by simpa using e⟩
theorem el_int {n : Nat} {cs : List Value} {y : DataW H × List MemPlace} (h : DataW.trod enc Tryz.prog w base spare held n 3 cs = some y) : ∃ a, cs = intE.cs a := by
 obtain ⟨a, e, _⟩ := DataW.trod_int Tryz.underlying3 h
 exact ⟨a, e⟩
theorem el_own {n : Nat} {cs : List Value} {y : DataW H × List MemPlace} (h : DataW.trod enc Tryz.prog w base spare held n 212 cs = some y) : ∃ a, cs = owE.cs a := by
 obtain ⟨hl, n, hf⟩ := fld Tryz.underlying212 h
 rw [ce_own] at hl
 match cs, hl with
 | [c0, c1], _ =>
  obtain ⟨y0, h0⟩ := hf 0 _ rfl 3 0 1 rfl rfl ce_int
  obtain ⟨y1, h1⟩ := hf 1 _ rfl 3 1 1 rfl rfl ce_int
  obtain ⟨a0, rfl⟩ := one_int (c := c0) h0
  obtain ⟨a1, rfl⟩ := one_int (c := c1) h1
  exact ⟨(a0, a1), rfl⟩
theorem el_line {n : Nat} {cs : List Value} {y : DataW H × List MemPlace} (h : DataW.trod enc Tryz.prog w base spare held n 210 cs = some y) : ∃ a, cs = lnE.cs a := by
 obtain ⟨hl, n, hf⟩ := fld Tryz.underlying210 h
 rw [ce_line] at hl
 match cs, hl with
 | [c0, c1, c2, c3, c4, c5], _ =>
  obtain ⟨y0, h0⟩ := hf 0 _ rfl 4 0 1 rfl rfl ce_bool
  obtain ⟨y1, h1⟩ := hf 1 _ rfl 3 1 1 rfl rfl ce_int
  obtain ⟨y2, h2⟩ := hf 2 _ rfl 3 2 1 rfl rfl ce_int
  obtain ⟨y3, h3⟩ := hf 3 _ rfl 3 3 1 rfl rfl ce_int
  obtain ⟨y4, h4⟩ := hf 4 _ rfl 3 4 1 rfl rfl ce_int
  obtain ⟨y5, h5⟩ := hf 5 _ rfl 4 5 1 rfl rfl ce_bool
  obtain ⟨a0, rfl⟩ := one_bool (c := c0) h0
  obtain ⟨a1, rfl⟩ := one_int (c := c1) h1
  obtain ⟨a2, rfl⟩ := one_int (c := c2) h2
  obtain ⟨a3, rfl⟩ := one_int (c := c3) h3
  obtain ⟨a4, rfl⟩ := one_int (c := c4) h4
  obtain ⟨a5, rfl⟩ := one_bool (c := c5) h5
  exact ⟨⟨a0, a1, a2, a3, a4, a5⟩, rfl⟩
theorem two_key {n : Nat} {cs : List Value} {y : DataW H × List MemPlace} (h : DataW.trod enc Tryz.prog w base spare held n 206 cs = some y) : ∃ a b, cs = [.int .i64 a, .int .i64 b] := by
 obtain ⟨hl, n, hf⟩ := fld Tryz.underlying206 h
 rw [ce_key] at hl
 match cs, hl with
 | [c0, c1], _ =>
  obtain ⟨y0, h0⟩ := hf 0 _ rfl 3 0 1 rfl rfl ce_int
  obtain ⟨y1, h1⟩ := hf 1 _ rfl 3 1 1 rfl rfl ce_int
  obtain ⟨a0, rfl⟩ := one_int (c := c0) h0
  obtain ⟨a1, rfl⟩ := one_int (c := c1) h1
  exact ⟨a0, a1, rfl⟩
theorem el_frame {n : Nat} {cs : List Value} {y : DataW H × List MemPlace} (h : DataW.trod enc Tryz.prog w base spare held n 208 cs = some y) : ∃ a, cs = frE.cs a := by
 obtain ⟨hl, n, hf⟩ := fld Tryz.underlying208 h
 rw [ce_frame] at hl
 match cs, hl with
 | [c0, c1, c2, c3, c4], _ =>
  obtain ⟨y0, h0⟩ := hf 0 _ rfl 4 0 1 rfl rfl ce_bool
  obtain ⟨y1, h1⟩ := hf 1 _ rfl 206 1 2 rfl rfl ce_key
  obtain ⟨y2, h2⟩ := hf 2 _ rfl 3 3 1 rfl rfl ce_int
  obtain ⟨y3, h3⟩ := hf 3 _ rfl 3 4 1 rfl rfl ce_int
  obtain ⟨a0, rfl⟩ := one_bool (c := c0) h0
  obtain ⟨a1, a2, e⟩ := two_key (cs := [c1, c2]) h1
  obtain ⟨a3, rfl⟩ := one_int (c := c3) h2
  obtain ⟨a4, rfl⟩ := one_int (c := c4) h3
  simp at e
  obtain ⟨rfl, rfl⟩ := e
  exact ⟨⟨a0, a1, a2, a3, a4⟩, rfl⟩
theorem open_rows {α : Type} [Inhabited α] {E : Enc α} {t e : TypeId} {fuel : Nat} {c : Value} {x : DataW H × List MemPlace} (ht : Tryz.prog.underlying t = some (.slice e)) (ce : Program.cellsOf Tryz.prog e = E.sz)
  (el : ∀ (n : Nat) (cs : List Value) (y : DataW H × List MemPlace), DataW.trod enc Tryz.prog w base spare held n e cs = some y → ∃ a, cs = E.cs a) (h : DataW.trod enc Tryz.prog w base spare held fuel t [c] = some x) : ∃ l, SlR E w c l := by
 rcases Go.Deep.open_slice ht h with ⟨hc, _⟩ | ⟨a, len, cap, m, n, D, Pl, hc, hb, hl, hm, hmm, hx, hcell⟩
 ·simp at hc
  subst hc
  exact ⟨[], SlR.nil_ _⟩
 ·simp at hc
  subst hc
  have each : ∀ i, i < len → ∃ b : α, ∀ j u, (E.cs b)[j]? = some u → w.cell? (a.add (i * E.sz + j)) = some u := by
   intro i hi
   obtain ⟨cs', h1, h2⟩ := hcell i (by have : len ≤ m := by { rw [hmm]; split <;> omega }; omega)
   obtain ⟨b, rfl⟩ := el _ _ _ h2
   obtain ⟨_, hlen, hcl⟩ := World.cells?_some h1
   refine ⟨b, fun j u hu => ?_⟩
   have hj : j < E.sz := by rw [← E.len b]; exact (List.getElem?_eq_some_iff.1 hu).1
   have := hcl j (by rw [ce]; exact hj)
   rw [Go.Deep.add_add, ce] at this
   rw [this]; exact hu
  obtain ⟨f, hf⟩ := Go.Deep.choose_lt each
  refine ⟨(List.range len).map f, some a, cap, by simp, by simpa using hl, hm, E.cells_length _, fun hn => ?_⟩
  have hn' : 0 < len := by simpa using hn
  obtain ⟨b, o, s⟩ := a
  obtain ⟨u0, hu0⟩ : ∃ u, (E.cs (f 0))[0]? = some u := ⟨_, List.getElem?_eq_getElem (by rw [E.len]; exact E.pos)⟩
  have hc0 := hf 0 hn' 0 u0 hu0
  rw [Nat.zero_mul] at hc0
  have hs : s = none := by simpa [Addr.add] using World.cell?_spot hc0
  subst hs
  rw [add_lit_] at hc0
  refine ⟨b, o, rfl, World.block_lt_of_cell? w _ hc0, fun j u hu => ?_⟩
  obtain ⟨hj, _⟩ := List.getElem?_eq_some_iff.1 hu
  rw [E.cells_length] at hj
  simp only [List.length_map, List.length_range] at hj
  have hk : j / E.sz < len := Nat.div_lt_of_lt_mul (by rw [Nat.mul_comm]; exact hj)
  have hd : j % E.sz < E.sz := Nat.mod_lt _ E.pos
  have hjj : j / E.sz * E.sz + j % E.sz = j := by rw [Nat.mul_comm]; exact Nat.div_add_mod j E.sz
  obtain ⟨u', hu'⟩ : ∃ u, (E.cs (f (j / E.sz)))[j % E.sz]? = some u := ⟨_, List.getElem?_eq_getElem (by rw [E.len]; exact hd)⟩
  have e1 : ((List.range len).map f)[j / E.sz]? = some (f (j / E.sz)) := by simp [hk]
  have h2 := E.cells_get e1 hu'
  rw [hjj, hu] at h2
  injection h2 with h2
  have h3 := hf _ hk _ _ hu'
  rw [hjj, add_lit_] at h3
  rw [h2]; exact h3
theorem open_machine {r : Reach} {b0 : Nat} {v : Value} {d : DataW H} {p : List MemPlace} (hv : Value.okWide Tryz.prog w r b0 33 v) (h : DataW.Trod enc Tryz.prog w base spare held 33 v d p) :
  ∃ vb vf vl vo m, v = .agg #[vb, vf, vl, .int .i64 m.c.hand, .int .i64 m.g.count, .int .i64 m.g.next, .int .i64 m.g.round, vo, .int .i64 m.sp] ∧ MaR w vb vf vl vo m := by
 obtain ⟨cs, rfl, hsz⟩ := okWide_struct Tryz.underlying33 hv
 rw [ce_machine] at hsz
 obtain ⟨cs⟩ := cs
 obtain ⟨fuel, hf⟩ := h
 match cs, hsz with
 | [c0, c1, c2, c3, c4, c5, c6, c7, c8], _ =>
  obtain ⟨_, n, hf⟩ := fld Tryz.underlying33 hf
  obtain ⟨y0, h0⟩ := hf 0 _ rfl 25 0 2 rfl rfl ce_table
  obtain ⟨y1, h1⟩ := hf 1 _ rfl 28 2 2 rfl rfl ce_cache
  obtain ⟨y2, h2⟩ := hf 2 _ rfl 31 4 4 rfl rfl ce_tags
  obtain ⟨y3, h3⟩ := hf 3 _ rfl 3 8 1 rfl rfl ce_int
  obtain ⟨_, n0, g0⟩ := fld Tryz.underlying25 h0
  obtain ⟨_, n1, g1⟩ := fld Tryz.underlying28 h1
  obtain ⟨_, n2, g2⟩ := fld Tryz.underlying31 h2
  obtain ⟨z0, k0⟩ := g0 0 _ rfl 22 0 1 rfl rfl ce_si
  obtain ⟨z1, k1⟩ := g0 1 _ rfl 23 1 1 rfl rfl ce_sf
  obtain ⟨z2, k2⟩ := g1 0 _ rfl 26 0 1 rfl rfl ce_sl
  obtain ⟨z3, k3⟩ := g1 1 _ rfl 3 1 1 rfl rfl ce_int
  obtain ⟨z4, k4⟩ := g2 0 _ rfl 3 0 1 rfl rfl ce_int
  obtain ⟨z5, k5⟩ := g2 1 _ rfl 3 1 1 rfl rfl ce_int
  obtain ⟨z6, k6⟩ := g2 2 _ rfl 3 2 1 rfl rfl ce_int
  obtain ⟨z7, k7⟩ := g2 3 _ rfl 29 3 1 rfl rfl ce_so
  obtain ⟨l0, q0⟩ := open_rows (E := intE) Tryz.underlying22 ce_int (fun _ _ _ h => el_int h) (c := c0) k0
  obtain ⟨l1, q1⟩ := open_rows (E := frE) Tryz.underlying23 ce_frame (fun _ _ _ h => el_frame h) (c := c1) k1
  obtain ⟨l2, q2⟩ := open_rows (E := lnE) Tryz.underlying26 ce_line (fun _ _ _ h => el_line h) (c := c2) k2
  obtain ⟨l3, q3⟩ := open_rows (E := owE) Tryz.underlying29 ce_own (fun _ _ _ h => el_own h) (c := c7) k7
  obtain ⟨a3, rfl⟩ := one_int (c := c3) k3
  obtain ⟨a4, rfl⟩ := one_int (c := c4) k4
  obtain ⟨a5, rfl⟩ := one_int (c := c5) k5
  obtain ⟨a6, rfl⟩ := one_int (c := c6) k6
  obtain ⟨a8, rfl⟩ := one_int (c := c8) h3
  exact ⟨c0, c1, c2, c7, ⟨⟨l0, l1⟩, ⟨l2, a3⟩, ⟨a4, a5, a6, l3⟩, a8⟩, rfl, ⟨⟨q0, q1⟩, q2, q3⟩⟩
end
end Go.Proofs.YtibpnlojlfcpmaaGreatDoor
