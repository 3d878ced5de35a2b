/- A part of the proofs of this seat: Free, LPpD, LPpE. -/
import Derived.ChangeSame
import Derived.ChangeVars
import Derived.LaidLaws
import Derived.Handed
import Derived.Test.YtnaagdmaggdbmaaGreatDoorQMark
import Derived.Test.YtnaagdmaggdbmaaGreatDoorQLPp
set_option linter.unusedVariables false
set_option linter.unusedSimpArgs false
namespace Go.Proofs.YtnaagdmaggdbmaaGreatDoor
open Go.ChangeShapes Go.WideShapes Go.ChangeAt Go.RowKit Go.Joins
set_option maxRecDepth 1000000
theorem free_named : Tryz.prog.globalNamed "loop.example/invertedpages/impl.free" = some 0 := by kernel_rfl
theorem free_type : (Tryz.prog.globals[0]?).map (·.type) = some 48 := by kernel_rfl
theorem ce_keyI : Program.cellsOf Tryz.prog 36 = 2 := by kernel_rfl
theorem ce_frameI : Program.cellsOf Tryz.prog 48 = 5 := by kernel_rfl
def freeCells : Array Value := #[.bool false, .int .i64 0, .int .i64 0, .int .i64 0, .int .i64 (-1)]
section
variable {H : Type} {enc : TypeId × Value → H} {w : World} {base : Nat} {spare : Nat → Bool} {held : Bool}
theorem fldx {fs : Array Field} {t : TypeId} {fuel : Nat} {cs : List Value} {x : DataW H × List MemPlace} (ht : Tryz.prog.underlying t = some (.struct fs)) (h : DataW.trod enc Tryz.prog w base spare held fuel t cs = some x) :
  cs.length = Program.cellsOf Tryz.prog t ∧ ∃ (n : Nat) (xs : List (DataW H × List MemPlace)), xs.length = fs.size ∧ x.1 = .agg (xs.map (·.1)) ∧ ∀ (i : Nat) (f : Field), fs[i]? = some f → ∀ (ty off k : Nat), f.type = ty → f.offset = off → Program.cellsOf Tryz.prog ty = k → DataW.trod enc Tryz.prog w base spare held n ty ((cs.drop off).take k) = xs[i]? := by
 obtain ⟨xs, n, _, rfl, hl, hxl, hf⟩ := DataW.trod_struct ht h
 refine ⟨hl, n, xs, hxl, rfl, fun i f hi ty off k e1 e2 e3 => ?_⟩
 subst e1 e2 e3
 exact hf i f hi
theorem keyd_of {fuel : Nat} {cs : List Value} {x : DataW H × List MemPlace} {a b : Int} (h : DataW.trod enc Tryz.prog w base spare held fuel 36 cs = some x) (hx : x.1 = .agg [.lit (.int .i64 a), .lit (.int .i64 b)]) : cs = [.int .i64 a, .int .i64 b] := by
 obtain ⟨hl, n, xs, hxl, he, hf⟩ := fldx Tryz.underlying36 h
 rw [ce_keyI] at hl
 match cs, hl, xs, hxl with
 | [c0, c1], _, [x0, x1], _ =>
  have h0 := hf 0 _ rfl 3 0 1 rfl rfl ce_int
  have h1 := hf 1 _ rfl 3 1 1 rfl rfl ce_int
  obtain ⟨a0, e0, f0, _⟩ := DataW.trod_int (cs := [c0]) (x := x0) Tryz.underlying3 h0
  obtain ⟨a1, e1, f1, _⟩ := DataW.trod_int (cs := [c1]) (x := x1) Tryz.underlying3 h1
  rw [he] at hx
  subst f0 f1
  simp at hx e0 e1
  obtain ⟨rfl, rfl⟩ := hx
  rw [e0, e1]
theorem free_of {fuel : Nat} {cs : List Value} {x : DataW H × List MemPlace} (h : DataW.trod enc Tryz.prog w base spare held fuel 48 cs = some x) (hx : x.1 = Rows.laid_loop_example_invertedpages_impl_free) : cs = freeCells.toList := by
 obtain ⟨hl, n, xs, hxl, he, hf⟩ := fldx Tryz.underlying48 h
 rw [ce_frameI] at hl
 match cs, hl, xs, hxl with
 | [c0, c1, c2, c3, c4], _, [x0, x1, x2, x3], _ =>
  have h0 := hf 0 _ rfl 4 0 1 rfl rfl ce_bool
  have h1 := hf 1 _ rfl 36 1 2 rfl rfl ce_keyI
  have h2 := hf 2 _ rfl 3 3 1 rfl rfl ce_int
  have h3 := hf 3 _ rfl 3 4 1 rfl rfl ce_int
  obtain ⟨a0, e0, f0⟩ := DataW.trod_bool (cs := [c0]) (x := x0) Tryz.underlying4 h0
  obtain ⟨a2, e2, f2, _⟩ := DataW.trod_int (cs := [c3]) (x := x2) Tryz.underlying3 h2
  obtain ⟨a3, e3, f3, _⟩ := DataW.trod_int (cs := [c4]) (x := x3) Tryz.underlying3 h3
  rw [he] at hx
  subst f0 f2 f3
  simp [Rows.laid_loop_example_invertedpages_impl_free] at hx e0 e2 e3
  obtain ⟨rfl, hk, rfl, rfl⟩ := hx
  have hk2 := keyd_of (cs := [c1, c2]) (x := x1) h1 hk
  simp at hk2
  obtain ⟨rfl, rfl⟩ := hk2
  rw [e0, e2, e3]; rfl
end
theorem free_of_laid {W : World} (h : laidMet Tryz.prog [("loop.example/invertedpages/impl.free", Rows.laid_loop_example_invertedpages_impl_free)] W) : W.var? Tryz.prog "loop.example/invertedpages/impl.free" = some freeCells ∧ Free W := by
 obtain ⟨ps, ⟨g, t, cs, fuel, p, q, hg, ht, hvar, hd, _, _⟩, _⟩ := h
 obtain rfl := Option.some.inj (free_named.symm.trans hg)
 obtain rfl := Option.some.inj (free_type.symm.trans ht)
 obtain ⟨l⟩ := cs
 have hc := free_of hd rfl
 simp only at hc
 subst hc
 have e : ∀ i, W.cell? ⟨0, i, none⟩ = freeCells[i]? := fun i => World.var?_cell hg hvar i
 refine ⟨hvar, World.block_lt_of_cell? W _ (e 0), e 0, e 1, e 2, e 3, e 4⟩
noncomputable def laidWorld (os : Os) : World :=
 { World.holding Tryz.prog os ⟨#[], #[], []⟩ with heap := (World.holding Tryz.prog os ⟨#[], #[], []⟩).heap.modify 0 fun
   | .cells _ t frozen => .cells freeCells t frozen
   | o => o }
theorem laid_met (os : Os) (args : Array Value) : laidMet Tryz.prog [("loop.example/invertedpages/impl.free", Rows.laid_loop_example_invertedpages_impl_free)] ((laidWorld os).forCall (fun _ _ => 0) ⟨#[], args, []⟩).memory :=
 laidMet_of_run (ps := [.cell 0 0, .cell 0 1, .cell 0 2, .cell 0 3, .cell 0 4]) 8 (by kernel_rfl) (by kernel_rfl) (by kernel_rfl)
end Go.Proofs.YtnaagdmaggdbmaaGreatDoor
namespace Go.Proofs.YtnaagdmaggdbmaaGreatDoor.lPutParts
open Go.ChangeShapes Go.WideShapes Go.ChangeAt Go.RowKit Go.Joins
set_option maxRecDepth 1000000
set_option maxRecDepth 100000 in
theorem closed : joinedFacts Tryz.prog 3 Tryz.f3 Rows.fnPutPartsSpec Rows.fnPutPartsRow = true := by
 unfold joinedFacts
 rw [may_enter, lifts_final, make_cut]
 refine Eq.trans ?_ (Eq.refl _)
 kernel_rfl
end Go.Proofs.YtnaagdmaggdbmaaGreatDoor.lPutParts
namespace Go.Proofs.YtnaagdmaggdbmaaGreatDoor.lPutParts
open Go.ChangeShapes Go.WideShapes Go.ChangeAt Go.RowKit Go.Joins
set_option linter.unusedVariables false
set_option maxRecDepth 1000000
set_option maxRecDepth 100000 in
theorem lifted (os : Os) (started : os.Started) (H : Type) (enc : TypeId × Value → H) :
  ReturnsInHanded {} Tryz.checked os 3 .any (fun w args => (Rows.fnPutPartsSpec.pre enc Tryz.prog Tryz.f3 Rows.fnPutPartsRow.domain false w args ∧ laidMet Tryz.prog [("loop.example/invertedpages/impl.free", Rows.laid_loop_example_invertedpages_impl_free)] w) ∧ sizedMet enc Tryz.prog Tryz.f3 (OpenSpec.ofChange Rows.fnPutPartsSpec) false w args)
   (Rows.fnPutPartsSpec.post enc Tryz.prog Tryz.f3 false true false false) := by
 refine returnsInHanded_of_change_and (C := Tryz.checked) (X := fun w _ => laidMet Tryz.prog [("loop.example/invertedpages/impl.free", Rows.laid_loop_example_invertedpages_impl_free)] w) (fun _ _ _ hh h => h.of_heap hh) own_ started (by kernel_rfl) Tryz.func3
  (ChangeSpec.witness_at (enc := enc) (C := Tryz.checked) (os := os) (X := fun w _ => laidMet Tryz.prog [("loop.example/invertedpages/impl.free", Rows.laid_loop_example_invertedpages_impl_free)] w) false (laidWorld os) #[.slice none 0 0] 8 rfl (by kernel_rfl) (by kernel_rfl) (by kernel_rfl) (by kernel_rfl) (by kernel_rfl) (laid_met os _)) ?_
 intro W base args ds gs before hval0 hW hcnd _ hL _
 have hval : ∀ (j : Nat) t v, Tryz.f3.params[j]? = some t → args[j]? = some v → Value.okWide Tryz.prog W .any base t v := hval0
 have hW' := hW
 obtain ⟨p, q, hA0, hV0, rfl, hfz, hnd⟩ := hW
 have hA : DataW.TrodAll enc Tryz.prog W 0 (fun _ => true) true Tryz.f3.params.toList args.toList ds p := hA0
 have hV : DataW.TrodVars enc Tryz.prog W (fun _ => true) ["loop.example/invertedpages/impl.free"] gs q := hV0
 rw [Tryz.params3] at hA hval
 obtain ⟨v0, vs0, d0, ds0, p0, q0, hargs, rfl, rfl, h0, r0⟩ := trodAll_cons hA
 obtain ⟨rfl, rfl, rfl⟩ := trodAll_nil r0
 obtain rfl : args = #[v0] := by cases args; simp_all
 obtain ⟨hvar0, hfree⟩ := free_of_laid hL
 obtain ⟨g, t, cs, fuel, d, p', rfl, hg, ht, hvar, hd, rfl⟩ := trodVars_one hV
 obtain rfl := Option.some.inj (free_named.symm.trans hg)
 obtain rfl := Option.some.inj (free_type.symm.trans ht)
 obtain rfl : cs = freeCells := Option.some.inj (hvar.symm.trans hvar0)
 have k0 := h0
 have lt0 : ∀ x ∈ p0, x.block < W.heap.size := by obtain ⟨m, hm⟩ := k0; exact DataW.trod_lt m _ _ _ hm
 have kd : DataW.Trod enc Tryz.prog W 0 (fun _ => true) true 48 (.agg freeCells) d p' := ⟨fuel, hd⟩
 have ltd : ∀ x ∈ p', x.block < W.heap.size := DataW.trod_lt fuel _ _ _ hd
 obtain ⟨a0, len0, cap0, rfl⟩ := okWide_slice Tryz.underlying22 (hval 0 22 v0 rfl rfl)
 obtain ⟨z0, w0⟩ : ∃ zs, IsRow .u8 W a0 len0 cap0 zs := by
  obtain ⟨fuel, hf⟩ := h0
  rcases open_ints Tryz.underlying22 Tryz.underlying5 (by kernel_rfl) hf with ⟨hcs, _⟩ | ⟨x, l, c, zs, hcs, _, hl, hm, hz, _, hcell, hwz⟩
  ·simp [Value.cells] at hcs
   obtain ⟨rfl, rfl, rfl⟩ := hcs
   exact ⟨[], .inl ⟨rfl, rfl, rfl, rfl⟩⟩
  ·simp [Value.cells] at hcs
   obtain ⟨rfl, rfl, rfl⟩ := hcs
   exact ⟨zs, .inr ⟨_, rfl, hl, hm, by simpa using hz, hcell, hwz⟩⟩
 clear hA0 hV0 hval0
 refine (walk a0 len0 cap0 z0 W w0 hfree).mono fun e W' ⟨he, bel⟩ => ?_
 subst he
 have hvar' := var_stays hg hvar bel (Nat.le_refl _)
 obtain ⟨fuel', hd'⟩ := Below.trod laidOut (by kernel_rfl) (of_decide_eq_true (by kernel_rfl)) kd bel ltd
 exact ⟨_, rfl, _, _, _, [], _, _, hW', trodAll_mk1 (shut_bool Tryz.underlying4 _), (trodAll_cons_mk (Below.trod laidOut (by kernel_rfl) (of_decide_eq_true (by kernel_rfl)) k0 bel lt0) trodAll_mk0), ⟨0, 48, freeCells, fuel', _, _, hg, ht, hvar', hd', rfl, rfl⟩, bel.frame _, fun h => by cases h⟩
theorem over : Rows.fnPutPartsRow.holds Tryz.pinned (OpenSpec.ofChange Rows.fnPutPartsSpec) :=
 OpenClaim.holds_of_wide 3 Tryz.f3 rfl rfl rfl rfl rfl rfl rfl ⟨rfl, rfl, rfl, rfl, rfl⟩ rfl rfl rfl rfl rfl (by kernel_rfl) Tryz.func3 closed
  (of_decide_eq_true (by kernel_rfl)) (by unfold Func.isWrapper; rw [if_neg (of_decide_eq_false (by kernel_rfl))]; exact ⟨rfl, rfl⟩)
  (fun os started H enc _ => lifted os started H enc)
end Go.Proofs.YtnaagdmaggdbmaaGreatDoor.lPutParts
