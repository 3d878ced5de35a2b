/- A part of the proofs of this seat: LXrE. -/
import Derived.ChangeSame
import Derived.Below
import Derived.Deep.RegionHeldLaw
import Derived.Deep.LoopGhost
import Derived.Test.YtibpnlojlfcpmaaGreatDoorRLXr
set_option linter.unusedVariables false
set_option linter.unusedSimpArgs false
set_option maxRecDepth 1000000
namespace Go.Proofs.YtibpnlojlfcpmaaGreatDoor.lExactRangesOf
open Go.ChangeShapes Go.WideShapes Go.ChangeAt Go.RowKit Go.Joins
theorem rgsV_len (m : Ma) (s : Int) : (rgsV m s).length ≤ 1000 := by
 cases h : rgsO m s with
 | false => rw [rgsV_no h]; simp
 | true =>
  have h1 := (rgs_parts h).len
  have h2 := kys_len m.t
  have hm : mav m = true := by unfold rgsO at h; rw [Bool.and_eq_true] at h; exact h.1
  have h3 := ((tv_parts (mav_parts hm).1).1).2.1
  omega
theorem walk (vb vf vl vo : Value) (m : Ma) (s : Int) (w : World) (hM : MaR w vb vf vl vo m) (hfree : Free w) :
  Calls Tryz.prog 3 #[.agg #[vb, vf, vl, .int .i64 m.c.hand, .int .i64 m.g.count, .int .i64 m.g.next, .int .i64 m.g.round, vo, .int .i64 m.sp], .int .i64 s] w fun e w' => e = .returned (.bool true) ∧ Below w.heap.size w w' :=
 walk0 vb vf vl vo m s (rgsV m s) (rgsO m s) w hM hfree (rgsV_len m s)
  (fun e1 e2 e3 e4 W h => sRangesOf_any e1 e2 e3 e4 m s W h) (fun e1 e2 e3 e4 W h hf => RangesOf_any e1 e2 e3 e4 m s W h hf)
set_option maxRecDepth 100000 in
theorem lifted (os : Os) (started : os.Started) (H : Type) (enc : TypeId × Value → H) :
  ReturnsInHanded {} Tryz.checked os 3 .any (fun w args => (Rows.fnExactRangesOfSpec.pre enc Tryz.prog Tryz.f3 Rows.fnExactRangesOfRow.domain false w args ∧ laidMet Tryz.prog [("loop.example/invertedpages/impl.free", Rows.laid_loop_example_invertedpages_impl_free)] w) ∧ sizedMet enc Tryz.prog Tryz.f3 (OpenSpec.ofChange Rows.fnExactRangesOfSpec) false w args)
   (Rows.fnExactRangesOfSpec.post enc Tryz.prog Tryz.f3 false true false false) := by
 refine returnsInHanded_of_change_and (C := Tryz.checked) (X := fun w _ => laidMet Tryz.prog [("loop.example/invertedpages/impl.free", Rows.laid_loop_example_invertedpages_impl_free)] w) (fun _ _ _ hh h => h.of_heap hh) own_ started (by kernel_rfl) Tryz.func3
  (ChangeSpec.witness_at (enc := enc) (C := Tryz.checked) (os := os) (X := fun w _ => laidMet Tryz.prog [("loop.example/invertedpages/impl.free", Rows.laid_loop_example_invertedpages_impl_free)] w) false (laidWorld os) #[.agg #[.slice none 0 0, .slice none 0 0, .slice none 0 0, .int .i64 0, .int .i64 0, .int .i64 0, .int .i64 0, .slice none 0 0, .int .i64 0], .int .i64 0] 8 rfl (by kernel_rfl) (by kernel_rfl) (by kernel_rfl) (by kernel_rfl) (by kernel_rfl) (laid_met os _)) ?_
 intro W base args ds gs before hval0 hW hcnd _ hL _
 have hval : ∀ (j : Nat) t v, Tryz.f3.params[j]? = some t → args[j]? = some v → Value.okWide Tryz.prog W .any base t v := hval0
 have hW' := hW
 obtain ⟨p, q, hA0, hV0, rfl, hfz, hnd⟩ := hW
 have hA : DataW.TrodAll enc Tryz.prog W 0 (fun _ => true) true Tryz.f3.params.toList args.toList ds p := hA0
 have hV : DataW.TrodVars enc Tryz.prog W (fun _ => true) ["loop.example/invertedpages/impl.free"] gs q := hV0
 rw [Tryz.params3] at hA hval
 obtain ⟨v0, vs0, d0, ds0, p0, q0, hargs, rfl, rfl, h0, r0⟩ := trodAll_cons hA
 obtain ⟨v1, vs1, d1, ds1, p1, q1, rfl, rfl, rfl, h1, r1⟩ := trodAll_cons r0
 obtain ⟨rfl, rfl, rfl⟩ := trodAll_nil r1
 obtain rfl : args = #[v0, v1] := by cases args; simp_all
 obtain ⟨hvar0, hfree⟩ := free_of_laid hL
 obtain ⟨g, t, cs, fuel, d, p', rfl, hg, ht, hvar, hd, rfl⟩ := trodVars_one hV
 obtain rfl := Option.some.inj (free_named.symm.trans hg)
 obtain rfl := Option.some.inj (free_type.symm.trans ht)
 obtain rfl : cs = freeCells := Option.some.inj (hvar.symm.trans hvar0)
 have k0 := h0
 have lt0 : ∀ x ∈ p0, x.block < W.heap.size := by obtain ⟨m, hm⟩ := k0; exact DataW.trod_lt m _ _ _ hm
 have kd : DataW.Trod enc Tryz.prog W 0 (fun _ => true) true 66 (.agg freeCells) d p' := ⟨fuel, hd⟩
 have ltd : ∀ x ∈ p', x.block < W.heap.size := DataW.trod_lt fuel _ _ _ hd
 obtain ⟨vb, vf, vl, vo, m, rfl, hM⟩ := open_machine (hval 0 33 v0 rfl rfl) h0
 obtain ⟨n1, rfl, rfl, rfl, wn1⟩ := open_int Tryz.underlying3 (hval 1 3 v1 rfl rfl) h1
 clear hA0 hV0 hval0
 refine (walk vb vf vl vo m n1 W hM hfree).mono fun e W' ⟨he, bel⟩ => ?_
 subst he
 have hvar' := var_stays hg hvar bel (Nat.le_refl _)
 obtain ⟨fuel', hd'⟩ := Below.trod laidOut (by kernel_rfl) (of_decide_eq_true (by kernel_rfl)) kd bel ltd
 exact ⟨_, rfl, _, _, _, [], _, _, hW', trodAll_mk1 (shut_bool Tryz.underlying4 _), (trodAll_cons_mk (Below.trod laidOut (by kernel_rfl) (of_decide_eq_true (by kernel_rfl)) k0 bel lt0) (trodAll_cons_mk (shut_int Tryz.underlying3 wn1) trodAll_mk0)), ⟨0, 66, freeCells, fuel', _, _, hg, ht, hvar', hd', rfl, rfl⟩, bel.frame _, fun h => by cases h⟩
theorem over : Rows.fnExactRangesOfRow.holds Tryz.pinned (OpenSpec.ofChange Rows.fnExactRangesOfSpec) :=
 OpenClaim.holds_of_wide 3 Tryz.f3 rfl rfl rfl rfl rfl rfl rfl ⟨rfl, rfl, rfl, rfl, rfl⟩ rfl rfl rfl rfl rfl (by kernel_rfl) Tryz.func3 closed
  (of_decide_eq_true (by kernel_rfl)) (by unfold Func.isWrapper; rw [if_neg (of_decide_eq_false (by kernel_rfl))]; exact ⟨rfl, rfl⟩)
  (fun os started H enc _ => lifted os started H enc)
end Go.Proofs.YtibpnlojlfcpmaaGreatDoor.lExactRangesOf
