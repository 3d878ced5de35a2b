/- A part of the proofs of this seat: LXrD, Mk3, Mss. -/
import Derived.Deep.RegionHeldLaw
import Derived.Below
import Derived.Deep.LoopGhost
import Derived.Test.YtibpnlojlfcpmaaGreatDoorROpen
import Derived.Test.YtibpnlojlfcpmaaGreatDoorRGn
set_option linter.unusedVariables false
set_option linter.unusedSimpArgs false
set_option maxRecDepth 1000000
namespace Go.Proofs.YtibpnlojlfcpmaaGreatDoor.lExactRangesOf
open Go.ChangeShapes Go.WideShapes Go.ChangeAt Go.RowKit Go.Joins
set_option maxRecDepth 100000 in
theorem closed : joinedFacts Tryz.prog 3 Tryz.f3 Rows.fnExactRangesOfSpec Rows.fnExactRangesOfRow = true := by
 unfold joinedFacts
 rw [may_enter, lifts_final, make_cut]
 refine Eq.trans ?_ (Eq.refl _)
 kernel_rfl
end Go.Proofs.YtibpnlojlfcpmaaGreatDoor.lExactRangesOf
namespace Go.Proofs.YtibpnlojlfcpmaaGreatDoor
open Go.RowKit
theorem Mk.apart {f : Nat → Value} {sz : Nat} {e : TypeId} {w w' : World} {A : Option Addr} {n : Nat} {r : Option Nat} (h : Mk f sz e w A n) (hg : w.grownBy w' r) (hne : ∀ g, rowOf n A = some g → r ≠ some g) : Mk f sz e w' A n :=
 ⟨fun hn => let ⟨g, cs, e1, o1, hs, hc⟩ := h.own hn; ⟨g, cs, e1, own_other o1 hg (fun e2 => hne g (by rw [e1]; exact rowOf_some (by omega)) e2.symm), hs, hc⟩⟩
set_option maxHeartbeats 2000000 in
theorem eqIntSS_rs (B B' : Nat) (A A' : Option Addr) (c c' n : Nat) (a : List Rng) (w : World) (h : RgR B w (.slice A n c) a) (h' : RgR B' w (.slice A' n c') a) :
  Calls Tryz.prog 17 #[.slice A n c, .slice A' n c'] w fun r w' => r = .returned (.bool true) ∧ Below w.heap.size w w' := by
 obtain ⟨rfl, hl⟩ := h.len
 have H1 := Hd h
 have H2 := Hd h'
 clear h h'
 go_enter Tryz.func17, Tryz.ntmps17
 go_wp2
 go_loopw [5] (fun i wr => ∃ k : Nat, k ≤ a.length ∧ i = .int .i64 k ∧ Below w.heap.size w wr) (fun i _ => a.length - (intOf i).toNat)
 case atStart => exact ⟨0, by omega, rfl, bR⟩
 case round =>
  obtain ⟨k, hk, rfl, hb⟩ := hrel
  by_cases hlt : k < a.length
  ·obtain ⟨x, ex⟩ : ∃ x, a[k]? = some x := ⟨_, List.getElem?_eq_getElem hlt⟩
   obtain ⟨b1, o1, g1, rfl, hb1, e1, ho1⟩ := (H1.out.now hb).at_ ex
   obtain ⟨b2, o2, g2, rfl, hb2, e2, ho2⟩ := (H2.out.now hb).at_ ex
   have KI : Hid (∀ W, Below wr.heap.size wr W → Calls Tryz.prog 48 #[.slice (some ⟨g1, 0, none⟩) 3 3, .slice (some ⟨g2, 0, none⟩) 3 3] W fun r w' => r = .returned (.bool true) ∧ Below W.heap.size W w') :=
    Hd (fun W hbw => eqIntS_same _ _ 3 3 [x.1, x.2.1, x.2.2] W (own_rs3 (ho1.below hbw)) (own_rs3 (ho2.below hbw)) (by simp))
   have hki : (k : Int) < (a.length : Int) := by omega
   have hk0 : (0 : Int) ≤ (k : Int) := by omega
   have t1 := xcell e1 hb1
   have t2 := xcell e2 hb2
   have HB := Hd hb
   clear ex e1 e2 ho1 ho2 hb
   go_wp2
   refine wp_region_ext (by kernel_rfl) (by kernel_rfl) ?_
   repeat (go_big_quiet_step ((go_at_call 48; exact ext_call (KI.out _ (Ext.ok _)))))
   refine wpQuiet_nil ?_
   intro _ hw'
   obtain ⟨⟨wq, hq⟩, hw''⟩ := hw'
   subst hw''
   try dsimp only
   have HBQ := Hd (bT HB.out hq)
   clear t1 t2 hq
   go_wp2
   go_roundw
   case rel => exact ⟨k + 1, by omega, by go_num, HBQ.out⟩
   case measure => simp [intOf]; omega
  ·go_wp2
   go_ret
   exact ⟨rfl, hb⟩
structure SSt (B : Nat) (A : Option Addr) (gs : List Nat) (a : List Rng) (k0 : Int) (k : Nat) (w : World) : Prop where
 out_ : MineE slE 22 B w A gs
 done : ∀ (i g : Nat), i < k → gs[i]? = some g → Mk (mkE bInt 1 (k0 + 3 * (i : Int))) 1 3 w (some ⟨g, 0, none⟩) 3
 todo : ∀ (i g : Nat) (x : Rng), k ≤ i → gs[i]? = some g → a[i]? = some x → B ≤ g ∧ Own w g 3 (r3 x)
theorem own_mine3 {B : Nat} {w : World} {g : Nat} {x : Rng} (hB : B ≤ g) (h : Own w g 3 (r3 x)) : MineE intE 3 B w (some ⟨g, 0, none⟩) [x.1, x.2.1, x.2.2] :=
 ⟨own_rs3 h, fun _ => ⟨g, _, rfl, hB, h, by simp [intE]⟩⟩
theorem nodup_ne {gs : List Nat} (h : gs.Nodup) {i j g g' : Nat} (hi : gs[i]? = some g) (hj : gs[j]? = some g') (hne : i ≠ j) : g ≠ g' := by
 rintro rfl
 obtain ⟨h1, e1⟩ := List.getElem?_eq_some_iff.1 hi
 obtain ⟨h2, e2⟩ := List.getElem?_eq_some_iff.1 hj
 unfold List.Nodup at h
 rw [List.pairwise_iff_getElem] at h
 rcases Nat.lt_or_gt_of_ne hne with h3 | h3
 ·exact h i j h1 h2 h3 (e1.trans e2.symm)
 ·exact h j i h2 h1 h3 (e2.trans e1.symm)
theorem SSt.step {B : Nat} {A : Option Addr} {gs : List Nat} {a : List Rng} {k0 : Int} {k g : Nat} {w w' : World} (h : SSt B A gs a k0 k w) (hnd : gs.Nodup) (hg : gs[k]? = some g) {cs : Array Value} (ho : Own w g 3 cs)
  (hgr : w.grownBy w' (rowOf 3 (some ⟨g, 0, none⟩))) (hm : Mk (mkE bInt 1 (k0 + 3 * (k : Int))) 1 3 w' (some ⟨g, 0, none⟩) 3) : SSt B A gs a k0 (k + 1) w' := by
 refine ⟨mine_other h.out_ hgr (fun _ => ⟨g, cs, rfl, ho⟩) (by decide), fun i g' hi e => ?_, fun i g' x hi e ex => ?_⟩
 ·by_cases hik : i = k
  ·subst hik
   rw [hg] at e
   injection e with e
   subst e
   exact hm
  ·refine (h.done i g' (by omega) e).apart hgr (fun q hq hr => ?_)
   rw [rowOf_some (by omega)] at hq hr
   exact nodup_ne hnd e hg hik (by injection hq with hq; injection hr with hr; exact hq.trans hr.symm)
 ·obtain ⟨h1, h2⟩ := h.todo i g' x (by omega) e ex
  refine ⟨h1, own_other h2 hgr (fun hr => ?_)⟩
  rw [rowOf_some (by omega)] at hr
  exact nodup_ne hnd e hg (by omega) (by injection hr)
theorem oth_or {p : TypeId → Prop} {w w' : World} (h : Oth (fun e => p e ∨ p e) w w') : Oth p w w' := ⟨h.1, fun g e cs o hn => h.2 g e cs o (fun h9 => h9.elim hn hn)⟩
theorem own_mine3_row {g : Nat} : rowOf 3 (some ⟨g, 0, none⟩) = some g := rowOf_some (by omega)
set_option maxHeartbeats 2000000 in
theorem markIntSS_any (B n c : Nat) (A : Option Addr) (gs : List Nat) (a : List Rng) (w : World) (k0 : Int) (hn : n = a.length) (hM : MineE slE 22 B w A gs) (hg : GsM B w gs a) (hk0 : 0 ≤ k0) (hk1 : k0 ≤ 536870912) (hl : n ≤ 1000) :
  Calls Tryz.prog 20 #[.slice A n c, .int .i64 k0] w fun r w' => r = .returned (.int .i64 (k0 + 3 * (n : Int))) ∧ SSt B A gs a k0 n w' ∧ Tch B w.heap.size w w' ∧ Oth (fun e => e = 3) w w' := by
 subst hn
 have HG := Hd hg
 have HLT : Hid (∀ g ∈ gs, g < w.heap.size) := Hd (fun g hm => (hg.lt hm).2)
 have hs0 : SSt B A gs a k0 0 w := ⟨hM, fun i g hi => absurd hi (by omega), fun i g x _ e1 e2 => hg.at_ i g x e1 e2⟩
 have HS0 := Hd hs0
 clear hM hg hs0
 go_enter Tryz.func20, Tryz.ntmps20
 go_wp2
 go_loopw [1, 5] (fun kv iv wr => ∃ k : Nat, k ≤ a.length ∧ iv = .int .i64 k ∧ kv = .int .i64 (k0 + 3 * (k : Int)) ∧ Hid (SSt B A gs a k0 k wr) ∧ Hid (Tch B w.heap.size w wr) ∧ Hid (Oth (fun e => e = 3) w wr)) (fun _ iv _ => a.length - (intOf iv).toNat)
 case atStart => exact ⟨0, by omega, rfl, by simp, HS0.out, Tch.rfl_, Oth.of_below bR⟩
 case round =>
  obtain ⟨k, hk, rfl, rfl, hS, hT, hO⟩ := hrel
  by_cases hlt : k < a.length
  ·have hgl := HG.out.len
   obtain ⟨g, eg⟩ : ∃ g, gs[k]? = some g := ⟨_, List.getElem?_eq_getElem (by omega)⟩
   obtain ⟨x, ex⟩ : ∃ x, a[k]? = some x := ⟨_, List.getElem?_eq_getElem hlt⟩
   obtain ⟨hB, ho⟩ := hS.out.todo k g x (Nat.le_refl _) eg ex
   obtain ⟨b, o, rfl, hbb, cb⟩ := hS.out.out_.is.sl eg
   have hki : (k : Int) < (a.length : Int) := by omega
   have hkk : (0 : Int) ≤ (k : Int) := by omega
   have HEG := Hd eg
   have HOW := Hd ho
   have HB := Hd hB
   clear eg ex ho hB hgl
   go_wp2_with fail
   refine (markIntS_any B (some ⟨g, 0, none⟩) 3 3 [x.1, x.2.1, x.2.2] wr (k0 + 3 * (k : Int)) (own_mine3 HB.out HOW.out) rfl (by omega) (by omega) (by omega)).mono ?_
   rintro e w2 ⟨rfl, hmk, hgr, hor⟩
   have HSN := Hd (hS.out.step HG.out.nd HEG.out HOW.out hgr hmk)
   have HTN := Hd (hT.out.trans (Tch.grown (lo := B) (hi := w.heap.size) hgr (fun q hq => by rw [own_mine3_row] at hq; injection hq with hq; subst hq; exact ⟨HB.out, HLT.out g (List.mem_of_getElem? HEG.out)⟩)))
   have HON := Hd (oth_or (hO.out.trans (oth_of hgr hor)))
   clear hmk hgr hor cb
   go_wp2
   go_roundw
   case rel => exact ⟨k + 1, by omega, by simp, by simp; omega, HSN.out, HTN.out, HON.out⟩
   case measure => simp [intOf]; omega
  ·obtain rfl : k = a.length := by omega
   have hki : decide ((a.length : Int) < (a.length : Int)) = false := by simp
   go_wp2
   go_ret
   exact ⟨rfl, hS.out, hT.out, hO.out⟩
theorem SSt.now {B : Nat} {A : Option Addr} {gs : List Nat} {a : List Rng} {k0 : Int} {k : Nat} {w w' : World} (h : SSt B A gs a k0 k w) (hb : Below w.heap.size w w') : SSt B A gs a k0 k w' :=
 ⟨h.out_.below hb, fun i g hi e => (h.done i g hi e).now hb, fun i g x hi e ex => let ⟨h1, h2⟩ := h.todo i g x hi e ex; ⟨h1, h2.below hb⟩⟩
set_option maxHeartbeats 2000000 in
theorem heldIntSS_any (B n c : Nat) (A : Option Addr) (gs : List Nat) (a : List Rng) (w : World) (k0 : Int) (hgl : gs.length = n) (hS : SSt B A gs a k0 n w) (hk0 : 0 ≤ k0) (hk1 : k0 ≤ 536870912) (hl : n ≤ 1000) :
  Calls Tryz.prog 21 #[.slice A n c, .int .i64 k0] w fun r w' => r = .returned (.int .i64 (k0 + 3 * (n : Int))) ∧ Below w.heap.size w w' := by
 have HS := Hd hS
 clear hS
 go_enter Tryz.func21, Tryz.ntmps21
 go_wp2
 go_loopw [1, 5] (fun kv iv wr => ∃ k : Nat, k ≤ n ∧ iv = .int .i64 k ∧ kv = .int .i64 (k0 + 3 * (k : Int)) ∧ Below w.heap.size w wr) (fun _ iv _ => n - (intOf iv).toNat)
 case atStart => exact ⟨0, by omega, rfl, by simp, bR⟩
 case round =>
  obtain ⟨k, hk, rfl, rfl, hb⟩ := hrel
  by_cases hlt : k < n
  ·obtain ⟨g, eg⟩ : ∃ g, gs[k]? = some g := ⟨_, List.getElem?_eq_getElem (by omega)⟩
   have HN := Hd (HS.out.now hb)
   obtain ⟨b, o, rfl, hbb, cb⟩ := HN.out.out_.is.sl eg
   have HMK := Hd (HN.out.done k g hlt eg)
   have hki : (k : Int) < (n : Int) := by omega
   have hkk : (0 : Int) ≤ (k : Int) := by omega
   have hng : ¬ k0 + 3 * (k : Int) + 3 < 0 := by omega
   have hng2 : decide (k0 + 3 * (k : Int) + 3 < 0) = false := decide_eq_false hng
   have HB := Hd hb
   clear eg hb hgl
   go_wp2_with fail
   refine (heldIntS_any (some ⟨g, 0, none⟩) 3 3 wr (k0 + 3 * (k : Int)) HMK.out (by omega) (by omega) (by omega)).mono ?_
   rintro e w2 ⟨rfl, hb2⟩
   have HB2 := Hd (bT HB.out hb2)
   clear cb hb2
   go_wp2
   go_roundw
   case rel => exact ⟨k + 1, by omega, by simp, by simp; omega, HB2.out⟩
   case measure => simp [intOf]; omega
  ·obtain rfl : k = n := by omega
   have hki : decide ((k : Int) < (k : Int)) = false := by simp
   go_wp2
   go_ret
   exact ⟨rfl, hb⟩
theorem GsM.tch {B lo hi : Nat} {w w' : World} {gs : List Nat} {a : List Rng} (h : GsM B w gs a) (ht : Tch lo hi w w') (hB : hi ≤ B) : GsM B w' gs a := h.keep fun g cs hm o => o.tch ht (by have := (h.lt hm).1; omega)
theorem RgR.tch {B lo hi : Nat} {w w' : World} {pl : Value} {a : List Rng} (h : RgR B w pl a) (ht : Tch lo hi w w') (hB : hi ≤ B) : RgR B w' pl a :=
 let ⟨gs, A, c, e, h1, h2⟩ := h; ⟨gs, A, c, e, h1.tch ht hB, h2.tch ht hB⟩
end Go.Proofs.YtibpnlojlfcpmaaGreatDoor
