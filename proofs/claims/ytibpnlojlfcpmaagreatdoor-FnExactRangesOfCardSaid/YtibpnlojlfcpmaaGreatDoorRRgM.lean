/- A part of the proofs of this seat: RgM, RgsI. -/
import Derived.Deep.LoopGhost
import Derived.Deep.RegionHeldLaw
import Derived.Deep.CutRange
import Derived.Test.YtibpnlojlfcpmaaGreatDoorRRelA
import Derived.Test.YtibpnlojlfcpmaaGreatDoorRKyI
set_option linter.unusedVariables false
set_option linter.unusedSimpArgs false
set_option maxRecDepth 1000000
namespace Go.Proofs.YtibpnlojlfcpmaaGreatDoor
open Go.RowKit
def slE : Enc Nat where
 sz := 1
 cs g := [.slice (some ⟨g, 0, none⟩) 3 3]
 len _ := rfl
 one g u h := by simp at h; subst h; rfl
 pos := by decide
abbrev r3 (x : Rng) : Array Value := #[.int .i64 x.1, .int .i64 x.2.1, .int .i64 x.2.2]
structure GsM (B : Nat) (w : World) (gs : List Nat) (a : List Rng) : Prop where
 len : gs.length = a.length
 at_ : ∀ (i g : Nat) (x : Rng), gs[i]? = some g → a[i]? = some x → B ≤ g ∧ Own w g 3 (r3 x)
 nd : gs.Nodup
theorem GsM.nil {B : Nat} {w : World} : GsM B w [] [] := ⟨rfl, fun i g x h => by simp at h, List.nodup_nil⟩
section
variable {B : Nat} {w w' : World} {gs : List Nat} {a : List Rng}
theorem GsM.one (h : GsM B w gs a) {g : Nat} (hg : g ∈ gs) : ∃ x, B ≤ g ∧ Own w g 3 (r3 x) := by
 obtain ⟨i, hi⟩ := List.mem_iff_getElem?.1 hg
 have hl := (List.getElem?_eq_some_iff.1 hi).1
 have hl2 : i < a.length := by have := h.len; omega
 exact ⟨_, h.at_ i g _ hi (List.getElem?_eq_getElem hl2)⟩
theorem GsM.keep (h : GsM B w gs a) (hk : ∀ g cs, g ∈ gs → Own w g 3 cs → Own w' g 3 cs) : GsM B w' gs a :=
 ⟨h.len, fun i g x e1 e2 => let ⟨h1, h2⟩ := h.at_ i g x e1 e2; ⟨h1, hk _ _ (List.mem_of_getElem? e1) h2⟩, h.nd⟩
theorem GsM.below (h : GsM B w gs a) (hb : Below w.heap.size w w') : GsM B w' gs a := h.keep fun _ _ _ o => o.below hb
theorem GsM.mono {B' : Nat} (h : GsM B w gs a) (hB : B' ≤ B) : GsM B' w gs a := ⟨h.len, fun i g x e1 e2 => let ⟨h1, h2⟩ := h.at_ i g x e1 e2; ⟨Nat.le_trans hB h1, h2⟩, h.nd⟩
theorem GsM.lt (h : GsM B w gs a) {g : Nat} (hg : g ∈ gs) : B ≤ g ∧ g < w.heap.size := let ⟨_, h1, h2⟩ := h.one hg; ⟨h1, h2.lt⟩
theorem GsM.push (h : GsM B w gs a) {g : Nat} {x : Rng} (hb : B ≤ g) (hn : g ∉ gs) (ho : Own w g 3 (r3 x)) : GsM B w (gs ++ [g]) (a ++ [x]) := by
 have hl := h.len
 refine ⟨by simp [hl], fun i g' x' e1 e2 => ?_, ?_⟩
 ·rcases Nat.lt_or_ge i gs.length with hi | hi
  ·rw [List.getElem?_append_left hi] at e1
   rw [List.getElem?_append_left (by omega)] at e2
   exact h.at_ i g' x' e1 e2
  ·have hi2 := (List.getElem?_eq_some_iff.1 e1).1
   simp at hi2
   obtain rfl : i = gs.length := by omega
   rw [List.getElem?_append_right (Nat.le_refl _)] at e1
   rw [List.getElem?_append_right (by omega), hl] at e2
   simp at e1 e2
   subst e1 e2
   exact ⟨hb, ho⟩
 ·rw [List.nodup_append]
  exact ⟨h.nd, by simp, fun p hp q hq => by simp at hq; subst hq; rintro rfl; exact hn hp⟩
theorem GsM.last {x : Rng} (h : GsM B w gs (a ++ [x])) : ∃ gs' g, gs = gs' ++ [g] ∧ GsM B w gs' a ∧ g ∉ gs' ∧ B ≤ g ∧ Own w g 3 (r3 x) := by
 have hl := h.len
 have hne : gs ≠ [] := by rintro rfl; simp at hl
 obtain ⟨gs', g, rfl⟩ : ∃ l y, gs = l ++ [y] := ⟨gs.dropLast, gs.getLast hne, (List.dropLast_concat_getLast hne).symm⟩
 have hl2 : gs'.length = a.length := by simpa using hl
 have hnd := h.nd
 rw [List.nodup_append] at hnd
 refine ⟨gs', g, rfl, ⟨hl2, fun i g' x' e1 e2 => ?_, hnd.1⟩, fun hg => hnd.2.2 g hg g (by simp) rfl, h.at_ gs'.length g x (by simp) (by rw [hl2]; simp)⟩
 exact h.at_ i g' x' (by rw [List.getElem?_append_left (List.getElem?_eq_some_iff.1 e1).1]; exact e1) (by rw [List.getElem?_append_left (List.getElem?_eq_some_iff.1 e2).1]; exact e2)
theorem GsM.bump {g : Nat} {x : Rng} (h : GsM B w gs a) (hg : g ∉ gs) (hB : B ≤ g) (ho : Own w g 3 (r3 x)) (u : Int) : GsM B (w.setCell ⟨g, 1, none⟩ (.int .i64 u)) (gs ++ [g]) (a ++ [(x.1, u, x.2.2)]) := by
 refine GsM.push (h.keep fun g' cs hm o => o.far (p := ⟨g, 1, none⟩) (by rintro rfl; exact hg hm)) hB hg ?_
 have := ho.set_ 1 (.int .i64 u)
 simpa using this
end
theorem sl_info : (Tryz.prog.info? 22).map (fun i => (i.zero, i.size, i.bytes)) = some (some (.slice none 0 0), 1, 24) := by kernel_rfl
theorem run_append_s (base : Nat) (W : World) (v : Value) (n : Nat) (gs : List Nat) (g : Nat) (hown : W.ownsRow base 22 1 v n (slE.cells gs)) (hn : gs.length = n) (hs : n ≤ 1048576) (hb : base ≤ W.heap.size) :
  ∃ v' w', (Builtin.append_ #[35, 35] 35 #[v, .slice (some ⟨W.heap.size, 0, none⟩) 1 1]).run Tryz.prog (W.alloc (.cells #[.slice (some ⟨g, 0, none⟩) 3 3] 22)) = .ok v' w' ∧
   w'.ownsRow base 22 1 v' (n + 1) (slE.cells (gs ++ [g])) ∧ (W.alloc (.cells #[.slice (some ⟨g, 0, none⟩) 3 3] 22)).grownBy w' v.ownBlock ∧ (v'.ownBlock = v.ownBlock ∨ v'.ownBlock = some (W.heap.size + 1)) := by
 obtain ⟨i0, hi0, hz0, hz1, hz2⟩ := info_parts sl_info
 exact run_append_el slE 35 22 i0 _ 24 Tryz.underlying35 hi0 hz0 hz1 hz2 rfl (by omega) base W v n gs g hown hn hs hb
theorem Rd.sl {B : Nat} {w : World} {A : Option Addr} {l : List Nat} (h : Rs slE B w A l) {k g : Nat} (hk : l[k]? = some g) :
  ∃ b o, A = some ⟨b, o, none⟩ ∧ b < B ∧ w.cell? ⟨b, o + k, none⟩ = some (.slice (some ⟨g, 0, none⟩) 3 3) := by
 obtain ⟨b, o, e, hb, hc⟩ := h.el hk
 have := hc 0 _ rfl
 exact ⟨b, o, e, hb, by simpa [slE] using this⟩
structure RgS (B : Nat) (w0 : World) (a : List Rng) (pl : Value) (w : World) : Prop where
 ex : ∃ gs, w.ownsRow B 22 1 pl a.length (slE.cells gs) ∧ GsM B w gs a
 bl : Below w0.heap.size w0 w
theorem RgS.below {B : Nat} {w0 w w' : World} {a : List Rng} {pl : Value} (h : RgS B w0 a pl w) (hb : Below w.heap.size w w') : RgS B w0 a pl w' :=
 let ⟨gs, h1, h2⟩ := h.ex; ⟨⟨gs, own_kept h1 hb, h2.below hb⟩, bT h.bl hb⟩
theorem own_row_set {base n : Nat} {e t : TypeId} {sz : Nat} {w : World} {v : Value} {xs : List Value} {g : Nat} {cs : Array Value} (h : w.ownsRow base e sz v n xs) (ho : Own w g t cs) (hne : e ≠ t) (i : Nat) (u : Value) : (w.setCell ⟨g, i, none⟩ u).ownsRow base e sz v n xs := by
 obtain ⟨h1, h2⟩ := h
 rcases h2 with ⟨e1, h0⟩ | ⟨g', cap, cur, e1, hb, hoo, hc⟩
 ·exact ⟨h1, .inl ⟨e1, h0⟩⟩
 ·refine ⟨h1, .inr ⟨g', cap, cur, e1, hb, (show Own w g' e cur from hoo).far (p := ⟨g, i, none⟩) ?_, hc⟩⟩
  rintro rfl
  have h3 := (show w.heap[g']? = _ from hoo).symm.trans ho
  injection h3 with h3
  injection h3 with _ h3
  exact hne h3
theorem RgS.bump {B : Nat} {w0 w : World} {a : List Rng} {x : Rng} {pl : Value} (h : RgS B w0 (a ++ [x]) pl w) (hB : w0.heap.size ≤ B) (u : Int) :
  ∃ g A o c, pl = .slice (some ⟨A, o, none⟩) (a.length + 1) c ∧ A < w.heap.size ∧ ∀ W, Below w.heap.size w W → W.cell? ⟨A, o + a.length, none⟩ = some (.slice (some ⟨g, 0, none⟩) 3 3) ∧ Own W g 3 (r3 x) ∧ RgS B w0 (a ++ [(x.1, u, x.2.2)]) pl (W.setCell ⟨g, 1, none⟩ (.int .i64 u)) := by
 obtain ⟨gs, h1, h2⟩ := h.ex
 have hl := h2.len
 obtain ⟨gs', g, rfl, h3, h4, h5, h6⟩ := h2.last
 have hl2 : gs'.length = a.length := h3.len
 obtain ⟨A, c, rfl, _, _, hrd⟩ := rs_own (E := slE) (l := gs' ++ [g]) (by rw [hl]) h1
 obtain ⟨b, o, rfl, hbl, hc⟩ := hrd.sl (k := a.length) (g := g) (by rw [← hl2]; simp)
 refine ⟨g, b, o, c, by rw [hl]; simp, hbl, fun W hb => ⟨(hb.cell (p := ⟨b, o + a.length, none⟩) hbl).trans hc, h6.below hb, ⟨_, ?_, (h3.below hb).bump h4 h5 (h6.below hb) u⟩, ?_⟩⟩
 ·have := own_row_set (g := g) (t := 3) (own_kept h1 hb) (h6.below hb) (by decide) 1 (.int .i64 u)
  rw [show (a ++ [(x.1, u, x.2.2)]).length = (a ++ [x]).length by simp]
  exact this
 ·exact bS (bT h.bl hb) (by show w0.heap.size ≤ g; omega)
theorem RgS.app {B : Nat} {w0 w : World} {a : List Rng} {pl : Value} (h : RgS B w0 a pl w) (hB : w0.heap.size ≤ B) (hBw : B ≤ w.heap.size) (hs : a.length ≤ 1048575) (x : Rng) :
  ∃ v' w', (Builtin.append_ #[35, 35] 35 #[pl, .slice (some ⟨w.heap.size + 1, 0, none⟩) 1 1]).run Tryz.prog ((w.alloc (.cells (r3 x) 3)).alloc (.cells #[.slice (some ⟨w.heap.size, 0, none⟩) 3 3] 22)) = .ok v' w' ∧
   RgS B w0 (a ++ [x]) v' w' ∧ w.heap.size ≤ w'.heap.size ∧ (∀ g t cs, Own w g t cs → t ≠ 22 → Own w' g t cs) := by
 obtain ⟨gs, h1, h2⟩ := h.ex
 have hl := h2.len
 have hsz : (w.alloc (.cells (r3 x) 3)).heap.size = w.heap.size + 1 := by simp
 obtain ⟨v', w', hr, ho, hg, hv⟩ := run_append_s B (w.alloc (.cells (r3 x) 3)) pl a.length gs w.heap.size (h1.alloc _) hl (by omega) (by rw [hsz]; omega)
 rw [hsz] at hr hv
 have hkeep : ∀ g t cs, Own ((w.alloc (.cells (r3 x) 3)).alloc (.cells #[.slice (some ⟨w.heap.size, 0, none⟩) 3 3] 22)) g t cs → t ≠ 22 → Own w' g t cs := by
  intro g t cs o hne
  refine own_other o hg (fun e => ?_)
  rcases h1.2 with ⟨e1, _⟩ | ⟨g', cap, cur, e1, _, hoo, _⟩
  ·rw [e1] at e; cases e
  ·rw [e1] at e
   injection e with e
   subst e
   have h9 : Own w g 22 cur := hoo
   have h3 := o.symm.trans (h9.alloc.alloc : Own ((w.alloc (.cells (r3 x) 3)).alloc (.cells #[.slice (some ⟨w.heap.size, 0, none⟩) 3 3] 22)) g 22 cur)
   injection h3 with h3
   injection h3 with _ h3
   exact hne h3
 refine ⟨v', w', hr, ⟨⟨gs ++ [w.heap.size], ?_, ?_⟩, ?_⟩, ?_, fun g t cs o hne => hkeep g t cs o.alloc.alloc hne⟩
 ·rw [show (a ++ [x]).length = a.length + 1 by simp]; exact ho
 ·exact GsM.push (h2.keep fun g cs _ o => hkeep g _ cs o.alloc.alloc (by decide)) hBw (fun hm => by have := (h2.lt hm).2; omega) (hkeep _ _ _ (Own.new_ _ _ _).alloc (by decide))
 ·exact bG (bA (bA h.bl)) hg (fun k hk => by have := own_block h1 k hk; omega)
 ·have h7 := hg.size
  simp at h7
  omega
theorem RgS.appW {B : Nat} {w0 w : World} {a : List Rng} {pl : Value} (h : RgS B w0 a pl w) (hB : w0.heap.size ≤ B) (hBw : B ≤ w.heap.size) (hs : a.length ≤ 1048575) : ∀ W, Below w.heap.size w W → ∀ x : Rng,
  ∃ v' w', (Builtin.append_ #[35, 35] 35 #[pl, .slice (some ⟨W.heap.size + 1, 0, none⟩) 1 1]).run Tryz.prog ((W.alloc (.cells #[.int .i64 x.1, .int .i64 x.2.1, .int .i64 x.2.2] 3)).alloc (.cells #[.slice (some ⟨W.heap.size, 0, none⟩) 3 3] 22)) = .ok v' w' ∧ RgS B w0 (a ++ [x]) v' w' :=
 fun W hb x => let ⟨v', w', h1, h2, _⟩ := (h.below hb).app hB (Nat.le_trans hBw hb.size) hs x; ⟨v', w', h1, h2⟩
theorem RgS.appK {B : Nat} {w0 w : World} {a : List Rng} {pl : Value} (h : RgS B w0 a pl w) (hB : w0.heap.size ≤ B) (hBw : B ≤ w.heap.size) (hs : a.length ≤ 1048575) : ∀ W, Below w.heap.size w W → ∀ x : Rng,
  ∃ v' w', (Builtin.append_ #[35, 35] 35 #[pl, .slice (some ⟨W.heap.size + 1, 0, none⟩) 1 1]).run Tryz.prog ((W.alloc (.cells #[.int .i64 x.1, .int .i64 x.2.1, .int .i64 x.2.2] 3)).alloc (.cells #[.slice (some ⟨W.heap.size, 0, none⟩) 3 3] 22)) = .ok v' w' ∧ RgS B w0 (a ++ [x]) v' w' ∧ (∀ g t cs, Own W g t cs → t ≠ 22 → Own w' g t cs) :=
 fun W hb x => let ⟨v', w', h1, h2, _, h4⟩ := (h.below hb).app hB (Nat.le_trans hBw hb.size) hs x; ⟨v', w', h1, h2, h4⟩
theorem own_row_keep {base n : Nat} {e : TypeId} {sz : Nat} {w w' : World} {v : Value} {xs : List Value} (h : w.ownsRow base e sz v n xs) (hk : ∀ g t cs, Own w g t cs → t ≠ 22 → Own w' g t cs) (hne : e ≠ 22) : w'.ownsRow base e sz v n xs := by
 obtain ⟨h1, h2⟩ := h
 rcases h2 with ⟨e1, h0⟩ | ⟨g', cap, cur, e1, hb, hoo, hc⟩
 ·exact ⟨h1, .inl ⟨e1, h0⟩⟩
 ·exact ⟨h1, .inr ⟨g', cap, cur, e1, hb, hk _ _ _ (show Own w g' e cur from hoo) hne, hc⟩⟩
theorem own_keyc {B n c b o k : Nat} {w : World} {e : TypeId} {l : List Key} {x y : Int} (h : w.ownsRow B e 2 (.slice (some ⟨b, o, none⟩) n c) n (kcells l)) (hn : n = l.length) (ek : l[k]? = some (x, y)) :
  w.cell? ⟨b, o + k * 2, none⟩ = some (.int .i64 x) ∧ w.cell? ⟨b, o + k * 2 + 1, none⟩ = some (.int .i64 y) := by
 obtain ⟨A', c', e', _, _, hrd⟩ := own_rd h
 injection e' with e1 e2
 subst e1 hn
 obtain ⟨b', o', x', y', hK, _, y0, y1, e1⟩ := (show Ks w.heap.size w (some ⟨b, o, none⟩) l from hrd).key2 (List.getElem?_eq_some_iff.1 ek).1
 injection hK with hK
 injection hK with h1 h2
 subst h1 h2
 rw [ek] at e1
 injection e1 with e1
 injection e1 with h3 h4
 subst h3 h4
 exact ⟨y0, y1⟩
def RgR (B : Nat) (w' : World) (pl : Value) (a : List Rng) : Prop := ∃ (gs : List Nat) (A : Option Addr) (c : Nat), pl = .slice A a.length c ∧ SlM slE 22 B w' pl gs ∧ GsM B w' gs a
theorem rgR_nil {B : Nat} {w : World} : RgR B w (.slice none 0 0) [] := ⟨[], none, 0, rfl, slm_own (w := w) (n := 0) rfl (World.ownsRow_nil _ _ _ _), GsM.nil⟩
theorem RgS.sl {B : Nat} {w0 w : World} {a : List Rng} {pl : Value} (h : RgS B w0 a pl w) : ∃ A c, pl = .slice A a.length c ∧ a.length ≤ c := by
 obtain ⟨gs, h8, h9⟩ := h.ex
 obtain ⟨A, c, h10, h11, _⟩ := own_rd h8
 exact ⟨A, c, h10, h11⟩
theorem RgS.sn {B : Nat} {w0 w : World} {a : List Rng} {pl : Value} (h : RgS B w0 a pl w) : ∃ A n c, pl = .slice A n c ∧ a.length = n := let ⟨A, c, e, _⟩ := h.sl; ⟨A, _, c, e, rfl⟩
theorem RgS.res {B : Nat} {w0 w : World} {a : List Rng} {pl : Value} (h : RgS B w0 a pl w) : RgR B w pl a := by
 obtain ⟨gs, h1, h2⟩ := h.ex
 obtain ⟨A, c, e, _⟩ := rs_own (E := slE) (l := gs) h2.len.symm h1
 exact ⟨gs, A, c, by rw [e, h2.len], slm_own (E := slE) (l := gs) h2.len.symm h1, h2⟩
theorem RgR.clip {B : Nat} {w : World} {A : Option Addr} {n c : Nat} {a : List Rng} (h : RgR B w (.slice A n c) a) : RgR B w (.slice A n n) a := by
 obtain ⟨gs, A', c', e, ⟨A2, c2, e2, h2, h3, h4⟩, hg⟩ := h
 injection e with e3 e4 e5
 subst e3 e4
 injection e2 with e6 e7 e8
 subst e6
 exact ⟨gs, A, _, rfl, ⟨A, _, by rw [hg.len], by rw [hg.len]; exact Nat.le_refl _, by have := hg.len; omega, h4⟩, hg⟩
theorem RgR.mono {B B' : Nat} {w : World} {pl : Value} {a : List Rng} (h : RgR B w pl a) (hB : B' ≤ B) : RgR B' w pl a := by
 obtain ⟨gs, A, c, e, h1, h2⟩ := h
 exact ⟨gs, A, c, e, h1.mono hB, h2.mono hB⟩
theorem key_at {m : Ma} (hm : mav m = true) {k : Key} (h : k ∈ kys m.t) : ∃ (i : Nat) (f : Fr), fndI m.t.fs k.1 k.2 = (i : Int) ∧ m.t.fs[i]? = some f ∧ rtOf m.t k = f.r := by
 have h1 := (takO_iff.1 (keys_takO hm (s := k.1) (p := k.2) ((kys_perm (mav_parts hm).1).mem_iff.1 h))).2
 unfold fOK at h1
 rw [Bool.and_eq_true] at h1
 obtain ⟨i, f, h2, h3, _⟩ := fndI_lt (of_decide_eq_true h1.2)
 refine ⟨i, f, h2, h3, ?_⟩
 unfold rtOf
 rw [h2, Int.toNat_natCast, List.getD_eq_getElem?_getD, h3]
 rfl
theorem rg_pre {t : Tab} {s : Int} (h : tv t = true) (k : Nat) : RgI t s ((kys t).take k) (rgs t s ((kys t).take k)) :=
 rg_state _ _ rfl ((kys_strict h).sublist (List.take_sublist _ _)) (fun x hx => (kys_ok (List.mem_of_mem_take hx)).1)
theorem clips_any (A : Option Addr) (n c : Nat) (w : World) (hn : n ≤ c) : Calls Tryz.prog 63 #[.slice A n c] w fun r w' => r = .returned (.slice A n n) ∧ w = w' := by
 obtain ⟨i0, hi0, _⟩ := info_parts sl_info
 have hs := fun W => slice_max (P := Tryz.prog) W 35 22 i0 A n c Tryz.underlying35 hi0 hn
 go_enter Tryz.func63, Tryz.ntmps63
 go_wp2
 go_ret
 exact ⟨rfl, rfl⟩
set_option maxHeartbeats 4000000 in
theorem RangesOf_any (vb vf vl vo : Value) (m : Ma) (s : Int) (w : World) (hM : MaR w vb vf vl vo m) (hfree : Free w) :
  Calls Tryz.prog 16 #[.agg #[vb, vf, vl, .int .i64 m.c.hand, .int .i64 m.g.count, .int .i64 m.g.next, .int .i64 m.g.round, vo, .int .i64 m.sp], .int .i64 s] w (Post2 fun v w' => ∃ pl, v = .tuple #[pl, .bool (rgsO m s)] ∧ RgR w.heap.size w' pl (rgsV m s) ∧ Below w.heap.size w w') := by
 obtain ⟨Af, cf, rfl, hfc, hfm, hL⟩ := id hM.t.f
 have HM := Hd hM
 have HF := Hd hfree
 clear hM hfree hL hfm
 obtain ⟨W0, hW, hbx, hb0, _⟩ := box1 w #[vb, .slice Af m.t.fs.length cf, vl, .int .i64 m.c.hand, .int .i64 m.g.count, .int .i64 m.g.next, .int .i64 m.g.round, vo, .int .i64 m.sp] 48
 have HX0 := Hd hbx
 have HB0 := Hd hb0
 clear hbx hb0
 obtain ⟨p0a, p1a, p2a, p3a, p4a, p5a, p6a, p7a, p8a⟩ := cells9 HX0.out
 go_enter Tryz.func16, Tryz.ntmps16
 go_wp2_with fail
 refine (MachineValid_any vb (.slice Af m.t.fs.length cf) vl vo m _ (HM.out.now HB0.out) (HF.out.now HB0.out)).mono ?_
 rintro e w1 ⟨rfl, hb1⟩
 have HX1 := Hd (HX0.out.below hb1)
 have HB1 := Hd (bT HB0.out hb1)
 clear hb1 p0a p1a p2a p3a p4a p5a p6a p7a p8a HX0 HB0
 cases h1 : mav m with
 | false =>
  have HA : Hid (rgsO m s = false) := by show _ = _; unfold rgsO; rw [h1]; rfl
  go_wp2
  go_ret2
  exact ⟨_, rfl, .slice none 0 0, by rw [HA.out]; rfl, by rw [rgsV_no HA.out]; exact rgR_nil, HB1.out⟩
 | true =>
 cases h2 : inR s 16 with
 | false =>
  have HA : Hid (rgsO m s = false) := by show _ = _; unfold rgsO; rw [h1, h2]; rfl
  go_wp2_with fail
  refine (within_any _ _ _).mono ?_
  rintro e w' ⟨rfl, rfl⟩
  rw [h2]
  go_wp2
  go_ret2
  exact ⟨_, rfl, .slice none 0 0, by rw [HA.out]; rfl, by rw [rgsV_no HA.out]; exact rgR_nil, HB1.out⟩
 | true =>
 have HA : Hid (rgsO m s = true) := by show _ = _; unfold rgsO; rw [h1, h2]; rfl
 have HTV := Hd (mav_parts h1).1
 have HMV := Hd h1
 have hkl : (kys m.t).length ≤ 16 := by have := kys_len m.t; have := ((tv_parts (mav_parts h1).1).1).2.1; omega
 have hfl : m.t.fs.length ≤ 16 := ((tv_parts (mav_parts h1).1).1).2.1
 go_wp2_with fail
 refine (within_any _ _ _).mono ?_
 rintro e w' ⟨rfl, rfl⟩
 rw [h2]
 clear h1 h2
 have x0 := HX1.out.cell_ 0 (v := vb) rfl
 have x1 := HX1.out.cell_ 1 (v := .slice Af m.t.fs.length cf) rfl
 go_wp2_with fail
 refine (KeysOf_imp vb (.slice Af m.t.fs.length cf) m.t _ (HM.out.now HB1.out).t (HF.out.now HB1.out)).mono ?_
 rintro e w5 ⟨_, rfl, K, kc, rfl, hkc, ⟨hks, _⟩, hb5⟩
 have HKS := Hd hks
 have HX5 := Hd (HX1.out.below hb5)
 have HB5 := Hd (bT HB1.out hb5)
 have hs5 := HB5.out.size
 clear hks hb5 x0 x1 HX1 HB1
 go_wp2
 go_loopw [6, 23] (fun pl u wr => ∃ (k : Nat) (a : List Rng), k ≤ (kys m.t).length ∧ u = .int .i64 k ∧ Hid (a = rgs m.t s ((kys m.t).take k)) ∧ Hid (RgS w5.heap.size w5 a pl wr)) (fun _ u _ => (kys m.t).length - (intOf u).toNat)
 case atStart => exact ⟨0, [], by omega, rfl, rfl, ⟨⟨[], World.ownsRow_nil _ _ _ _, GsM.nil⟩, bR⟩⟩
 case round =>
  obtain ⟨k, a, hk, rfl, ha, hR⟩ := hrel
  by_cases hlt : k < (kys m.t).length
  ·have hki : (k : Int) < ((kys m.t).length : Int) := by omega
   have hk0 : (0 : Int) ≤ (k : Int) := by omega
   obtain ⟨bq, oq, x, y, hKe, hbq2, y0, y1, e1⟩ := (HKS.out.now (Nat.le_refl _) hR.out.bl).key2 hlt
   subst hKe
   have hsn : rgs m.t s ((kys m.t).take (k + 1)) = rgA m.t s a (x, y) := by rw [List.take_add_one, e1, ha.out]; exact rgs_snoc _ _ _ _
   have HSN := Hd hsn
   have HMEM := Hd (List.mem_of_getElem? e1)
   clear e1 hsn
   obtain ⟨wf, hWF, hf, hbf, _⟩ := box1 wr #[.int .i64 x, .int .i64 y] 61
   go_upto_region 7 with fail
   try rw [hWF]
   have HRF := Hd (hR.out.below hbf)
   have HP := Hd hf
   clear hf hbf y0 y1 hWF
   by_cases hxs : x = s
   ·have HXS := Hd hxs
    subst hxs
    obtain ⟨i, f, hi, ef, hrt⟩ := key_at HMV.out HMEM.out
    simp only at hi
    have hil := (List.getElem?_eq_some_iff.1 ef).1
    have HFN : Hid (∀ W, TaR W vb (.slice Af m.t.fs.length cf) m.t → Calls Tryz.prog 62 #[.agg #[vb, .slice Af m.t.fs.length cf], .agg #[.int .i64 x, .int .i64 y]] W fun r w' => r = .returned (.int .i64 (i : Int)) ∧ Below W.heap.size W w') := Hd (fun W h => by have h9 := find_any vb (.slice Af m.t.fs.length cf) m.t x y W h; rw [hi] at h9; exact h9)
    have HTF := Hd ((HM.out.now (bT HB5.out HRF.out.bl)).t)
    obtain ⟨b', o', eA, hbb', d0, d1, d2, d3, d4⟩ := ((HM.out.now (bT HB5.out HRF.out.bl)).t.fsl).fr ef
    subst eA
    have HRT := Hd hrt
    have hx5 := HX5.out.below HRF.out.bl
    have t0 := xcell (hx5.cell_ 0 (v := vb) rfl) hx5.lt
    have t1 := xcell (hx5.cell_ 1 (v := .slice (some ⟨b', o', none⟩) m.t.fs.length cf) rfl) hx5.lt
    have g0 := xcell (HP.out.cell_ 0 (v := .int .i64 x) rfl) HP.out.lt
    have g1 := xcell (HP.out.cell_ 1 (v := .int .i64 y) rfl) HP.out.lt
    have z0 := HP.out.cell_ 0 (v := .int .i64 x) rfl
    have hfr := xcell d3 hbb'
    have hii : (i : Int) < (m.t.fs.length : Int) := by omega
    have hi0 : (0 : Int) ≤ (i : Int) := by omega
    have hyk := (kys_ok HMEM.out).1
    have hy1 : 0 ≤ y := hyk.2.2.1
    have hy2 : y ≤ 255 := hyk.2.2.2
    clear hi ef d0 d1 d2 d3 d4 hx5 hrt hyk
    go_wp2
    refine wp_region_ext (by kernel_rfl) (by kernel_rfl) ?_
    repeat (go_big_quiet_step ((go_at_call 62; exact ext_call (HFN.out _ (HTF.out.now (Ext.ok _))))))
    refine wpQuiet_nil ?_
    intro _ hw'
    obtain ⟨⟨wq, hq⟩, hw''⟩ := hw'
    subst hw''
    try dsimp only
    have HRQ := Hd (HRF.out.below hq)
    have HPQ := Hd (HP.out.below hq)
    clear t0 t1 g0 g1 z0 hfr HRF HP HTF HFN hq hR
    have hal : a.length ≤ 16 := by
     have h9 := (rg_pre (s := x) HTV.out k).len
     rw [← ha.out, List.length_take] at h9
     omega
    have HPOS := Hd (rg_pre (s := x) HTV.out k).pos
    rw [← ha.out] at HPOS
    have HAPP := Hd (HRQ.out.appW (Nat.le_refl _) HRQ.out.bl.size (by omega))
    obtain ⟨A8, n8, c8, rfl, hn8⟩ := HRQ.out.sn
    go_wp2
    by_cases hae : a = []
    ·subst hae
     have hn0 : n8 = 0 := by simpa using hn8.symm
     subst hn0
     have HNX : Hid (rgs m.t x ((kys m.t).take (k + 1)) = [] ++ [(y, 1, f.r)]) := Hd (HSN.out.trans ((rgA_first (t := m.t) (s := x) (k := (x, y)) rfl).trans (by rw [HRT.out]; rfl)))
     clear hn8
     refine wp_region_ext (by kernel_rfl) (by kernel_rfl) ?_
     repeat (go_big_quiet_step (fail))
     refine wpQuiet_nil ?_
     intro _ hw'
     obtain ⟨⟨wq, hq⟩, hw''⟩ := hw'
     subst hw''
     try dsimp only
     obtain ⟨v9, w9, hrun, hr9⟩ := HAPP.out _ hq (y, 1, f.r)
     have gy := HPQ.out.below hq
     have gy1 := gy.cell_ 1 (v := .int .i64 y) rfl
     have HR9 := Hd hr9
     clear HAPP HRQ HPQ hr9 gy hq
     go_wp2_with (at_builtin; refine wpList_append_run _ rfl (.tmp 85) (.tmp 90) 35 rfl _ _ _ _ rfl rfl hrun ?_)
     go_roundw
     case rel => exact ⟨k + 1, ([] : List Rng) ++ [(y, 1, f.r)], by omega, by simp, HNX.out.symm, HR9.out⟩
     case measure => simp [intOf]; omega
    ·obtain ⟨b, ⟨p0, c0, r0⟩, rfl⟩ : ∃ b z, a = b ++ [z] := ⟨a.dropLast, a.getLast hae, (List.dropLast_concat_getLast hae).symm⟩
     obtain ⟨q1, q2, q3⟩ := HPOS.out (p0, c0, r0) (by simp)
     simp only at q1 q2 q3
     obtain ⟨g, A, o, c, hpl, hAl, hbmp⟩ := HRQ.out.bump (Nat.le_refl _) (c0 + 1)
     injection hpl with e1 e2 e3
     subst e1
     have HBM := Hd hbmp
     obtain ⟨c8e, hog, _⟩ := hbmp _ bR
     generalize hj : b.length = j at *
     have hj0 : (0 : Int) < (n8 : Int) := by omega
     have hj4 : 0 < n8 := by omega
     have hj1 : IntKind.i64.wrap ((n8 : Int) - 1) = (j : Int) := by rw [show (n8 : Int) - 1 = (j : Int) by omega]; exact IntWalk.i64_in _ (by omega)
     have hj2 : (j : Int) < (n8 : Int) := by omega
     have hj3 : (0 : Int) ≤ (j : Int) := by omega
     have hw1 : IntKind.i64.wrap (p0 + c0) = p0 + c0 := IntWalk.i64_in _ (by omega)
     have hw2 : IntKind.i64.wrap (c0 + 1) = c0 + 1 := IntWalk.i64_in _ (by omega)
     have t0 := xcell c8e hAl
     have t1 := xcell (hog.cell_ 0 (v := .int .i64 p0) rfl) hog.lt
     have t2 := xcell (hog.cell_ 1 (v := .int .i64 c0) rfl) hog.lt
     have t3 := xcell (hog.cell_ 2 (v := .int .i64 r0) rfl) hog.lt
     have g1 := xcell (HPQ.out.cell_ 1 (v := .int .i64 y) rfl) HPQ.out.lt
     clear c8e hog hbmp hn8 hae hal q1 q2 q3 e2 e3 hj
     by_cases hc1 : p0 + c0 = y
     ·have hc1b : (p0 + c0 == y) = true := by rw [beq_iff_eq]; exact hc1
      by_cases hc2 : r0 = f.r
      ·have hc2b : (r0 == f.r) = true := by rw [beq_iff_eq]; exact hc2
       have HNX : Hid (rgs m.t x ((kys m.t).take (k + 1)) = b ++ [(p0, c0 + 1, r0)]) := Hd (HSN.out.trans (rgA_more (t := m.t) (s := x) (a := b) (x := (p0, c0, r0)) (k := (x, y)) rfl ⟨hc1, hc2.trans HRT.out.symm⟩))
       clear hc1 hc2
       refine wp_region_ext (by kernel_rfl) (by kernel_rfl) ?_
       repeat (go_big_quiet_step (fail))
       refine wpQuiet_nil ?_
       intro _ hw'
       obtain ⟨⟨wq, hq⟩, hw''⟩ := hw'
       subst hw''
       try dsimp only
       obtain ⟨c8e, hog, hnx⟩ := HBM.out _ hq
       have s0 := hog.cell_ 1 (v := .int .i64 c0) rfl
       have s1 := hog.free 1
       have hgl := hog.lt
       have HNR := Hd hnx
       clear t0 t1 t2 t3 g1 hog hnx HBM HAPP HRQ HPQ
       go_wp2
       go_roundw
       case rel => exact ⟨k + 1, b ++ [(p0, c0 + 1, r0)], by omega, by simp, HNX.out.symm, HNR.out⟩
       case measure => simp [intOf]; omega
      ·have hc2b : (r0 == f.r) = false := by rw [beq_eq_false_iff_ne]; exact hc2
       have HNX : Hid (rgs m.t x ((kys m.t).take (k + 1)) = b ++ [(p0, c0, r0)] ++ [(y, 1, f.r)]) := Hd (HSN.out.trans ((rgA_new (t := m.t) (s := x) (a := b) (x := (p0, c0, r0)) (k := (x, y)) rfl (fun h => hc2 (h.2.trans HRT.out))).trans (by rw [HRT.out])))
       clear hc1 hc2
       refine wp_region_ext (by kernel_rfl) (by kernel_rfl) ?_
       repeat (go_big_quiet_step (fail))
       refine wpQuiet_nil ?_
       intro _ hw'
       obtain ⟨⟨wq, hq⟩, hw''⟩ := hw'
       subst hw''
       try dsimp only
       clear t0 t1 t2 t3 g1 HBM
       obtain ⟨v9, w9, hrun, hr9⟩ := HAPP.out _ hq (y, 1, f.r)
       have gy := HPQ.out.below hq
       have gy1 := gy.cell_ 1 (v := .int .i64 y) rfl
       have HR9 := Hd hr9
       clear HAPP HRQ HPQ hr9 gy hq
       go_wp2_with (at_builtin; refine wpList_append_run _ rfl (.tmp 85) (.tmp 90) 35 rfl _ _ _ _ rfl rfl hrun ?_)
       go_roundw
       case rel => exact ⟨k + 1, (b ++ [(p0, c0, r0)]) ++ [(y, 1, f.r)], by omega, by simp, HNX.out.symm, HR9.out⟩
       case measure => simp [intOf]; omega
     ·have hc1b : (p0 + c0 == y) = false := by rw [beq_eq_false_iff_ne]; exact hc1
      have HNX : Hid (rgs m.t x ((kys m.t).take (k + 1)) = b ++ [(p0, c0, r0)] ++ [(y, 1, f.r)]) := Hd (HSN.out.trans ((rgA_new (t := m.t) (s := x) (a := b) (x := (p0, c0, r0)) (k := (x, y)) rfl (fun h => hc1 h.1)).trans (by rw [HRT.out])))
      clear hc1
      refine wp_region_ext (by kernel_rfl) (by kernel_rfl) ?_
      repeat (go_big_quiet_step (fail))
      refine wpQuiet_nil ?_
      intro _ hw'
      obtain ⟨⟨wq, hq⟩, hw''⟩ := hw'
      subst hw''
      try dsimp only
      clear t0 t1 t2 t3 g1 HBM
      obtain ⟨v9, w9, hrun, hr9⟩ := HAPP.out _ hq (y, 1, f.r)
      have gy := HPQ.out.below hq
      have gy1 := gy.cell_ 1 (v := .int .i64 y) rfl
      have HR9 := Hd hr9
      clear HAPP HRQ HPQ hr9 gy hq
      go_wp2_with (at_builtin; refine wpList_append_run _ rfl (.tmp 85) (.tmp 90) 35 rfl _ _ _ _ rfl rfl hrun ?_)
      go_roundw
      case rel => exact ⟨k + 1, (b ++ [(p0, c0, r0)]) ++ [(y, 1, f.r)], by omega, by simp, HNX.out.symm, HR9.out⟩
      case measure => simp [intOf]; omega
   ·have hne : (x == s) = false := by rw [beq_eq_false_iff_ne]; exact hxs
    have HNX : Hid (rgs m.t s ((kys m.t).take (k + 1)) = a) := Hd (HSN.out.trans (rgA_skip hxs))
    have z0 := HP.out.cell_ 0 (v := .int .i64 x) rfl
    clear hR
    go_wp2
    go_roundw
    case rel => exact ⟨k + 1, a, by omega, by simp, HNX.out.symm, HRF.out⟩
    case measure => simp [intOf]; omega
  ·obtain rfl : k = (kys m.t).length := by omega
   have hki : decide (((kys m.t).length : Int) < ((kys m.t).length : Int)) = false := by simp
   have HV : Hid (rgsV m s = a) := by show _ = _; rw [ha.out, List.take_length]; unfold rgsV; rw [if_pos HA.out]
   obtain ⟨A8, c8, rfl, hc8⟩ := hR.out.sl
   go_wp2_with fail
   refine (clips_any A8 a.length c8 _ hc8).mono ?_
   rintro e w' ⟨rfl, rfl⟩
   go_wp2
   go_ret2
   exact ⟨_, rfl, .slice A8 a.length a.length, by rw [HA.out]; rfl, by rw [HV.out]; exact (hR.out.res.mono (by omega)).clip, bT HB5.out hR.out.bl⟩
end Go.Proofs.YtibpnlojlfcpmaaGreatDoor
