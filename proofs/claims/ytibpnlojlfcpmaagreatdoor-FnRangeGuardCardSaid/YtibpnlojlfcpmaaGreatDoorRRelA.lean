/- A part of the proofs of this seat: EndP, Free, Open, Plr, PrT, RelA, RngP. -/
import Derived.Deep.RegionHeldLaw
import Derived.Test.YtibpnlojlfcpmaaGreatDoorRows
import Derived.ProofKit
import Derived.OpenShut
import Derived.ChangeOld
import Derived.Deep.SlicePairs
import Derived.Lib.SmallJoins
import Derived.Deep.LoopGhost
import Derived.ChangeSame
import Derived.ChangeVars
import Derived.LaidLaws
import Derived.Handed
import Derived.Test.YtibpnlojlfcpmaaGreatDoorRKys
set_option linter.unusedVariables false
set_option linter.unusedSimpArgs false
set_option maxRecDepth 1000000
namespace Go.Proofs.YtibpnlojlfcpmaaGreatDoor
open Go.RowKit
theorem EOwn.rs {α : Type} {E : Enc α} {e : TypeId} {w : World} {g : Nat} {l : List α} (h : EOwn E e w g l) : Rs E w.heap.size w (some ⟨g, 0, none⟩) l := by
 obtain ⟨cs, h1, h2, h3⟩ := h.own
 refine ⟨E.cells_length l, fun _ => ⟨g, 0, rfl, h1.lt, fun j u hu => ?_⟩⟩
 obtain ⟨hj, _⟩ := List.getElem?_eq_some_iff.1 hu
 rw [E.cells_length] at hj
 rw [Nat.zero_add, h1.cell, h3 j hj, hu]
theorem EOwn.oth {α : Type} {E : Enc α} {e : TypeId} {w w' : World} {g : Nat} {l : List α} {p : TypeId → Prop} (h : EOwn E e w g l) (ho : Oth p w w') (hp : ¬ p e) : EOwn E e w' g l :=
 let ⟨⟨cs, h1, h2, h3⟩⟩ := h; ⟨⟨cs, ho.2 g _ cs h1 hp, h2, h3⟩⟩
inductive RK where
 | eq (u : Value)
 | ma (m : Ma)
 | sl (fs : List Int)
 | tup (m : Ma) (o : Bool)
 | box
 | boxed (m : Ma)
def RK.at_ (b si j : Nat) : RK → Value → World → Prop
 | .eq u0, u, _ => u = u0
 | .ma m, u, v => ∃ e1 e2 e3 e4, u = .agg #[e1, e2, e3, .int .i64 m.c.hand, .int .i64 m.g.count, .int .i64 m.g.next, .int .i64 m.g.round, e4, .int .i64 m.sp] ∧ MaM b v e1 e2 e3 e4 m
 | .sl fs, u, v => ∃ g, u = .slice (some ⟨g, 0, none⟩) fs.length fs.length ∧ EOwn intE 3 v g fs
 | .tup m o, u, v => ∃ e1 e2 e3 e4, u = .tuple #[.agg #[e1, e2, e3, .int .i64 m.c.hand, .int .i64 m.g.count, .int .i64 m.g.next, .int .i64 m.g.round, e4, .int .i64 m.sp], .bool o] ∧ MaM b v e1 e2 e3 e4 m
 | .box, u, v => ∃ g a0 a1 a2 a3 a4 a5 a6 a7 a8, u = .pointer (some ⟨g, 0, none⟩) ∧ b ≤ g ∧ Own v g 48 #[a0, a1, a2, a3, a4, a5, a6, a7, a8]
 | .boxed m, u, v => j = si ∧ ∃ g e1 e2 e3 e4, u = .pointer (some ⟨g, 0, none⟩) ∧ b ≤ g ∧ Own v g 48 #[e1, e2, e3, .int .i64 m.c.hand, .int .i64 m.g.count, .int .i64 m.g.next, .int .i64 m.g.round, e4, .int .i64 m.sp] ∧ MaM b v e1 e2 e3 e4 m
def tA (si i : Nat) (v v' : World) : Prop := if i = si then Oth (fun e => e = 48) v v' ∧ (∀ g a0 a1 a2 a3 a4 a5 a6 a7 a8, Own v g 48 #[a0, a1, a2, a3, a4, a5, a6, a7, a8] → ∃ b0 b1 b2 b3 b4 b5 b6 b7 b8, Own v' g 48 #[b0, b1, b2, b3, b4, b5, b6, b7, b8]) else Below v.heap.size v v'
theorem tA.oth {si i : Nat} {v v' : World} (h : tA si i v v') : Oth (fun e => e = 48) v v' := by
 unfold tA at h
 split at h
 ·exact h.1
 ·exact Oth.of_below h
end Go.Proofs.YtibpnlojlfcpmaaGreatDoor
namespace Go.Proofs.YtibpnlojlfcpmaaGreatDoor
open Go.ChangeShapes Go.WideShapes Go.ChangeAt Go.RowKit Go.Joins
theorem own_ : ownKnob Tryz.prog.godebug = none := by kernel_rfl
theorem laidOut : laidOutB Tryz.prog = true := by kernel_rfl
theorem ce_int : Program.cellsOf Tryz.prog 3 = 1 := by kernel_rfl
theorem ce_bool : Program.cellsOf Tryz.prog 4 = 1 := by kernel_rfl
section
variable {H : Type} {enc : TypeId × Value → H} {w : World} {base : Nat} {spare : Nat → Bool} {held : Bool}
instance : Inhabited Fr := ⟨frz⟩
instance : Inhabited Ln := ⟨lnz⟩
end
end Go.Proofs.YtibpnlojlfcpmaaGreatDoor
namespace Go.Proofs.YtibpnlojlfcpmaaGreatDoor
open Go.ChangeShapes Go.WideShapes Go.ChangeAt Go.RowKit Go.Joins
theorem free_named : Tryz.prog.globalNamed "loop.example/invertedpages/impl.free" = some 0 := by kernel_rfl
theorem free_type : (Tryz.prog.globals[0]?).map (·.type) = some 66 := by kernel_rfl
theorem ce_keyI : Program.cellsOf Tryz.prog 61 = 2 := by kernel_rfl
theorem ce_frameI : Program.cellsOf Tryz.prog 66 = 5 := by kernel_rfl
def freeCells : Array Value := #[.bool false, .int .i64 0, .int .i64 0, .int .i64 0, .int .i64 (-1)]
section
variable {H : Type} {enc : TypeId × Value → H} {w : World} {base : Nat} {spare : Nat → Bool} {held : Bool}
theorem fldx {fs : Array Field} {t : TypeId} {fuel : Nat} {cs : List Value} {x : DataW H × List MemPlace} (ht : Tryz.prog.underlying t = some (.struct fs)) (h : DataW.trod enc Tryz.prog w base spare held fuel t cs = some x) :
  cs.length = Program.cellsOf Tryz.prog t ∧ ∃ (n : Nat) (xs : List (DataW H × List MemPlace)), xs.length = fs.size ∧ x.1 = .agg (xs.map (·.1)) ∧ ∀ (i : Nat) (f : Field), fs[i]? = some f → ∀ (ty off k : Nat), f.type = ty → f.offset = off → Program.cellsOf Tryz.prog ty = k → DataW.trod enc Tryz.prog w base spare held n ty ((cs.drop off).take k) = xs[i]? := by
 obtain ⟨xs, n, _, rfl, hl, hxl, hf⟩ := DataW.trod_struct ht h
 refine ⟨hl, n, xs, hxl, rfl, fun i f hi ty off k e1 e2 e3 => ?_⟩
 subst e1 e2 e3
 exact hf i f hi
theorem keyd_of {fuel : Nat} {cs : List Value} {x : DataW H × List MemPlace} {a b : Int} (h : DataW.trod enc Tryz.prog w base spare held fuel 61 cs = some x) (hx : x.1 = .agg [.lit (.int .i64 a), .lit (.int .i64 b)]) : cs = [.int .i64 a, .int .i64 b] := by
 obtain ⟨hl, n, xs, hxl, he, hf⟩ := fldx Tryz.underlying61 h
 rw [ce_keyI] at hl
 match cs, hl, xs, hxl with
 | [c0, c1], _, [x0, x1], _ =>
  have h0 := hf 0 _ rfl 3 0 1 rfl rfl ce_int
  have h1 := hf 1 _ rfl 3 1 1 rfl rfl ce_int
  obtain ⟨a0, e0, f0, _⟩ := DataW.trod_int (cs := [c0]) (x := x0) Tryz.underlying3 h0
  obtain ⟨a1, e1, f1, _⟩ := DataW.trod_int (cs := [c1]) (x := x1) Tryz.underlying3 h1
  rw [he] at hx
  subst f0 f1
  simp at hx e0 e1
  obtain ⟨rfl, rfl⟩ := hx
  rw [e0, e1]
theorem free_of {fuel : Nat} {cs : List Value} {x : DataW H × List MemPlace} (h : DataW.trod enc Tryz.prog w base spare held fuel 66 cs = some x) (hx : x.1 = Rows.laid_loop_example_invertedpages_impl_free) : cs = freeCells.toList := by
 obtain ⟨hl, n, xs, hxl, he, hf⟩ := fldx Tryz.underlying66 h
 rw [ce_frameI] at hl
 match cs, hl, xs, hxl with
 | [c0, c1, c2, c3, c4], _, [x0, x1, x2, x3], _ =>
  have h0 := hf 0 _ rfl 4 0 1 rfl rfl ce_bool
  have h1 := hf 1 _ rfl 61 1 2 rfl rfl ce_keyI
  have h2 := hf 2 _ rfl 3 3 1 rfl rfl ce_int
  have h3 := hf 3 _ rfl 3 4 1 rfl rfl ce_int
  obtain ⟨a0, e0, f0⟩ := DataW.trod_bool (cs := [c0]) (x := x0) Tryz.underlying4 h0
  obtain ⟨a2, e2, f2, _⟩ := DataW.trod_int (cs := [c3]) (x := x2) Tryz.underlying3 h2
  obtain ⟨a3, e3, f3, _⟩ := DataW.trod_int (cs := [c4]) (x := x3) Tryz.underlying3 h3
  rw [he] at hx
  subst f0 f2 f3
  simp [Rows.laid_loop_example_invertedpages_impl_free] at hx e0 e2 e3
  obtain ⟨rfl, hk, rfl, rfl⟩ := hx
  have hk2 := keyd_of (cs := [c1, c2]) (x := x1) h1 hk
  simp at hk2
  obtain ⟨rfl, rfl⟩ := hk2
  rw [e0, e2, e3]; rfl
end
theorem free_of_laid {W : World} (h : laidMet Tryz.prog [("loop.example/invertedpages/impl.free", Rows.laid_loop_example_invertedpages_impl_free)] W) : W.var? Tryz.prog "loop.example/invertedpages/impl.free" = some freeCells ∧ Free W := by
 obtain ⟨ps, ⟨g, t, cs, fuel, p, q, hg, ht, hvar, hd, _, _⟩, _⟩ := h
 obtain rfl := Option.some.inj (free_named.symm.trans hg)
 obtain rfl := Option.some.inj (free_type.symm.trans ht)
 obtain ⟨l⟩ := cs
 have hc := free_of hd rfl
 simp only at hc
 subst hc
 have e : ∀ i, W.cell? ⟨0, i, none⟩ = freeCells[i]? := fun i => World.var?_cell hg hvar i
 refine ⟨hvar, World.block_lt_of_cell? W _ (e 0), e 0, e 1, e 2, e 3, e 4⟩
noncomputable def laidWorld (os : Os) : World :=
 { World.holding Tryz.prog os ⟨#[], #[], []⟩ with heap := (World.holding Tryz.prog os ⟨#[], #[], []⟩).heap.modify 0 fun
   | .cells _ t frozen => .cells freeCells t frozen
   | o => o }
theorem laid_met (os : Os) (args : Array Value) : laidMet Tryz.prog [("loop.example/invertedpages/impl.free", Rows.laid_loop_example_invertedpages_impl_free)] ((laidWorld os).forCall (fun _ _ => 0) ⟨#[], args, []⟩).memory :=
 laidMet_of_run (ps := [.cell 0 0, .cell 0 1, .cell 0 2, .cell 0 3, .cell 0 4]) 8 (by kernel_rfl) (by kernel_rfl) (by kernel_rfl)
end Go.Proofs.YtibpnlojlfcpmaaGreatDoor
namespace Go.Proofs.YtibpnlojlfcpmaaGreatDoor
open Go.RowKit
theorem fOK_iff {t : Tab} {s p : Int} : fOK t s p = true ↔ tv t = true ∧ kval (s, p) = true ∧ 0 ≤ fndI t.fs s p := by
 unfold fOK
 simp only [Bool.and_eq_true, decide_eq_true_eq, and_assoc]
theorem takO_iff {m : Ma} {s p : Int} : takO m s p = true ↔ mav m = true ∧ fOK m.t s p = true := by
 unfold takO
 simp only [Bool.and_eq_true]
theorem fndI_some {fs : List Fr} {s p : Int} {i : Nat} (h : fnd fs s p = some i) : fndI fs s p = (i : Int) := by unfold fndI; rw [h]
def pgs (s : Int) (ks : List Key) : List Int := ks.filterMap (fun k => if k.1 = s then some k.2 else none)
theorem pgs_mem {s p : Int} {ks : List Key} : p ∈ pgs s ks ↔ (s, p) ∈ ks := by
 unfold pgs
 rw [List.mem_filterMap]
 constructor
 ·rintro ⟨⟨a, b⟩, h1, h2⟩
  by_cases h : a = s
  ·subst h
   simp at h2
   subst h2
   exact h1
  ·simp [h] at h2
 ·intro h
  exact ⟨(s, p), h, by simp⟩
theorem pgs_snoc (s : Int) (ks : List Key) (k : Key) : pgs s (ks ++ [k]) = pgs s ks ++ (if k.1 = s then [k.2] else []) := by
 unfold pgs
 rw [List.filterMap_append]
 congr 1
 by_cases h : k.1 = s
 ·simp [h]
 ·simp [h]
theorem keysL_nodup {t : Tab} (T : TV t) : (keysL t.fs).Nodup := by
 unfold keysL List.Nodup
 rw [List.pairwise_filterMap, List.pairwise_iff_getElem]
 intro i j hi hj hij b hb b' hb' he
 cases hu : t.fs[i].used with
 | false => rw [hu] at hb; cases hb
 | true =>
  cases hu' : t.fs[j].used with
  | false => rw [hu'] at hb'; cases hb'
  | true =>
   rw [hu] at hb
   rw [hu'] at hb'
   simp only [if_true] at hb hb'
   injection hb with hb
   injection hb' with hb'
   have := T.key i j _ _ (List.getElem?_eq_getElem hi) (List.getElem?_eq_getElem hj) hu hu' (by rw [hb, hb', he])
   omega
theorem keys_takO {m : Ma} (hm : mav m = true) {s p : Int} (h : (s, p) ∈ keysL m.t.fs) : takO m s p = true := by
 have M := mav_MV.1 hm
 obtain ⟨i, y, e1, e2, e3⟩ := keysL_mem.1 h
 have htv := (mav_parts hm).1
 refine takO_iff.2 ⟨hm, fOK_iff.2 ⟨htv, ?_, by rw [fndI_some (M.t.fnd e1 e2 e3)]; omega⟩⟩
 have h1 := M.t.ok i y e1
 unfold frok at h1
 rw [if_pos e2, Bool.and_eq_true, e3] at h1
 exact h1.1
theorem kys_perm {t : Tab} (h : tv t = true) : (kys t).Perm (keysL t.fs) := by unfold kys; rw [if_pos h]; exact ksrt_perm _
abbrev Rng := Int × Int × Int
def rtOf (t : Tab) (k : Key) : Int := (t.fs.getD (fndI t.fs k.1 k.2).toNat frz).r
def rgA (t : Tab) (s : Int) (a : List Rng) (k : Key) : List Rng :=
 if k.1 = s then
  match a.getLast? with
  | some x => if x.1 + x.2.1 = k.2 ∧ x.2.2 = rtOf t k then a.dropLast ++ [(x.1, x.2.1 + 1, x.2.2)] else a ++ [(k.2, 1, rtOf t k)]
  | none => a ++ [(k.2, 1, rtOf t k)]
 else a
def rgs (t : Tab) (s : Int) (ks : List Key) : List Rng := ks.foldl (rgA t s) []
def rgsO (m : Ma) (s : Int) : Bool := mav m && inR s 16
def rgsV (m : Ma) (s : Int) : List Rng := if rgsO m s = true then rgs m.t s (kys m.t) else []
theorem rgsV_no {m : Ma} {s : Int} (h : rgsO m s = false) : rgsV m s = [] := by unfold rgsV; rw [h]; rfl
theorem rgs_snoc (t : Tab) (s : Int) (ks : List Key) (k : Key) : rgs t s (ks ++ [k]) = rgA t s (rgs t s ks) k := by unfold rgs; rw [List.foldl_append]; rfl
theorem rgA_skip {t : Tab} {s : Int} {a : List Rng} {k : Key} (h : k.1 ≠ s) : rgA t s a k = a := by unfold rgA; rw [if_neg h]
theorem rgA_first {t : Tab} {s : Int} {k : Key} (h : k.1 = s) : rgA t s [] k = [(k.2, 1, rtOf t k)] := by unfold rgA; rw [if_pos h]; rfl
theorem rgA_more {t : Tab} {s : Int} {a : List Rng} {x : Rng} {k : Key} (h : k.1 = s) (h2 : x.1 + x.2.1 = k.2 ∧ x.2.2 = rtOf t k) : rgA t s (a ++ [x]) k = a ++ [(x.1, x.2.1 + 1, x.2.2)] := by
 unfold rgA
 rw [if_pos h, List.getLast?_append]
 simp [h2]
theorem rgA_new {t : Tab} {s : Int} {a : List Rng} {x : Rng} {k : Key} (h : k.1 = s) (h2 : ¬ (x.1 + x.2.1 = k.2 ∧ x.2.2 = rtOf t k)) : rgA t s (a ++ [x]) k = a ++ [x] ++ [(k.2, 1, rtOf t k)] := by
 unfold rgA
 rw [if_pos h, List.getLast?_append]
 simp only [List.getLast?_singleton, Option.some_or]
 rw [if_neg h2]
def rsum : List Rng → Int
 | [] => 0
 | x :: l => x.2.1 + rsum l
theorem rsum_app (a b : List Rng) : rsum (a ++ b) = rsum a + rsum b := by
 induction a with
 | nil => simp [rsum]
 | cons x l ih => simp only [List.cons_append, rsum, ih]; omega
def lpg (s : Int) (ks : List Key) : Int := match (pgs s ks).getLast? with | some p => p | none => -1
theorem lpg_snoc {s : Int} {ks : List Key} {k : Key} (h : k.1 = s) : lpg s (ks ++ [k]) = k.2 := by unfold lpg; rw [pgs_snoc, if_pos h, List.getLast?_append]; rfl
theorem lpg_skip {s : Int} {ks : List Key} {k : Key} (h : k.1 ≠ s) : lpg s (ks ++ [k]) = lpg s ks := by unfold lpg; rw [pgs_snoc, if_neg h, List.append_nil]
def apart (x y : Rng) : Prop := x.1 + x.2.1 ≤ y.1 ∧ ¬ (x.1 + x.2.1 = y.1 ∧ x.2.2 = y.2.2)
structure RgI (t : Tab) (s : Int) (ks : List Key) (a : List Rng) : Prop where
 pos : ∀ x ∈ a, 1 ≤ x.2.1 ∧ 0 ≤ x.1 ∧ x.1 + x.2.1 ≤ 256
 gap : ∀ (i : Nat) (x y : Rng), a[i]? = some x → a[i + 1]? = some y → apart x y
 sum : rsum a = (pgs s ks).length
 last : ∀ x, a.getLast? = some x → x.1 + x.2.1 = lpg s ks + 1
 none : a = [] → lpg s ks = -1
 mem : ∀ x ∈ a, ∀ q, x.1 ≤ q → q < x.1 + x.2.1 → (s, q) ∈ ks ∧ rtOf t (s, q) = x.2.2
 len : a.length ≤ ks.length
theorem getLast_app {α : Type} (a : List α) (x : α) : (a ++ [x]).getLast? = some x := by rw [List.getLast?_append]; rfl
theorem rg_state {t : Tab} {s : Int} : ∀ (n : Nat) (ks : List Key), ks.length = n → ks.Pairwise (fun a b => kb a b = true) → (∀ k ∈ ks, kyok k) → RgI t s ks (rgs t s ks)
  | 0, ks, hl, _, _ => by
    obtain rfl := List.length_eq_zero_iff.1 hl
    exact ⟨fun x h => by simp [rgs] at h, fun i x y h => by simp [rgs] at h, rfl, fun x h => by simp [rgs] at h, fun _ => rfl, fun x h => by simp [rgs] at h, Nat.le_refl _⟩
  | n + 1, ks, hl, hp, hk => by
    obtain ⟨ks, k, rfl⟩ : ∃ l x, ks = l ++ [x] := ⟨ks.dropLast, ks.getLast (by rintro rfl; simp at hl), (List.dropLast_concat_getLast _).symm⟩
    have hl' : ks.length = n := by simpa using hl
    rw [List.pairwise_append] at hp
    obtain ⟨hp1, _, hp2⟩ := hp
    have P := rg_state (t := t) (s := s) n ks hl' hp1 (fun x hx => hk x (by simp [hx]))
    have hkk := hk k (by simp)
    rw [rgs_snoc]
    generalize rgs t s ks = a at P
    by_cases hs : k.1 = s
    · have hlt : lpg s ks < k.2 := by
        unfold lpg
        cases e : (pgs s ks).getLast? with
        | none => have := hkk.2.2.1; show (-1 : Int) < k.2; omega
        | some p =>
          have h1 := hp2 (s, p) (pgs_mem.1 (List.mem_of_getLast? e)) k (by simp)
          rw [kb_iff] at h1
          show p < k.2
          rcases h1 with h1 | h1
          · have : s < k.1 := h1
            omega
          · exact h1.2
      have hk1 := hkk.2.2.1
      have hk2 := hkk.2.2.2
      have hck : k = (s, k.2) := by rw [← hs]
      have hsum : ((pgs s (ks ++ [k])).length : Int) = (pgs s ks).length + 1 := by rw [pgs_snoc, if_pos hs]; simp
      have one : RgI t s (ks ++ [k]) (a ++ [(k.2, 1, rtOf t k)]) ∨ ∃ b x, a = b ++ [x] ∧ x.1 + x.2.1 = k.2 ∧ x.2.2 = rtOf t k := by
        by_cases hc : ∃ b x, a = b ++ [x] ∧ x.1 + x.2.1 = k.2 ∧ x.2.2 = rtOf t k
        · exact .inr hc
        · refine .inl ⟨fun x hx => ?_, fun i x y hi hj => ?_, ?_, fun x hx => ?_, fun h => by simp at h, fun x hx q hq1 hq2 => ?_, ?_⟩
          · rcases List.mem_append.1 hx with h | h
            · exact P.pos x h
            · simp only [List.mem_singleton] at h
              subst h
              exact ⟨Int.le_refl _, hk1, by show k.2 + 1 ≤ 256; omega⟩
          · have hil := (List.getElem?_eq_some_iff.1 hj).1
            rw [List.length_append] at hil
            simp only [List.length_singleton] at hil
            rw [List.getElem?_append_left (by omega)] at hi
            rcases Nat.lt_or_ge (i + 1) a.length with h | h
            · rw [List.getElem?_append_left h] at hj
              exact P.gap i x y hi hj
            · have hie : i + 1 = a.length := by omega
              rw [List.getElem?_append_right h, hie] at hj
              simp at hj
              subst hj
              have hlx : a.getLast? = some x := by rw [List.getLast?_eq_getElem?, show a.length - 1 = i by omega]; exact hi
              have h2 := P.last x hlx
              refine ⟨by show x.1 + x.2.1 ≤ k.2; omega, fun h3 => hc ⟨a.dropLast, x, ?_, h3.1, h3.2⟩⟩
              have hne : a ≠ [] := by rintro rfl; simp at hi
              rw [List.getLast?_eq_some_getLast hne] at hlx
              injection hlx with hlx
              rw [← hlx]
              exact (List.dropLast_concat_getLast hne).symm
          · rw [rsum_app, P.sum, hsum]
            simp [rsum]
          · rw [getLast_app] at hx
            injection hx with hx
            subst hx
            rw [lpg_snoc hs]
          · rcases List.mem_append.1 hx with h | h
            · obtain ⟨h1, h2⟩ := P.mem x h q hq1 hq2
              exact ⟨by simp [h1], h2⟩
            · simp only [List.mem_singleton] at h
              subst h
              have h1 : k.2 ≤ q := hq1
              have h2 : q < k.2 + 1 := hq2
              obtain rfl : q = k.2 := by omega
              rw [← hck]
              exact ⟨by simp, rfl⟩
          · have := P.len
            simp
            omega
      rcases one with h | ⟨b, x, rfl, h1, h2⟩
      · have hnn : rgA t s a k = a ++ [(k.2, 1, rtOf t k)] ∨ ∃ b x, a = b ++ [x] ∧ x.1 + x.2.1 = k.2 ∧ x.2.2 = rtOf t k := by
          by_cases he : a = []
          · subst he
            exact .inl (rgA_first hs)
          · have hae := (List.dropLast_concat_getLast he).symm
            by_cases hc : (a.getLast he).1 + (a.getLast he).2.1 = k.2 ∧ (a.getLast he).2.2 = rtOf t k
            · exact .inr ⟨_, _, hae, hc.1, hc.2⟩
            · refine .inl ?_
              have := rgA_new (a := a.dropLast) (x := a.getLast he) hs hc
              rw [← hae] at this
              exact this
        rcases hnn with h3 | ⟨b, x, rfl, h1, h2⟩
        · rw [h3]; exact h
        · exact absurd (h.gap b.length x (k.2, 1, rtOf t k) (by rw [List.append_assoc, List.getElem?_append_right (Nat.le_refl _)]; simp) (by rw [List.getElem?_append_right (by simp)]; simp)).2 (fun h9 => h9 ⟨h1, h2⟩)
      · rw [rgA_more hs ⟨h1, h2⟩]
        have hxm : x ∈ b ++ [x] := by simp
        obtain ⟨p1, p2, p3⟩ := P.pos x hxm
        refine ⟨fun y hy => ?_, fun i y z hi hj => ?_, ?_, fun y hy => ?_, fun h => by simp at h, fun y hy q hq1 hq2 => ?_, ?_⟩
        · rcases List.mem_append.1 hy with h | h
          · exact P.pos y (by simp [h])
          · simp only [List.mem_singleton] at h
            subst h
            exact ⟨by show 1 ≤ x.2.1 + 1; omega, p2, by show x.1 + (x.2.1 + 1) ≤ 256; omega⟩
        · have hil := (List.getElem?_eq_some_iff.1 hj).1
          rw [List.length_append] at hil
          simp only [List.length_singleton] at hil
          rw [List.getElem?_append_left (by omega)] at hi
          rcases Nat.lt_or_ge (i + 1) b.length with h | h
          · rw [List.getElem?_append_left h] at hj
            exact P.gap i y z (by rw [List.getElem?_append_left (by omega)]; exact hi) (by rw [List.getElem?_append_left h]; exact hj)
          · have hie : i + 1 = b.length := by omega
            rw [List.getElem?_append_right h, hie] at hj
            simp at hj
            subst hj
            exact P.gap i y x (by rw [List.getElem?_append_left (by omega)]; exact hi) (by rw [List.getElem?_append_right h, hie]; simp)
        · have := P.sum
          rw [rsum_app] at this ⊢
          simp only [rsum] at this ⊢
          omega
        · rw [getLast_app] at hy
          injection hy with hy
          subst hy
          rw [lpg_snoc hs]
          show x.1 + (x.2.1 + 1) = k.2 + 1
          omega
        · rcases List.mem_append.1 hy with h | h
          · obtain ⟨g1, g2⟩ := P.mem y (by simp [h]) q hq1 hq2
            exact ⟨by simp [g1], g2⟩
          · simp only [List.mem_singleton] at h
            subst h
            have g1 : x.1 ≤ q := hq1
            have g2 : q < x.1 + (x.2.1 + 1) := hq2
            by_cases hq : q < x.1 + x.2.1
            · obtain ⟨g3, g4⟩ := P.mem x hxm q g1 hq
              exact ⟨by simp [g3], g4⟩
            · obtain rfl : q = k.2 := by omega
              rw [← hck]
              exact ⟨by simp, h2.symm⟩
        · have := P.len
          simp at this ⊢
          omega
    · rw [rgA_skip hs]
      refine ⟨P.pos, P.gap, ?_, fun x hx => ?_, fun h => ?_, fun x hx q h1 h2 => ?_, ?_⟩
      · rw [P.sum, pgs_snoc, if_neg hs, List.append_nil]
      · rw [lpg_skip hs]; exact P.last x hx
      · rw [lpg_skip hs]; exact P.none h
      · obtain ⟨g1, g2⟩ := P.mem x hx q h1 h2
        exact ⟨by simp [g1], g2⟩
      · have := P.len
        simp
        omega
theorem kys_strict {t : Tab} (h : tv t = true) : (kys t).Pairwise (fun a b => kb a b = true) := by
 have h1 : KSo (kys t) := by unfold kys; rw [if_pos h]; exact ksrt_so _
 have h2 : (kys t).Nodup := (kys_perm h).nodup_iff.2 (keysL_nodup (tv_TV.1 h))
 unfold KSo at h1
 unfold List.Nodup at h2
 rw [List.pairwise_iff_getElem] at h1 h2 ⊢
 intro i j hi hj hij
 have a1 := h1 i j hi hj hij
 have a2 := h2 i j hi hj hij
 cases e : kb (kys t)[i] (kys t)[j] with
 | true => rfl
 | false => exact absurd (kb_anti e a1) a2
theorem rgs_parts {m : Ma} {s : Int} (h : rgsO m s = true) : RgI m.t s (kys m.t) (rgsV m s) := by
 have hv : rgsV m s = rgs m.t s (kys m.t) := by unfold rgsV; rw [if_pos h]
 unfold rgsO at h
 rw [Bool.and_eq_true] at h
 have htv := (mav_parts h.1).1
 rw [hv]
 exact rg_state _ _ rfl (kys_strict htv) (fun k hk => (kys_ok hk).1)
end Go.Proofs.YtibpnlojlfcpmaaGreatDoor
