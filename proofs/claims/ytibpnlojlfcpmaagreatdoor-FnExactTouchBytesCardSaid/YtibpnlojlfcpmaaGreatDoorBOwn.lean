/- A part of the proofs of this seat: Del, Leaf, Mach, Move, Own, Row. -/
import Derived.Maps.AppendAt
import Derived.Deep.AppendLies
import Derived.RegionTactic
import Derived.OwnWalk
import Derived.Test.YtibpnlojlfcpmaaGreatDoorProg
import Derived.Deep.QuietTactic
import Derived.BigQuiet
import Derived.KernelRfl
import Derived.StillTailTactics
import Derived.Deep.RegionLaw
import Derived.Deep.RegionWith
import Derived.Test.YtibpnlojlfcpmaaGreatDoorBMem
set_option linter.unusedVariables false
set_option linter.unusedSimpArgs false
set_option maxRecDepth 1000000
namespace Go.Proofs.YtibpnlojlfcpmaaGreatDoor
open Go.RowKit
section
variable {w w' : World} {base : Nat} {e : TypeId} {sz : Nat} {v : Value} {n : Nat} {xs : List Value}
theorem own_rd (h : w.ownsRow base e sz v n xs) : ∃ A c, v = .slice A n c ∧ n ≤ c ∧ c ≤ maxLen ∧ Rd w.heap.size w sz A n xs := by
 rcases h.2 with ⟨rfl, rfl⟩ | ⟨g, cap, cur, rfl, hb, hg, hc, hm, hs, ht⟩
 ·exact ⟨none, 0, rfl, Nat.le_refl _, by simp [maxLen], h.1, fun h => absurd h (by omega)⟩
 ·refine ⟨_, cap, rfl, hc, hm, h.1, fun _ => ⟨g, 0, rfl, Own.lt hg, fun j u hu => ?_⟩⟩
  rw [Nat.zero_add]
  have := h.cells (g := g) rfl j u hu
  rwa [add_lit_, Nat.zero_add] at this
theorem own_kept (h : w.ownsRow base e sz v n xs) (hb : Below w.heap.size w w') : w'.ownsRow base e sz v n xs :=
 h.kept (row := none) ⟨hb.os, hb.tape, hb.output, hb.size, fun k hk _ => hb.block k hk⟩ (by cases v.ownBlock <;> simp)
theorem own_mono {base' : Nat} (h : w.ownsRow base e sz v n xs) (hb : base' ≤ base) : w.ownsRow base' e sz v n xs := by
 refine ⟨h.1, ?_⟩
 rcases h.2 with h2 | ⟨g, cap, cur, hv, hg, r⟩
 ·exact .inl h2
 ·exact .inr ⟨g, cap, cur, hv, Nat.le_trans hb hg, r⟩
theorem own_block (h : w.ownsRow base e sz v n xs) : ∀ k, v.ownBlock = some k → base ≤ k := fun k hk => (h.lt k hk).1
end
section
variable {P : Program} (w : World)
theorem run_append_nil_ (base : Nat) (t ty e : TypeId) (i : TypeInfo) (sz : Nat) (ht : P.underlying t = some (.slice e)) (hi : P.info? e = some i)
  (v : Value) (n : Nat) (xs : List Value) (hown : w.ownsRow base e sz v n xs) (c : Nat) : (Builtin.append_ #[t, t] ty #[v, .slice none 0 c]).run P w = .ok v w := by
 rcases hown.2 with ⟨rfl, rfl⟩ | ⟨g, cap, cur, rfl, _, _, hnc, _⟩
 ·simp [Builtin.append_, run_underlying ht, sizeOf, typeInfo, hi, Builtin.lenOf, Builtin.firstCells]
 ·simp [Builtin.append_, run_underlying ht, sizeOf, typeInfo, hi, Builtin.lenOf, Builtin.firstCells, hnc, storeCells]
theorem run_append_rd (base : Nat) (t ty e : TypeId) (i : TypeInfo) (z : Value) (sz bytes : Nat) (ht : P.underlying t = some (.slice e)) (hi : P.info? e = some i) (hz : i.zero = some z)
  (hs : i.size = sz) (hby : i.bytes = bytes) (hzs : z.cells.size = sz) (hsz : 0 < sz)
  (v : Value) (n : Nat) (xs : List Value) (hown : w.ownsRow base e sz v n xs)
  (B : Nat) (A : Option Addr) (m c : Nat) (news : List Value) (hr : Rd B w sz A m news) (h1 : ∀ u ∈ news, u.oneCell' = true)
  (h63 : n + m ≤ maxLen) (hbytes : (n + m) * bytes ≤ 140737488355328) (hbase : base ≤ w.heap.size) :
  ∃ v' w', (Builtin.append_ #[t, t] ty #[v, .slice A m c]).run P w = .ok v' w' ∧ w'.ownsRow base e sz v' (n + m) (xs ++ news) ∧ w.grownBy w' v.ownBlock ∧
   (v'.ownBlock = v.ownBlock ∨ v'.ownBlock = some w.heap.size) := by
 have hcells : ∀ ad, A = some ad → ∀ j u, news[j]? = some u → w.cell? (ad.add j) = some u := by
  intro ad e1 j u hu
  have hm : 0 < m := by
   rcases Nat.eq_zero_or_pos m with h0 | h0
   ·have := hr.len
    rw [h0, Nat.zero_mul] at this
    rw [List.length_eq_zero_iff.1 this] at hu
    cases hu
   ·exact h0
  obtain ⟨b, o, e2, _, hc⟩ := hr.at_ hm
  rw [e1] at e2
  injection e2 with e2
  rw [e2, add_lit_]
  exact hc j u hu
 cases A with
 | none =>
  have hm : m = 0 := by
   rcases Nat.eq_zero_or_pos m with h0 | h0
   ·exact h0
   ·obtain ⟨b, o, e2, _⟩ := hr.at_ h0
    cases e2
  subst hm
  have hn : news = [] := List.eq_nil_of_length_eq_zero (by simpa using hr.len)
  subst hn
  exact ⟨v, w, run_append_nil_ w base t ty e i sz ht hi v n xs hown c, by simpa using hown, World.grownBy.refl w _, .inl rfl⟩
 | some ad =>
  obtain ⟨v', w', r1, r2, r3, _, r5⟩ := run_append_own_at (P := P) w base t ty e i z sz bytes ht hi hz hs hby hzs hsz v n xs hown ad m c news hr.len (hcells ad rfl) h1 h63 hbytes hbase
  exact ⟨v', w', r1, r2, r3, r5⟩
theorem wpList_append_run {ops : Array Oper} {rest : List Oper} {o : Oper} {a : Act} {Q : Exit → Act → World → Prop} (hgd : o.guard = none) (s x : Operand) (t : TypeId)
  (ho : o.op = .call { callee := .builtin .append, args := #[s, x], argTypes := #[t, t] }) (v y v' : Value) (w' : World) (hv : a.eval s = v) (hx : a.eval x = y)
  (hrun : (Builtin.append_ #[t, t] o.type #[v, y]).run P w = .ok v' w') (h : wpList P ops Q rest (a.put o.dst v') w') : wpList P ops Q (o :: rest) a w :=
 wpList_plain hgd fun _ hK => by
  unfold Oper.wp execOp
  simp only [ho, resolve, invoke, builtin, Sem.run_bind, Sem.run_pure, Result.andThen_ok, List.map_toArray, List.map_cons, List.map_nil, hv, hx, hrun]
  exact hK _ _ h
end
def inR (n e : Int) : Bool := decide (0 ≤ n) && decide (n < e)
theorem within_any (n e : Int) (w : World) : Calls Tryz.prog 61 #[.int .i64 n, .int .i64 e] w fun r w' => r = .returned (.bool (inR n e)) ∧ w = w' := by
 by_cases h0 : 0 ≤ n
 ·by_cases h1 : n < e
  ·have H : Hid (inR n e = true) := by simp [Hid, inR, h0, h1]
   go_enter Tryz.func61, Tryz.ntmps61
   go_wp2
   go_ret
   exact ⟨by rw [H.out]; rfl, rfl⟩
  ·have H : Hid (inR n e = false) := by simp [Hid, inR, h1]
   go_enter Tryz.func61, Tryz.ntmps61
   go_wp2
   go_ret
   exact ⟨by rw [H.out]; rfl, rfl⟩
 ·have H : Hid (inR n e = false) := by simp [Hid, inR, h0]
  go_enter Tryz.func61, Tryz.ntmps61
  go_wp2
  go_ret
  exact ⟨by rw [H.out]; rfl, rfl⟩
def kval (k : Key) : Bool := inR k.1 16 && inR k.2 256
theorem keyValid_any (a b : Int) (w : World) : Calls Tryz.prog 79 #[.agg #[.int .i64 a, .int .i64 b]] w fun r w' => r = .returned (.bool (kval (a, b))) ∧ Below w.heap.size w w' := by
 by_cases h0 : inR a 16 = true
 ·have H : Hid (kval (a, b) = inR b 256) := by simp [Hid, kval, h0]
  go_enter Tryz.func79, Tryz.ntmps79
  go_wp2_with (go_at_call 61; refine (within_any _ _ _).mono ?_; rintro e w' ⟨rfl, rfl⟩)
  go_ret
  exact ⟨by rw [H.out]; rfl, bA bR⟩
 ·have h0 : inR a 16 = false := by simpa using h0
  have H : Hid (kval (a, b) = false) := by simp [Hid, kval, h0]
  go_enter Tryz.func79, Tryz.ntmps79
  go_wp2_with (go_at_call 61; refine (within_any _ _ _).mono ?_; rintro e w' ⟨rfl, rfl⟩)
  go_ret
  exact ⟨by rw [H.out]; rfl, bA bR⟩
theorem two_of {α β : Type} {f : α → β} {l : List α} {x y : β} (h : l.map f = [x, y]) : ∃ a b, l = [a, b] ∧ f a = x ∧ f b = y := by
 match l, h with
 | [a, b], h => simp at h; exact ⟨a, b, rfl, h.1, h.2⟩
def keq (a b c d : Int) : Bool := decide (a = c) && decide (b = d)
theorem eql_key (a b c d : Int) (w : World) : (binOp .eql 61 (.agg #[.int .i64 a, .int .i64 b]) (.agg #[.int .i64 c, .int .i64 d])).run Tryz.prog w = .ok (.bool (keq a b c d)) w := by
 have hu : Tryz.prog.underlying 61 = some (.struct (Tryz.prog.fieldsOf 61)) := by kernel_rfl
 have hp : Tryz.prog.stoodInHeld 61 = false := by kernel_rfl
 have hf : (Tryz.prog.fieldsOf 61).toList.map (fun f => (f.name, f.type, f.offset)) = [("Space", 3, 0), ("Page", 3, 1)] := by kernel_rfl
 have h : ∀ e : Nat, (Op.equalIn (e + 2) 61 (.agg #[.int .i64 a, .int .i64 b]) (.agg #[.int .i64 c, .int .i64 d])).run Tryz.prog w = .ok (keq a b c d) w := by
  intro e
  rw [run_equalIn_struct w (e + 1) _ _ _ hu hp]
  obtain ⟨f, g, hl, h1, h2⟩ := two_of hf
  rw [hl]
  simp only [Prod.mk.injEq] at h1 h2
  obtain ⟨n1, t1, o1⟩ := h1
  obtain ⟨n2, t2, o2⟩ := h2
  simp [Op.eqFields, n1, t1, o1, n2, t2, o2, part, run_equalIn_int, Tryz.underlying3, go_sem, keq]
  by_cases e1 : a = c <;> by_cases e2 : b = d <;> simp [e1, e2]
 simp only [binOp]
 simp [Op.equal, Op.maxDepth, h 9998]
theorem keq_true {a b c d : Int} (h : (a, b) = (c, d)) : keq a b c d = true := by
 injection h with h1 h2; simp [keq, h1, h2]
theorem keq_false {a b c d : Int} (h : ¬ (a, b) = (c, d)) : keq a b c d = false := by
 simp only [keq, Bool.and_eq_false_iff, decide_eq_false_iff_not]
 by_cases e : a = c
 ·right; rintro rfl; exact h (by rw [e])
 ·exact .inl e
def Post2 (P : Value → World → Prop) (e : Ending) (w' : World) : Prop := ∃ v, e = .returned v ∧ P v w'
theorem Own.row {w : World} {g : Nat} {t : TypeId} {cs : Array Value} (h : Own w g t cs) (cs' : Array Value) : Own (w.setRow g cs') g t cs' := setRow_heap w g cs cs' t (0, 0) h
structure Enc (α : Type) where
 sz : Nat
 cs : α → List Value
 len : ∀ a, (cs a).length = sz
 one : ∀ a, ∀ u ∈ cs a, u.oneCell' = true
 pos : 0 < sz
namespace Enc
variable {α : Type} (E : Enc α)
def cells (l : List α) : List Value := l.flatMap E.cs
theorem cells_length (l : List α) : (E.cells l).length = l.length * E.sz := by
 induction l with
 | nil => simp [cells]
 | cons x l ih =>
  simp only [cells, List.flatMap_cons, List.length_append, List.length_cons, E.len] at ih ⊢
  rw [ih, Nat.add_mul]; omega
theorem cells_append (l m : List α) : E.cells (l ++ m) = E.cells l ++ E.cells m := by simp [cells]
theorem cells_one (l : List α) : ∀ u ∈ E.cells l, u.oneCell' = true := by
 intro u hu
 obtain ⟨a, _, h⟩ := List.mem_flatMap.1 hu
 exact E.one a u h
theorem cells_cons (a : α) (l : List α) : E.cells (a :: l) = E.cs a ++ E.cells l := rfl
theorem cells_single (a : α) : E.cells [a] = E.cs a := by simp [cells]
theorem cells_get {l : List α} {k j : Nat} {a : α} {u : Value} (h : l[k]? = some a) (hj : (E.cs a)[j]? = some u) : (E.cells l)[k * E.sz + j]? = some u := by
 have hlt : j < E.sz := by rw [← E.len a]; exact (List.getElem?_eq_some_iff.1 hj).1
 induction l generalizing k with
 | nil => simp at h
 | cons x l ih =>
  rw [cells_cons]
  cases k with
  | zero =>
   simp at h
   subst h
   rw [Nat.zero_mul, Nat.zero_add, List.getElem?_append_left (by rw [E.len]; exact hlt)]
   exact hj
  | succ k =>
   have e : (k + 1) * E.sz + j = E.sz + (k * E.sz + j) := by rw [Nat.add_mul]; omega
   rw [List.getElem?_append_right (by rw [E.len, e]; omega), E.len, e, Nat.add_sub_cancel_left]
   exact ih (by simpa using h)
end Enc
abbrev Rs {α : Type} (E : Enc α) (B : Nat) (w : World) (A : Option Addr) (l : List α) : Prop := Rd B w E.sz A l.length (E.cells l)
section
variable {α : Type} {E : Enc α} {B : Nat} {w w' : World} {A : Option Addr} {l : List α}
theorem Rd.el (h : Rs E B w A l) {k : Nat} {a : α} (hk : l[k]? = some a) :
  ∃ b o, A = some ⟨b, o, none⟩ ∧ b < B ∧ ∀ j u, (E.cs a)[j]? = some u → w.cell? ⟨b, o + (k * E.sz + j), none⟩ = some u := by
 obtain ⟨hlt, _⟩ := List.getElem?_eq_some_iff.1 hk
 obtain ⟨b, o, e, hb, hc⟩ := h.at_ (by omega)
 exact ⟨b, o, e, hb, fun j u hj => hc _ _ (E.cells_get hk hj)⟩
theorem rs_nil (A : Option Addr) : Rs E B w A [] := ⟨by simp [Enc.cells], fun h => absurd h (by simp)⟩
theorem rs_own {base : Nat} {e : TypeId} {v : Value} {n : Nat} (hn : n = l.length) (h : w.ownsRow base e E.sz v n (E.cells l)) : ∃ A c, v = .slice A l.length c ∧ l.length ≤ c ∧ c ≤ maxLen ∧ Rs E w.heap.size w A l := by
 subst hn
 exact own_rd h
end
theorem run_append_el {α : Type} (E : Enc α) (t e : TypeId) (i : TypeInfo) (z : Value) (bytes : Nat) (ht : Tryz.prog.underlying t = some (.slice e)) (hi : Tryz.prog.info? e = some i) (hz : i.zero = some z)
  (hs : i.size = E.sz) (hby : i.bytes = bytes) (hzs : z.cells.size = E.sz) (hbb : bytes ≤ 1000)
  (base : Nat) (W : World) (v : Value) (n : Nat) (l : List α) (a : α) (hown : W.ownsRow base e E.sz v n (E.cells l)) (hn : l.length = n) (hn2 : n ≤ 1048576) (hb : base ≤ W.heap.size) :
  ∃ v' w', (Builtin.append_ #[t, t] t #[v, .slice (some ⟨W.heap.size, 0, none⟩) 1 1]).run Tryz.prog (W.alloc (.cells (E.cs a).toArray e)) = .ok v' w' ∧
   w'.ownsRow base e E.sz v' (n + 1) (E.cells (l ++ [a])) ∧ (W.alloc (.cells (E.cs a).toArray e)).grownBy w' v.ownBlock ∧ (v'.ownBlock = v.ownBlock ∨ v'.ownBlock = some (W.heap.size + 1)) := by
 have hr : Rd (W.alloc (.cells (E.cs a).toArray e)).heap.size (W.alloc (.cells (E.cs a).toArray e)) E.sz (some ⟨W.heap.size, 0, none⟩) 1 (E.cells [a]) :=
  ⟨by rw [E.cells_length]; rfl, fun _ => ⟨W.heap.size, 0, rfl, by simp, fun j u hu => by
   rw [Nat.zero_add, (Own.new_ W _ _).cell j]
   rw [E.cells_single] at hu
   simpa using hu⟩⟩
 have hm : n + 1 ≤ maxLen := by simp only [maxLen]; omega
 have hbytes : (n + 1) * bytes ≤ 140737488355328 := Nat.le_trans (Nat.mul_le_mul (show n + 1 ≤ 1048577 by omega) hbb) (by omega)
 obtain ⟨v', w', h1, h2, h3, h4⟩ := run_append_rd (P := Tryz.prog) (W.alloc (.cells (E.cs a).toArray e)) base t t e i z E.sz bytes ht hi hz hs hby hzs E.pos
  v n (E.cells l) (hown.alloc _) _ _ 1 1 _ hr (E.cells_one _) hm hbytes (Nat.le_trans hb (by simp))
 exact ⟨v', w', h1, by rw [E.cells_append]; exact h2, h3, by simpa using h4⟩
structure MineE {α : Type} (E : Enc α) (e : TypeId) (B : Nat) (w : World) (A : Option Addr) (l : List α) : Prop where
 is : Rs E w.heap.size w A l
 own : 0 < l.length → ∃ g cs, A = some ⟨g, 0, none⟩ ∧ B ≤ g ∧ Own w g e cs ∧ l.length * E.sz ≤ cs.size
section
variable {α : Type} {E : Enc α} {e : TypeId} {B : Nat} {w w' : World} {A : Option Addr} {l : List α}
theorem MineE.nil_ (A : Option Addr) : MineE E e B w A [] := ⟨rs_nil A, fun h => absurd h (by simp)⟩
theorem mine_own {v : Value} {n : Nat} (hn : n = l.length) (h : w.ownsRow B e E.sz v n (E.cells l)) : ∃ A c, v = .slice A l.length c ∧ l.length ≤ c ∧ c ≤ maxLen ∧ MineE E e B w A l := by
 obtain ⟨A, c, rfl, h1, h2, h3⟩ := rs_own hn h
 refine ⟨A, c, rfl, h1, h2, h3, fun hl => ?_⟩
 rcases h.2 with ⟨h4, _⟩ | ⟨g, cap, cur, hv, hg, ho, hc, _, hs, _⟩
 ·injection h4 with _ h4; omega
 ·injection hv with hA _ hcc
  refine ⟨g, cur, hA, hg, ho, ?_⟩
  rw [hs]
  exact Nat.mul_le_mul_right _ (by omega)
theorem MineE.below (h : MineE E e B w A l) (hb : Below w.heap.size w w') : MineE E e B w' A l :=
 ⟨h.is.now (Nat.le_refl _) hb, fun hl => let ⟨g, cs, e, hg, ho, hs⟩ := h.own hl; ⟨g, cs, e, hg, ho.below hb, hs⟩⟩
end
theorem slice_max {P : Program} (w : World) (t e : TypeId) (i : TypeInfo) (A : Option Addr) (n c : Nat) (ht : P.underlying t = some (.slice e)) (hi : P.info? e = some i) (hn : n ≤ c) :
  (Instr.slice t (.slice A n c) none (some (.int .i64 (n : Int))) (some (.int .i64 (n : Int)))).run P w = .ok (.slice A n n) w := by
 have h1 : (0 ≤ (n : Int) ∧ (n : Int) ≤ (c : Int)) := ⟨by omega, by omega⟩
 simp [Instr.slice, run_underlying ht, Instr.sliceBounds, Instr.sliceBound, asIntOf, h1, sizeOf, typeInfo, hi]
 cases A <;> simp [Addr.add] <;> (intro hh; exfalso; omega)
end Go.Proofs.YtibpnlojlfcpmaaGreatDoor
namespace Go.Proofs.YtibpnlojlfcpmaaGreatDoor
open Go.RowKit
structure Fr where
 used : Bool
 s : Int
 p : Int
 r : Int
 n : Int
 deriving DecidableEq
structure Tab where
 bs : List Int
 fs : List Fr
structure Ln where
 v : Bool
 t : Int
 p : Int
 f : Int
 r : Int
 w : Bool
 deriving DecidableEq
structure Ca where
 ls : List Ln
 hand : Int
structure Tg where
 count : Int
 next : Int
 round : Int
 os : List (Int × Int)
structure Ma where
 t : Tab
 c : Ca
 g : Tg
 sp : Int
def frz : Fr := ⟨false, 0, 0, 0, -1⟩
def lnz : Ln := ⟨false, 0, 0, 0, 0, false⟩
def tabz : Tab := ⟨[], []⟩
def caz : Ca := ⟨[], 0⟩
def tgz : Tg := ⟨0, 0, 0, []⟩
def maz : Ma := ⟨tabz, caz, tgz, 0⟩
def intE : Enc Int where
 sz := 1
 cs := fun a => [.int .i64 a]
 len := fun _ => rfl
 one := fun a u hu => by simp at hu; rw [hu]; rfl
 pos := by decide
def owE : Enc (Int × Int) where
 sz := 2
 cs := fun a => [.int .i64 a.1, .int .i64 a.2]
 len := fun _ => rfl
 one := fun a u hu => by simp at hu; rcases hu with rfl | rfl <;> rfl
 pos := by decide
def frE : Enc Fr where
 sz := 5
 cs := fun a => [.bool a.used, .int .i64 a.s, .int .i64 a.p, .int .i64 a.r, .int .i64 a.n]
 len := fun _ => rfl
 one := fun a u hu => by simp at hu; rcases hu with rfl | rfl | rfl | rfl | rfl <;> rfl
 pos := by decide
def lnE : Enc Ln where
 sz := 6
 cs := fun a => [.bool a.v, .int .i64 a.t, .int .i64 a.p, .int .i64 a.f, .int .i64 a.r, .bool a.w]
 len := fun _ => rfl
 one := fun a u hu => by simp at hu; rcases hu with rfl | rfl | rfl | rfl | rfl | rfl <;> rfl
 pos := by decide
def SlR {α : Type} (E : Enc α) (w : World) (v : Value) (l : List α) : Prop := ∃ A c, v = .slice A l.length c ∧ l.length ≤ c ∧ c ≤ maxLen ∧ Rs E w.heap.size w A l
def SlM {α : Type} (E : Enc α) (e : TypeId) (base : Nat) (w : World) (v : Value) (l : List α) : Prop := ∃ A c, v = .slice A l.length c ∧ l.length ≤ c ∧ c ≤ maxLen ∧ MineE E e base w A l
section
variable {α : Type} {E : Enc α} {e : TypeId} {base : Nat} {w w' : World} {v : Value} {l : List α}
theorem SlM.r (h : SlM E e base w v l) : SlR E w v l := let ⟨A, c, h1, h2, h3, h4⟩ := h; ⟨A, c, h1, h2, h3, h4.is⟩
theorem SlR.now (h : SlR E w v l) (hb : Below w.heap.size w w') : SlR E w' v l := let ⟨A, c, h1, h2, h3, h4⟩ := h; ⟨A, c, h1, h2, h3, h4.now (Nat.le_refl _) hb⟩
theorem SlM.now (h : SlM E e base w v l) (hb : Below w.heap.size w w') : SlM E e base w' v l := let ⟨A, c, h1, h2, h3, h4⟩ := h; ⟨A, c, h1, h2, h3, h4.below hb⟩
theorem SlR.nil_ (w : World) : SlR E w (.slice none 0 0) [] := ⟨none, 0, rfl, Nat.le_refl _, by simp [maxLen], rs_nil _⟩
theorem SlM.nil_ (w : World) : SlM E e base w (.slice none 0 0) [] := ⟨none, 0, rfl, Nat.le_refl _, by simp [maxLen], MineE.nil_ _⟩
theorem slm_own {n : Nat} (hn : n = l.length) (h : w.ownsRow base e E.sz v n (E.cells l)) : SlM E e base w v l := by
 obtain ⟨A, c, h1, h2, h3, h4⟩ := mine_own hn h
 exact ⟨A, c, h1, h2, h3, h4⟩
theorem SlM.mono {base' : Nat} (h : SlM E e base w v l) (hb : base' ≤ base) : SlM E e base' w v l := by
 obtain ⟨A, c, h1, h2, h3, h4, h5⟩ := h
 exact ⟨A, c, h1, h2, h3, h4, fun hl => let ⟨g, cs, e1, e2, e3⟩ := h5 hl; ⟨g, cs, e1, Nat.le_trans hb e2, e3⟩⟩
end
structure TaR (w : World) (vb vf : Value) (t : Tab) : Prop where
 b : SlR intE w vb t.bs
 f : SlR frE w vf t.fs
structure TaM (base : Nat) (w : World) (vb vf : Value) (t : Tab) : Prop where
 b : SlM intE 3 base w vb t.bs
 f : SlM frE 66 base w vf t.fs
theorem TaM.r {base : Nat} {w : World} {vb vf : Value} {t : Tab} (h : TaM base w vb vf t) : TaR w vb vf t := ⟨h.b.r, h.f.r⟩
theorem TaR.now {w w' : World} {vb vf : Value} {t : Tab} (h : TaR w vb vf t) (hb : Below w.heap.size w w') : TaR w' vb vf t := ⟨h.b.now hb, h.f.now hb⟩
theorem TaM.now {base : Nat} {w w' : World} {vb vf : Value} {t : Tab} (h : TaM base w vb vf t) (hb : Below w.heap.size w w') : TaM base w' vb vf t := ⟨h.b.now hb, h.f.now hb⟩
section
variable {P : Program} {w : World}
theorem step_call {ops : Array Oper} {o : Oper} {a : Act} {K : Act → World → Prop} {Q : Exit → Act → World → Prop} {E : Prop} (hgd : o.guard = none) {f : FuncId} {args : Array Value} {R : Value → World → Prop}
  (hx : (execOp a.eval o).run P w = .ok (.enter f args) w) (hc : Calls P f args w (Post2 R)) (h : ∀ v w', R v w' → K (a.put o.dst v) w') : if Region.wanted o (yielded ops a.tmps) = true then Oper.wp P o a w K Q else E := by
 have hw : Region.wanted o (yielded ops a.tmps) = true := by simp [Region.wanted, hgd]
 rw [if_pos hw]
 unfold Oper.wp
 rw [hx, Oper.upon_enter]
 refine hc.mono ?_
 rintro e w' ⟨v, rfl, hr⟩
 exact h v w' hr
end
theorem step_append_run {P : Program} {w : World} {ops : Array Oper} {o : Oper} {a : Act} {K : Act → World → Prop} {Q : Exit → Act → World → Prop} {E : Prop} (hgd : o.guard = none) (s x : Operand) (t : TypeId)
  (ho : o.op = .call { callee := .builtin .append, args := #[s, x], argTypes := #[t, t] }) (v y v' : Value) (w' : World) (hv : a.eval s = v) (hx : a.eval x = y)
  (hrun : (Builtin.append_ #[t, t] o.type #[v, y]).run P w = .ok v' w') (h : K (a.put o.dst v') w') : if Region.wanted o (yielded ops a.tmps) = true then Oper.wp P o a w K Q else E := by
 have hw : Region.wanted o (yielded ops a.tmps) = true := by simp [Region.wanted, hgd]
 rw [if_pos hw]
 unfold Oper.wp execOp
 simp only [ho, resolve, invoke, builtin, Sem.run_bind, Sem.run_pure, Result.andThen_ok, List.map_toArray, List.map_cons, List.map_nil, hv, hx, hrun]
 exact h
theorem gT {a b c : World} {row : Option Nat} (h : a.grownBy b row) (k : b.grownBy c row) : a.grownBy c row := h.trans k
end Go.Proofs.YtibpnlojlfcpmaaGreatDoor
