/- A part of the proofs of this seat: Copy, Draw, Find, Keep, Ma, Mach, Mem, Move, Own, Plain, Write. -/
import Derived.WalkKit
import Derived.Lib.Hide
import Derived.Deep.QuietTactic
import Derived.BigQuiet
import Derived.Maps.AppendAt
import Derived.Deep.AppendLies
import Derived.RegionTactic
import Derived.OwnWalk
import Derived.Deep.RegionLaw
import Derived.Deep.RegionWith
import Derived.Laws.Cover3
import Derived.Test.YtibpnlojlfcpmaaGreatDoorRFind
import Derived.Test.YtibpnlojlfcpmaaGreatDoorRKeep
set_option linter.unusedVariables false
set_option linter.unusedSimpArgs false
set_option maxRecDepth 1000000
namespace Go.Proofs.YtibpnlojlfcpmaaGreatDoor
open Go.RowKit
section
variable {w : World} {g : Nat} {t : TypeId} {a0 a1 a2 a3 a4 a5 a6 a7 a8 : Value}
theorem free9 {cs : Array Value} (h : Own w g t cs) : w.frozen? ⟨g, 0, none⟩ = false ∧ w.frozen? ⟨g, 1, none⟩ = false ∧ w.frozen? ⟨g, 2, none⟩ = false ∧ w.frozen? ⟨g, 3, none⟩ = false ∧ w.frozen? ⟨g, 4, none⟩ = false ∧ w.frozen? ⟨g, 5, none⟩ = false ∧ w.frozen? ⟨g, 6, none⟩ = false ∧ w.frozen? ⟨g, 7, none⟩ = false ∧ w.frozen? ⟨g, 8, none⟩ = false :=
 ⟨h.free 0, h.free 1, h.free 2, h.free 3, h.free 4, h.free 5, h.free 6, h.free 7, h.free 8⟩
theorem set9z (h : Own w g t #[a0, a1, a2, a3, a4, a5, a6, a7, a8]) : Own (((((((((w.setCell ⟨g, 0, none⟩ (.slice none 0 0)).setCell ⟨g, 1, none⟩ (.slice none 0 0)).setCell ⟨g, 2, none⟩ (.slice none 0 0)).setCell ⟨g, 3, none⟩ (.int .i64 0)).setCell ⟨g, 4, none⟩ (.int .i64 0)).setCell ⟨g, 5, none⟩ (.int .i64 0)).setCell ⟨g, 6, none⟩ (.int .i64 0)).setCell ⟨g, 7, none⟩ (.slice none 0 0)).setCell ⟨g, 8, none⟩ (.int .i64 0)) g t #[.slice none 0 0, .slice none 0 0, .slice none 0 0, .int .i64 0, .int .i64 0, .int .i64 0, .int .i64 0, .slice none 0 0, .int .i64 0] := by
 simpa using ((((((((h.set_ 0 (.slice none 0 0)).set_ 1 (.slice none 0 0)).set_ 2 (.slice none 0 0)).set_ 3 (.int .i64 0)).set_ 4 (.int .i64 0)).set_ 5 (.int .i64 0)).set_ 6 (.int .i64 0)).set_ 7 (.slice none 0 0)).set_ 8 (.int .i64 0)
theorem box2 (w : World) (c1 : Array Value) (t1 : TypeId) (c2 : Array Value) (t2 : TypeId) : ∃ W, (w.alloc (.cells c1 t1)).alloc (.cells c2 t2) = W ∧ Own W w.heap.size t1 c1 ∧ Own W (w.heap.size + 1) t2 c2 ∧ Below w.heap.size w W ∧ W.heap.size = w.heap.size + 2 :=
 ⟨_, rfl, (Own.new_ _ _ _).alloc, by have h := Own.new_ (w.alloc (.cells c1 t1)) t2 c2; simpa using h, bA (bA bR), by simp⟩
theorem box3 (w : World) (c1 : Array Value) (t1 : TypeId) (c2 : Array Value) (t2 : TypeId) (c3 : Array Value) (t3 : TypeId) : ∃ W, ((w.alloc (.cells c1 t1)).alloc (.cells c2 t2)).alloc (.cells c3 t3) = W ∧ Own W w.heap.size t1 c1 ∧ Own W (w.heap.size + 1) t2 c2 ∧ Own W (w.heap.size + 1 + 1) t3 c3 ∧ Below w.heap.size w W ∧ W.heap.size = w.heap.size + 3 :=
 ⟨_, rfl, (Own.new_ _ _ _).alloc.alloc, by have h := (Own.new_ (w.alloc (.cells c1 t1)) t2 c2).alloc (o := .cells c3 t3); simpa using h, by have h := Own.new_ ((w.alloc (.cells c1 t1)).alloc (.cells c2 t2)) t3 c3; simpa using h, bA (bA (bA bR)), by simp⟩
end
section
variable {P : Program} (w : World)
theorem wp_append_rd {o : Oper} {a : Act} {K : Act → World → Prop} {Q : Exit → Act → World → Prop} (s x : Operand) (t : TypeId)
  (ho : o.op = .call { callee := .builtin .append, args := #[s, x], argTypes := #[t, t] })
  (base : Nat) (e : TypeId) (i : TypeInfo) (z : Value) (sz bytes : Nat) (ht : P.underlying t = some (.slice e)) (hi : P.info? e = some i) (hz : i.zero = some z)
  (hs : i.size = sz) (hby : i.bytes = bytes) (hzs : z.cells.size = sz) (hsz : 0 < sz)
  (v : Value) (n : Nat) (xs : List Value) (hv : a.eval s = v) (hown : w.ownsRow base e sz v n xs)
  (B : Nat) (A : Option Addr) (m c : Nat) (news : List Value) (hx : a.eval x = .slice A m c) (hr : Rd B w sz A m news) (h1 : ∀ u ∈ news, u.oneCell' = true)
  (h63 : n + m ≤ maxLen) (hbytes : (n + m) * bytes ≤ 140737488355328) (hbase : base ≤ w.heap.size)
  (h : ∀ v' w', w'.ownsRow base e sz v' (n + m) (xs ++ news) → w.grownBy w' v.ownBlock → (v'.ownBlock = v.ownBlock ∨ v'.ownBlock = some w.heap.size) → K (a.put o.dst v') w') : o.wp P a w K Q := by
 obtain ⟨v', w', hrun, h2, h3, h4⟩ := run_append_rd (P := P) w base t o.type e i z sz bytes ht hi hz hs hby hzs hsz v n xs hown B A m c news hr h1 h63 hbytes hbase
 unfold Oper.wp execOp
 simp only [ho, resolve, invoke, builtin, Sem.run_bind, Sem.run_pure, Result.andThen_ok, List.map_toArray, List.map_cons, List.map_nil, hv, hx, hrun]
 exact h v' w' h2 h3 h4
end
def tabz : Tab := ⟨[], []⟩
def caz : Ca := ⟨[], 0⟩
def tgz : Tg := ⟨0, 0, 0, []⟩
def maz : Ma := ⟨tabz, caz, tgz, 0⟩
def mapOK (t : Tab) (s p fr r : Int) : Bool :=
 tv t && kval (s, p) && !decide (0 ≤ fndI t.fs s p) && inR fr t.fs.length && (match t.fs[fr.toNat]? with | some f => !f.used | none => false) && inR r 8
def mapT (t : Tab) (s p fr r : Int) : Tab := ⟨t.bs.set (bkt t s p) fr, t.fs.set fr.toNat ⟨true, s, p, r, t.bs.getD (bkt t s p) 0⟩⟩
def mapV (t : Tab) (s p fr r : Int) : Tab := if mapOK t s p fr r = true then mapT t s p fr r else tabz
def relink (i n : Int) (f : Fr) : Fr := if f.used = true ∧ f.n = i then { f with n := n } else f
def unmT (t : Tab) (s p : Int) : Tab :=
 let i := fndI t.fs s p
 let n := (t.fs.getD i.toNat frz).n
 let b := bkt t s p
 if t.bs.getD b 0 = i then ⟨t.bs.set b n, t.fs.set i.toNat frz⟩ else ⟨t.bs, (t.fs.map (relink i n)).set i.toNat frz⟩
def unmV (t : Tab) (s p : Int) : Tab := if fOK t s p = true then unmT t s p else tabz
def vicFrom (ls : List Ln) : Nat → Nat → Nat
 | 0, at_ => at_
 | k + 1, at_ => match ls[at_]? with
  | some x => if x.w = true then vicFrom ls k ((at_ + 1) % ls.length) else at_
  | none => at_
def vic (c : Ca) : Nat := match c.ls.findIdx? (fun x => !x.v) with
 | some i => i
 | none => vicFrom c.ls c.ls.length c.hand.toNat
def filC (c : Ca) (x : Ln) : Ca := ⟨c.ls.set (vic c) x, match c.ls[vic c]? with | some y => if y.v = true then ((vic c : Int) + 1) % c.ls.length else c.hand | none => c.hand⟩
def filOK (c : Ca) (x : Ln) : Bool := cav c && x.v && lnok x && !decide (0 ≤ plcI c.ls x.t x.p) && cav (filC c x)
def filV (c : Ca) (x : Ln) : Ca := if filOK c x = true then filC c x else caz
def wirC (c : Ca) (i : Int) (w : Bool) : Ca := ⟨c.ls.set i.toNat { c.ls.getD i.toNat lnz with w := w }, c.hand⟩
def wirOK (c : Ca) (i : Int) (w : Bool) : Bool := cav c && inR i c.ls.length && (c.ls.getD i.toNat lnz).v && cav (wirC c i w)
def wirV (c : Ca) (i : Int) (w : Bool) : Ca := if wirOK c i w = true then wirC c i w else caz
def takG (g : Tg) (s : Int) : Tg × Int × Bool × Bool :=
 if (tgv g && inR s 16) = true then
  match own g.os s with
  | some i => (g, (g.os.getD i (0, 0)).2, false, true)
  | none =>
   if g.next = g.count then
    if g.round = 1000000 then (tgz, 0, false, false)
    else (⟨g.count, 1, g.round + 1, [(s, 0)]⟩, 0, true, true)
   else (⟨g.count, g.next + 1, g.round, g.os ++ [(s, g.next)]⟩, g.next, false, true)
 else (tgz, 0, false, false)
theorem pix_plc (ls : List Ln) (tag page : Int) : pix (fits tag page) ls = plcI ls tag page := by
 unfold pix plcI plc
 cases ls.findIdx? (fits tag page) <;> rfl
def putOK (m : Ma) (s p fr r : Int) : Bool := mav m && decide (keyI s p = s) && mapOK m.t s p fr r
def putV (m : Ma) (s p fr r : Int) : Ma := if putOK m s p fr r = true then { m with t := mapV m.t s p fr r } else maz
theorem run_copy {α : Type} (E : Enc α) (t ty e : TypeId) (i : TypeInfo) (z : Value) (bytes : Nat) (ht : Tryz.prog.underlying t = some (.slice e)) (hi : Tryz.prog.info? e = some i) (hz : i.zero = some z)
  (hs : i.size = E.sz) (hby : i.bytes = bytes) (hzs : z.cells.size = E.sz) (hbb : bytes ≤ 1000)
  (base : Nat) (W : World) (v : Value) (hown : W.ownsRow base e E.sz v 0 []) (B : Nat) (A : Option Addr) (c : Nat) (l : List α) (hr : Rs E B W A l) (hl : l.length ≤ 1048576) (hb : base ≤ W.heap.size) :
  ∃ v' w', (Builtin.append_ #[t, t] ty #[v, .slice A l.length c]).run Tryz.prog W = .ok v' w' ∧ w'.ownsRow base e E.sz v' l.length (E.cells l) ∧ W.grownBy w' v.ownBlock ∧ (v'.ownBlock = v.ownBlock ∨ v'.ownBlock = some W.heap.size) := by
 have hm : 0 + l.length ≤ maxLen := by simp only [maxLen]; omega
 have hbytes : (0 + l.length) * bytes ≤ 140737488355328 := Nat.le_trans (Nat.mul_le_mul (show 0 + l.length ≤ 1048576 by omega) hbb) (by omega)
 obtain ⟨v', w', h1, h2, h3, h4⟩ := run_append_rd (P := Tryz.prog) W base t ty e i z E.sz bytes ht hi hz hs hby hzs E.pos v 0 [] hown B A l.length c (E.cells l) hr (E.cells_one l) hm hbytes hb
 exact ⟨v', w', h1, by simpa using h2, h3, h4⟩
section
variable {P : Program} {w : World}
theorem step_call {ops : Array Oper} {o : Oper} {a : Act} {K : Act → World → Prop} {Q : Exit → Act → World → Prop} {E : Prop} (hgd : o.guard = none) {f : FuncId} {args : Array Value} {R : Value → World → Prop}
  (hx : (execOp a.eval o).run P w = .ok (.enter f args) w) (hc : Calls P f args w (Post2 R)) (h : ∀ v w', R v w' → K (a.put o.dst v) w') : if Region.wanted o (yielded ops a.tmps) = true then Oper.wp P o a w K Q else E := by
 have hw : Region.wanted o (yielded ops a.tmps) = true := by simp [Region.wanted, hgd]
 rw [if_pos hw]
 unfold Oper.wp
 rw [hx, Oper.upon_enter]
 refine hc.mono ?_
 rintro e w' ⟨v, rfl, hr⟩
 exact h v w' hr
end
theorem step_append_run {P : Program} {w : World} {ops : Array Oper} {o : Oper} {a : Act} {K : Act → World → Prop} {Q : Exit → Act → World → Prop} {E : Prop} (hgd : o.guard = none) (s x : Operand) (t : TypeId)
  (ho : o.op = .call { callee := .builtin .append, args := #[s, x], argTypes := #[t, t] }) (v y v' : Value) (w' : World) (hv : a.eval s = v) (hx : a.eval x = y)
  (hrun : (Builtin.append_ #[t, t] o.type #[v, y]).run P w = .ok v' w') (h : K (a.put o.dst v') w') : if Region.wanted o (yielded ops a.tmps) = true then Oper.wp P o a w K Q else E := by
 have hw : Region.wanted o (yielded ops a.tmps) = true := by simp [Region.wanted, hgd]
 rw [if_pos hw]
 unfold Oper.wp execOp
 simp only [ho, resolve, invoke, builtin, Sem.run_bind, Sem.run_pure, Result.andThen_ok, List.map_toArray, List.map_cons, List.map_nil, hv, hx, hrun]
 exact h
theorem gA {a w : World} {row : Option Nat} (h : a.grownBy w row) {o : Obj} : a.grownBy (w.alloc o) row :=
 ⟨h.os, h.tape, h.output, Nat.le_trans h.size (by simp), fun i hi hne => (Below.heap_alloc w o i (Nat.lt_of_lt_of_le hi h.size)).trans (h.block i hi hne)⟩
theorem gR {a : World} {row : Option Nat} : a.grownBy a row := World.grownBy.refl a row
theorem MineE.wint {e : TypeId} {B : Nat} {w : World} {g : Nat} {l : List Int} (h : MineE intE e B w (some ⟨g, 0, none⟩) l) {k : Nat} (hk : k < l.length) (x : Int) :
  MineE intE e B (w.setCell ⟨g, k, none⟩ (.int .i64 x)) (some ⟨g, 0, none⟩) (l.set k x) := by
 obtain ⟨g2, cs, e1, hB, ho, hs⟩ := h.own (by omega)
 injection e1 with e1
 injection e1 with e1
 subst e1
 have hs2 : l.length ≤ cs.size := by simpa [intE] using hs
 refine h.write ho (ho.set_ k (.int .i64 x)) (by simp) hk x (fun j u hj => ?_) (fun i hi => ?_)
 ·match j, hj with
  | 0, hj =>
   simp [intE] at hj
   subst hj
   simp [intE, Array.getElem?_setIfInBounds]
   omega
  | j + 1, hj => simp [intE] at hj
 ·simp only [intE] at hi
  rw [Array.getElem?_setIfInBounds, if_neg (by omega)]
theorem MineE.wfr {e : TypeId} {B : Nat} {w : World} {g : Nat} {l : List Fr} (h : MineE frE e B w (some ⟨g, 0, none⟩) l) {k : Nat} (hk : k < l.length) (x : Fr) :
  MineE frE e B (((((w.setCell ⟨g, k * 5, none⟩ (.bool x.used)).setCell ⟨g, k * 5 + 1, none⟩ (.int .i64 x.s)).setCell ⟨g, k * 5 + 2, none⟩ (.int .i64 x.p)).setCell ⟨g, k * 5 + 3, none⟩ (.int .i64 x.r)).setCell ⟨g, k * 5 + 4, none⟩ (.int .i64 x.n)) (some ⟨g, 0, none⟩) (l.set k x) := by
 obtain ⟨g2, cs, e1, hB, ho, hs⟩ := h.own (by omega)
 injection e1 with e1
 injection e1 with e1
 subst e1
 have hs2 : l.length * 5 ≤ cs.size := by simpa [frE] using hs
 refine h.write ho (((((ho.set_ (k * 5) _).set_ (k * 5 + 1) _).set_ (k * 5 + 2) _).set_ (k * 5 + 3) _).set_ (k * 5 + 4) _) (by simp) hk x (fun j u hj => ?_) (fun i hi => ?_)
 ·simp only [frE] at hj ⊢
  match j, hj with
  | 0, hj => simp at hj; subst hj; simp [Array.getElem?_setIfInBounds]; omega
  | 1, hj => simp at hj; subst hj; simp [Array.getElem?_setIfInBounds]; omega
  | 2, hj => simp at hj; subst hj; simp [Array.getElem?_setIfInBounds]; omega
  | 3, hj => simp at hj; subst hj; simp [Array.getElem?_setIfInBounds]; omega
  | 4, hj => simp at hj; subst hj; simp [Array.getElem?_setIfInBounds]; omega
  | j + 5, hj => simp at hj
 ·simp only [frE] at hi
  rw [Array.getElem?_setIfInBounds, if_neg (by omega), Array.getElem?_setIfInBounds, if_neg (by omega), Array.getElem?_setIfInBounds, if_neg (by omega), Array.getElem?_setIfInBounds, if_neg (by omega), Array.getElem?_setIfInBounds, if_neg (by omega)]
theorem MineE.wnext {e : TypeId} {B : Nat} {w : World} {g : Nat} {l : List Fr} (h : MineE frE e B w (some ⟨g, 0, none⟩) l) {k : Nat} {f : Fr} (hk : l[k]? = some f) (n : Int) :
  MineE frE e B (w.setCell ⟨g, k * 5 + 4, none⟩ (.int .i64 n)) (some ⟨g, 0, none⟩) (l.set k { f with n := n }) := by
 refine h.wcell hk { f with n := n } 4 (.int .i64 n) (by decide) (fun j u hj => ?_)
 simp only [frE] at hj ⊢
 match j, hj with
 | 0, hj => exact .inr ⟨by decide, hj⟩
 | 1, hj => exact .inr ⟨by decide, hj⟩
 | 2, hj => exact .inr ⟨by decide, hj⟩
 | 3, hj => exact .inr ⟨by decide, hj⟩
 | 4, hj => simp at hj; exact .inl ⟨rfl, hj.symm⟩
 | j + 5, hj => simp at hj
theorem chn_next {fs : List Fr} {k : Nat} {x : Int} {ch : List Nat} (h : chn fs k x = some ch) {j i : Nat} {f : Fr} (hj : j ∈ ch) (e : fs[j]? = some f) (hn : f.n = (i : Int)) : i ∈ ch ∧ ∃ a r, ch = a ++ j :: i :: r := by
 obtain ⟨g, e1, hu, a, r, e2, h3⟩ := chn_mem h j hj
 rw [e] at e1
 injection e1 with e1
 subst e1
 obtain ⟨j', k', f', r', h4, h5, h6, h7, h8, h9⟩ := chn_cons h3 (by omega)
 have hjj : j' = j := by omega
 subst hjj
 rw [e] at h6
 injection h6 with h6
 subst h6
 injection h9 with _ h9
 subst h9
 rw [hn] at h8
 obtain ⟨i', _, _, r'', h10, _, _, _, _, h11⟩ := chn_cons h8 (by omega)
 have : i' = i := by omega
 subst this
 rw [h11] at e2
 exact ⟨by rw [e2]; simp, a, r'', e2⟩
theorem chn_cut {fs : List Fr} {i : Nat} {n : Int} {φ : Fr → Fr} (h1 : ∀ f, (φ f).used = f.used) (h2 : ∀ f, f.n ≠ (i : Int) → (φ f).n = f.n) (h3 : ∀ f, f.used = true → f.n = (i : Int) → (φ f).n = n) {fi : Fr} (hi : fs[i]? = some fi) (hn : fi.n = n) :
  ∀ {a r : List Nat} {k : Nat} {x : Int}, a ≠ [] → chn fs k x = some (a ++ i :: r) → chn ((fs.map φ).set i frz) k x = some (a ++ r) := by
 have hget : ∀ {j : Nat} {f : Fr}, j ≠ i → fs[j]? = some f → ((fs.map φ).set i frz)[j]? = some (φ f) := fun hne e => by
  rw [set_ne (fun e => hne e.symm), List.getElem?_map, e]; rfl
 intro a
 induction a with
 | nil => intro r k x h; exact absurd rfl h
 | cons j a ih =>
  intro r k x _ h
  have hnd := chn_nodup h
  have hx : x ≠ -1 := by rintro rfl; rw [chn_neg] at h; injection h with h; cases h
  obtain ⟨j', k', f, r', rfl, rfl, e, hu, hr, hc⟩ := chn_cons h hx
  injection hc with hjj hc
  subst hjj
  have hji : j ≠ i := by rintro rfl; simp at hnd
  have hstep := fun k => chn_step k (hget hji e) (by rw [h1]; exact hu)
  rw [hstep]
  subst hc
  cases a with
  | nil =>
   change chn fs k' f.n = some (i :: r) at hr
   have hni : f.n ≠ -1 := by rintro e2; rw [e2, chn_neg] at hr; injection hr with hr; cases hr
   obtain ⟨i', k2, g, r2, h4, h5, h6, h7, h8, h9⟩ := chn_cons hr hni
   injection h9 with h9 h10
   subst h9 h10
   rw [h3 f hu h4]
   rw [hi] at h6
   injection h6 with h6
   subst h6
   rw [hn] at h8
   subst h5
   have hnd2 : i ∉ r := by simp at hnd; exact hnd.2.1
   rw [chn_congr (fs' := (fs.map φ).set i frz) (chn_more (Nat.le_succ _) h8) (fun y hy g eg => by
    have hne : y ≠ i := by rintro rfl; exact hnd2 hy
    refine ⟨φ g, hget hne eg, h1 g, ?_⟩
    apply h2
    intro hgn
    exact hnd2 (chn_next h8 hy eg hgn).1)]
   rfl
  | cons j2 a =>
   have hni : f.n ≠ (i : Int) := by
    intro e2
    rw [e2] at hr
    obtain ⟨i', _, _, _, h4, _, _, _, _, h9⟩ := chn_cons hr (by omega)
    injection h9 with h9
    have : i' = i := by omega
    subst this
    subst h9
    simp at hnd
   rw [h2 f hni, ih (by simp) hr]
   rfl
theorem TV.unmap {t : Tab} (h : TV t) {i : Nat} {f0 : Fr} (hi : t.fs[i]? = some f0) (hu : f0.used = true) (hk : kval (f0.s, f0.p) = true) :
  TV (if t.bs.getD (bkt t f0.s f0.p) 0 = (i : Int) then ⟨t.bs.set (bkt t f0.s f0.p) f0.n, t.fs.set i frz⟩ else ⟨t.bs, (t.fs.map (relink i f0.n)).set i frz⟩) := by
 obtain ⟨_, _, hz3, _⟩ := h.sz
 obtain ⟨hil, _⟩ := List.getElem?_eq_some_iff.1 hi
 obtain ⟨hb, he⟩ := bkt_in hk hz3
 obtain ⟨ch0, e0, hc0⟩ := h.ch _ hb
 have hin : i ∈ ch0 := by
  obtain ⟨b, ch, hb', e1, hm⟩ := h.cov i f0 hi hu
  obtain ⟨ch2, e2, hc2⟩ := h.ch b hb'
  rw [e1] at e2
  injection e2 with e2
  subst e2
  obtain ⟨f, ef, hh⟩ := hok_parts (hc2 i hm)
  rw [hi] at ef
  injection ef with ef
  subst ef
  have : b = bkt t f0.s f0.p := by omega
  subst this
  rw [e1] at e0
  injection e0 with e0
  rw [← e0]; exact hm
 obtain ⟨x, ex, ec⟩ := bch_some e0
 have hx : t.bs.getD (bkt t f0.s f0.p) 0 = x := by rw [List.getD_eq_getElem?_getD, ex]; rfl
 obtain ⟨_, _, _, a, r, ea, hir⟩ := chn_mem ec i hin
 have hnd : (a ++ i :: r).Nodup := ea ▸ chn_nodup ec
 -- what both ways have in common
 have main : ∀ (bs' : List Int) (φ : Fr → Fr), bs'.length = t.bs.length → (∀ b, b ≠ bkt t f0.s f0.p → bs'[b]? = t.bs[b]?) → (∀ f, (φ f).used = f.used ∧ (φ f).s = f.s ∧ (φ f).p = f.p ∧ (φ f).r = f.r) → (∀ f, f.used = false → φ f = f) → (∀ f, f.n ≠ (i : Int) → (φ f).n = f.n) →
   bch ⟨bs', (t.fs.map φ).set i frz⟩ (bkt t f0.s f0.p) = some (a ++ r) → TV ⟨bs', (t.fs.map φ).set i frz⟩ := by
  intro bs' φ hl hbs p1 p2 p3 hch
  have hget : ∀ {j : Nat} {f : Fr}, j ≠ i → t.fs[j]? = some f → ((t.fs.map φ).set i frz)[j]? = some (φ f) := fun hne e => by
   rw [set_ne (fun e => hne e.symm), List.getElem?_map, e]; rfl
  have hget' : ∀ {j : Nat} {f : Fr}, j ≠ i → ((t.fs.map φ).set i frz)[j]? = some f → ∃ g, t.fs[j]? = some g ∧ f = φ g := fun {j f} hne e => by
   rw [set_ne (fun e => hne e.symm), List.getElem?_map] at e
   cases eg : t.fs[j]? with
   | none => rw [eg] at e; cases e
   | some g => rw [eg] at e; injection e with e; exact ⟨g, rfl, e.symm⟩
  have hgi : ((t.fs.map φ).set i frz)[i]? = some frz := set_eq (by rw [List.length_map]; exact hil)
  have hbn : ∀ {b : Nat} {ch : List Nat}, b ≠ bkt t f0.s f0.p → b < t.bs.length → bch t b = some ch → i ∉ ch ∧ bch ⟨bs', (t.fs.map φ).set i frz⟩ b = some ch := fun {b ch} hne hb' e => by
   have hni : i ∉ ch := fun hm => by
    obtain ⟨ch2, e2, hc2⟩ := h.ch b hb'
    rw [e] at e2
    injection e2 with e2
    subst e2
    obtain ⟨f, ef, hh⟩ := hok_parts (hc2 i hm)
    rw [hi] at ef
    injection ef with ef
    subst ef
    omega
   refine ⟨hni, ?_⟩
   obtain ⟨y, ey, ecy⟩ := bch_some e
   rw [bch_of (t := ⟨bs', (t.fs.map φ).set i frz⟩) (i := y) (by rw [hbs b hne]; exact ey)]
   simp only [List.length_set, List.length_map]
   exact chn_congr ecy fun j hj g eg => ⟨φ g, hget (by rintro rfl; exact hni hj) eg, (p1 g).1, p3 g fun hgn => hni (chn_next ecy hj eg hgn).1⟩
  have hok' : ∀ {b j : Nat}, j ≠ i → hok t b j = true → hok ⟨bs', (t.fs.map φ).set i frz⟩ b j = true := fun hne e => by
   obtain ⟨f, ef, hh⟩ := hok_parts e
   unfold hok
   rw [hget hne ef]
   simp only [hl]
   rw [decide_eq_true_eq, (p1 f).2.1, (p1 f).2.2.1]
   exact hh
  have har : ∀ j ∈ a ++ r, j ≠ i ∧ j ∈ ch0 := fun j hj => by
   refine ⟨?_, ?_⟩
   ·rintro rfl
    rw [List.nodup_append] at hnd
    rcases List.mem_append.1 hj with hm | hm
    ·exact hnd.2.2 j hm j (by simp) rfl
    ·exact (List.nodup_cons.1 hnd.2.1).1 hm
   ·rw [ea]
    rcases List.mem_append.1 hj with hm | hm
    ·exact List.mem_append.2 (.inl hm)
    ·exact List.mem_append.2 (.inr (by simp [hm]))
  refine ⟨by simp only [List.length_set, List.length_map, hl]; exact h.sz, fun j f e => ?_, fun j k f g ej ek hf hg hkk => ?_, fun b hb' => ?_, fun j f e hf => ?_⟩
  ·by_cases hj : j = i
   ·subst hj
    rw [hgi] at e
    injection e with e
    rw [← e]; decide
   ·obtain ⟨g, eg, rfl⟩ := hget' hj e
    have hg := h.ok j g eg
    cases hgu : g.used with
    | false => rw [p2 g hgu]; exact hg
    | true =>
     unfold frok at hg ⊢
     rw [(p1 g).1, (p1 g).2.1, (p1 g).2.2.1, (p1 g).2.2.2]
     rw [hgu] at hg ⊢
     simp only [if_true] at hg ⊢
     exact hg
  ·have hji : j ≠ i := by rintro rfl; rw [hgi] at ej; injection ej with ej; rw [← ej] at hf; cases hf
   have hki : k ≠ i := by rintro rfl; rw [hgi] at ek; injection ek with ek; rw [← ek] at hg; cases hg
   obtain ⟨f', ef, rfl⟩ := hget' hji ej
   obtain ⟨g', eg, rfl⟩ := hget' hki ek
   rw [(p1 f').1] at hf
   rw [(p1 g').1] at hg
   rw [(p1 f').2.1, (p1 f').2.2.1, (p1 g').2.1, (p1 g').2.2.1] at hkk
   exact h.key j k f' g' ef eg hf hg hkk
  ·simp only [hl] at hb'
   by_cases hbb : b = bkt t f0.s f0.p
   ·subst hbb
    refine ⟨_, hch, fun j hj => ?_⟩
    obtain ⟨h1, h2⟩ := har j hj
    exact hok' h1 (hc0 j h2)
   ·obtain ⟨ch, e1, hc⟩ := h.ch b hb'
    obtain ⟨h1, h2⟩ := hbn hbb hb' e1
    exact ⟨ch, h2, fun j hj => hok' (by rintro rfl; exact h1 hj) (hc j hj)⟩
  ·have hji : j ≠ i := by rintro rfl; rw [hgi] at e; injection e with e; rw [← e] at hf; cases hf
   obtain ⟨g, eg, rfl⟩ := hget' hji e
   rw [(p1 g).1] at hf
   obtain ⟨b, ch, hb', e1, hm⟩ := h.cov j g eg hf
   by_cases hbb : b = bkt t f0.s f0.p
   ·subst hbb
    rw [e0] at e1
    injection e1 with e1
    subst e1
    rw [ea] at hm
    refine ⟨_, _, by simp only [hl]; exact hb', hch, ?_⟩
    rcases List.mem_append.1 hm with hm | hm
    ·exact List.mem_append.2 (.inl hm)
    ·rcases List.mem_cons.1 hm with hm | hm
     ·exact absurd hm hji
     ·exact List.mem_append.2 (.inr hm)
   ·exact ⟨b, ch, by simp only [hl]; exact hb', (hbn hbb hb' e1).2, hm⟩
 rw [hx]
 by_cases hxi : x = (i : Int)
 ·rw [if_pos hxi]
  subst hxi
  have ha : a = [] := by
   cases a with
   | nil => rfl
   | cons j a =>
    exfalso
    rw [ea] at ec
    have := chn_same ec hir
    injection this with h1 h2
    have hl := congrArg List.length h2
    simp at hl
    omega
  subst ha
  have := main (t.bs.set (bkt t f0.s f0.p) f0.n) id (by simp) (fun b hb' => set_ne (fun e => hb' e.symm)) (fun f => ⟨rfl, rfl, rfl, rfl⟩) (fun f _ => rfl) (fun f _ => rfl) (by
   rw [List.map_id, bch_of (t := ⟨t.bs.set (bkt t f0.s f0.p) f0.n, t.fs.set i frz⟩) (i := f0.n) (set_eq hb)]
   simp only [List.length_set, List.nil_append]
   obtain ⟨i', k', g, r', h4, h5, h6, h7, h8, h9⟩ := chn_cons hir (by omega)
   injection h9 with h9 h10
   subst h9 h10
   rw [hi] at h6
   injection h6 with h6
   subst h6
   have hnr : i ∉ r := by simp at hnd; exact hnd.1
   exact chn_congr (chn_more (by omega) h8) fun j hj g eg => ⟨g, by rw [set_ne (by rintro rfl; exact hnr hj)]; exact eg, rfl, rfl⟩)
  rwa [List.map_id] at this
 ·rw [if_neg hxi]
  have hane : a ≠ [] := by
   rintro rfl
   rw [ea] at ec
   have hx1 : x ≠ -1 := by rintro rfl; rw [chn_neg] at ec; injection ec with ec; cases ec
   obtain ⟨i', _, _, _, h4, _, _, _, _, h9⟩ := chn_cons ec hx1
   injection h9 with h9
   subst h9
   exact hxi h4
  refine main t.bs (relink i f0.n) rfl (fun b _ => rfl) (fun f => by unfold relink; split <;> exact ⟨rfl, rfl, rfl, rfl⟩) (fun f hf => by unfold relink; rw [if_neg (by simp [hf])]) (fun f hf => by unfold relink; rw [if_neg (fun h => hf h.2)]) ?_
  rw [bch_of (t := ⟨t.bs, (t.fs.map (relink i f0.n)).set i frz⟩) (i := x) ex]
  simp only [List.length_set, List.length_map]
  rw [ea] at ec
  exact chn_cut (fun f => by unfold relink; split <;> rfl) (fun f hf => by unfold relink; rw [if_neg (fun h => hf h.2)]) (fun f hf hn => by unfold relink; rw [if_pos ⟨hf, hn⟩]) hi rfl hane ec
theorem xor_nat (a b : Nat) (ha : a < 9223372036854775808) (hb : b < 9223372036854775808) : bits .xor .i64 (a : Int) (b : Int) = ((a ^^^ b : Nat) : Int) := by
 have hx : a ^^^ b < 2 ^ 63 := Nat.xor_lt_two_pow (by omega) (by omega)
 have h1 : (BitVec.ofInt 64 (a : Int)).toNat = a := by rw [BitVec.ofInt_natCast, BitVec.toNat_ofNat]; exact Nat.mod_eq_of_lt (by omega)
 have h2 : (BitVec.ofInt 64 (b : Int)).toNat = b := by rw [BitVec.ofInt_natCast, BitVec.toNat_ofNat]; exact Nat.mod_eq_of_lt (by omega)
 show IntKind.i64.wrap ((BitVec.ofInt 64 (a : Int) ^^^ BitVec.ofInt 64 (b : Int)).toNat : Int) = _
 rw [BitVec.toNat_xor, h1, h2]
 exact IntWalk.i64_in _ (by omega)
def Picked (n : Int) (B : Nat) (w : World) (g p : Nat) (e : Ending) (w' : World) : Prop :=
 ∃ r : Int, e = .returned (.int .i64 r) ∧ 0 ≤ r ∧ (1 ≤ n → r < n) ∧ Rdr B w' g (p + 1) ∧ w.grownBy w' (some g)
theorem rdr_set {B : Nat} {w : World} {g p : Nat} {A : Option Addr} {n c : Nat} (ho : Own w g 172 #[.slice A n c, .int .i64 p]) (hb : Bytes B w A n) (hn : n ≤ 2000) (hg : B ≤ g) (k : Nat) :
  Rdr B ((w.setCell ⟨g, 1, none⟩ (.int .i64 ((p : Int) + 1))).drewN k) g (p + 1) ∧ w.grownBy ((w.setCell ⟨g, 1, none⟩ (.int .i64 ((p : Int) + 1))).drewN k) (some g) := by
 refine ⟨⟨A, n, c, ?_, hb.keep fun q hq => ?_, hn, hg⟩, ?_⟩
 ·have h := ho.set_ 1 (.int .i64 ((p : Int) + 1))
  have e : ((p : Int) + 1) = ((p + 1 : Nat) : Int) := by omega
  rw [e] at h ⊢
  exact h
 ·exact World.cell?_setCell_other w ⟨g, 1, none⟩ q _ (fun e => by subst e; exact absurd hq (by simp; omega))
 ·exact ⟨rfl, rfl, rfl, by simp [World.setCell], fun i _ hne => Below.heap_setCell w ⟨g, 1, none⟩ _ i (by rintro rfl; exact hne rfl)⟩
theorem emod_in {v n : Int} (hn : 1 ≤ n) : 0 ≤ v % n ∧ (1 ≤ n → v % n < n) := ⟨Int.emod_nonneg _ (by omega), fun _ => Int.emod_lt_of_pos _ (by omega)⟩
set_option maxHeartbeats 1000000 in
theorem pick_any (B g p : Nat) (n : Int) (w : World) (h : Rdr B w g p) (hp : p ≤ 1000000) (hn : n ≤ 1000000) :
  Calls Tryz.prog 95 #[.pointer (some ⟨g, 0, none⟩), .int .i64 n] w (Picked n B w g p) := by
 obtain ⟨A, len, c, ho, hb, hl, hg⟩ := h.ok
 have c0 := ho.cell_ 0 (v := .slice A len c) rfl
 have c1 := ho.cell_ 1 (v := .int .i64 p) rfl
 have f0 := ho.free 0
 have f1 := ho.free 1
 have HO := Hd ho
 have HB := Hd hb
 clear ho hb h
 by_cases h1 : n < 1
 ·go_enter Tryz.func95, Tryz.ntmps95
  go_wp2
  go_ret
  exact ⟨0, rfl, by omega, fun h => by omega, rdr_set HO.out HB.out hl hg 0⟩
 ·by_cases hz : len = 0
  ·subst hz
   go_enter Tryz.func95, Tryz.ntmps95
   go_wp2
   go_ret
   exact ⟨0, rfl, by omega, fun h => by omega, rdr_set HO.out HB.out hl hg 0⟩
  ·have hpos : (0 : Int) < (len : Int) := by omega
   have hne : ((len : Int) == 0) = false := by simp; omega
   by_cases hlt : p < len
   ·obtain ⟨b, o, v, rfl, hbb, hc, hv1⟩ := HB.out.at_ p hlt
    go_enter Tryz.func95, Tryz.ntmps95
    go_wp2
    go_ret
    exact ⟨_, rfl, (emod_in (by omega)).1, (emod_in (by omega)).2, rdr_set HO.out HB.out hl hg 0⟩
   ·obtain ⟨b, o, v, rfl, hbb, hc, hv1⟩ := HB.out.at_ (p % len) (Nat.mod_lt _ (by omega))
    obtain ⟨b', o', v2, e', _, hc2, hv21⟩ := HB.out.at_ ((p * 7 + 3) % len) (Nat.mod_lt _ (by omega))
    injection e' with e'
    injection e' with e1 e2
    subst e1 e2
    have r1 : ((p : Int)).tmod (len : Int) = ((p % len : Nat) : Int) := rfl
    have r2 : ((p : Int) * 7 + 3).tmod (len : Int) = (((p * 7 + 3) % len : Nat) : Int) := by
     rw [show (p : Int) * 7 + 3 = ((p * 7 + 3 : Nat) : Int) by omega]; rfl
    have r3 : ((p : Int)).tdiv (len : Int) = ((p / len : Nat) : Int) := rfl
    have hm1 : p % len < len := Nat.mod_lt _ (by omega)
    have hm2 : (p * 7 + 3) % len < len := Nat.mod_lt _ (by omega)
    have hq : p / len ≤ p := Nat.div_le_self _ _
    generalize p % len = j1 at *
    generalize (p * 7 + 3) % len = j2 at *
    generalize p / len = j3 at *
    have a1 : IntKind.i64.wrap ((p : Int) * 7) = (p : Int) * 7 := IntWalk.i64_in _ (by omega)
    have a2 : IntKind.i64.wrap ((p : Int) * 7 + 3) = (p : Int) * 7 + 3 := IntWalk.i64_in _ (by omega)
    have a3 : IntKind.i64.wrap ((v : Int) * 131) = (v : Int) * 131 := IntWalk.i64_in _ (by omega)
    have a4 : IntKind.i64.wrap ((v2 : Int) * 1117) = (v2 : Int) * 1117 := IntWalk.i64_in _ (by omega)
    have a5 : IntKind.i64.wrap ((v : Int) * 131 + (v2 : Int) * 1117) = (v : Int) * 131 + (v2 : Int) * 1117 := IntWalk.i64_in _ (by omega)
    have a6 : IntKind.i64.wrap ((p : Int) * 29) = (p : Int) * 29 := IntWalk.i64_in _ (by omega)
    have a7 : IntKind.i64.wrap ((v : Int) * 131 + (v2 : Int) * 1117 + (p : Int) * 29) = (v : Int) * 131 + (v2 : Int) * 1117 + (p : Int) * 29 := IntWalk.i64_in _ (by omega)
    have a8 : IntKind.i64.wrap ((j3 : Int) * 53) = (j3 : Int) * 53 := IntWalk.i64_in _ (by omega)
    have a9 : IntKind.i64.wrap ((v : Int) * 131 + (v2 : Int) * 1117 + (p : Int) * 29 + (j3 : Int) * 53) = (v : Int) * 131 + (v2 : Int) * 1117 + (p : Int) * 29 + (j3 : Int) * 53 := IntWalk.i64_in _ (by omega)
    go_enter Tryz.func95, Tryz.ntmps95
    go_wp2
    go_quiet (fail)
    clear r1 r2 r3 a1 a2 a3 a4 a5 a6 a7 a8 a9 hc hc2 c0 c1 f0 f1
    have hE : ∃ X : Nat, (v : Int) * 131 + (v2 : Int) * 1117 + (p : Int) * 29 + (j3 : Int) * 53 = (X : Int) ∧ X ≤ 1000000000 := ⟨v * 131 + v2 * 1117 + p * 29 + j3 * 53, by omega, by omega⟩
    obtain ⟨X, hX, hXb⟩ := hE
    rw [hX]
    clear hX
    have hx : bits .xor .i64 (X : Int) ((X : Int) / 64) = ((X ^^^ (X / 64) : Nat) : Int) := by
     rw [show ((X : Int) / 64) = ((X / 64 : Nat) : Int) from rfl]
     exact xor_nat X (X / 64) (by omega) (by omega)
    generalize X ^^^ (X / 64) = R at hx
    go_wp2
    go_ret
    exact ⟨_, rfl, (emod_in (by omega)).1, (emod_in (by omega)).2, rdr_set HO.out HB.out hl hg _⟩
end Go.Proofs.YtibpnlojlfcpmaaGreatDoor
