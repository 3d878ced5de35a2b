/- A part of the proofs of this seat: Cp7, RelB, RelC, RelM, RgK. -/
import Derived.ArgAppend
import Derived.Deep.CutRange
import Derived.Test.YtfbnokjdkhcgoaaGreatDoorEMeM
set_option linter.unusedVariables false
set_option linter.unusedSimpArgs false
set_option maxRecDepth 1000000
namespace Go.Proofs.YtfbnokjdkhcgoaaGreatDoor
open Go.RowKit
theorem SlM.mine {α : Type} {E : Enc α} {e : TypeId} {B : Nat} {w : World} {A : Option Addr} {n c : Nat} {l : List α} (h : SlM E e B w (.slice A n c) l) : MineE E e B w A l := by
 obtain ⟨A', c', h1, _, _, h4⟩ := h
 injection h1 with h1 _ _
 rw [h1]; exact h4
theorem EOwn.tch {α : Type} {E : Enc α} {e : TypeId} {w w' : World} {g lo hi : Nat} {l : List α} (h : EOwn E e w g l) (ht : Tch lo hi w w') (hg : ¬ (lo ≤ g ∧ g < hi)) : EOwn E e w' g l :=
 let ⟨⟨cs, h1, h2, h3⟩⟩ := h; ⟨⟨cs, h1.tch ht hg, h2, h3⟩⟩
theorem EOwn.mine {α : Type} {E : Enc α} {e : TypeId} {w : World} {g B : Nat} {l : List α} (h : EOwn E e w g l) (hB : B ≤ g) : MineE E e B w (some ⟨g, 0, none⟩) l := by
 refine ⟨h.rs, fun hl => ?_⟩
 obtain ⟨cs, h1, h2, h3⟩ := h.own
 exact ⟨g, cs, rfl, hB, h1, by omega⟩
inductive RL where
 | eq (u : Value)
 | ma (m : Ma)
 | tup (m : Ma) (rs : List Value)
 | box
 | boxed (m : Ma)
def RL.at_ (b si j : Nat) : RL → Value → World → Prop
 | .eq u0, u, _ => u = u0
 | .ma m, u, v => ∃ e1 e2 e3 e4, u = .agg #[e1, e2, e3, .int .i64 m.c.hand, .int .i64 m.g.count, .int .i64 m.g.next, .int .i64 m.g.round, e4, .int .i64 m.sp] ∧ MaM b v e1 e2 e3 e4 m
 | .tup m rs, u, v => ∃ e1 e2 e3 e4, u = .tuple (List.toArray (.agg #[e1, e2, e3, .int .i64 m.c.hand, .int .i64 m.g.count, .int .i64 m.g.next, .int .i64 m.g.round, e4, .int .i64 m.sp] :: rs)) ∧ MaM b v e1 e2 e3 e4 m
 | .box, u, v => ∃ g a0 a1 a2 a3 a4 a5 a6 a7 a8, u = .pointer (some ⟨g, 0, none⟩) ∧ b ≤ g ∧ Own v g 34 #[a0, a1, a2, a3, a4, a5, a6, a7, a8]
 | .boxed m, u, v => j = si ∧ ∃ g e1 e2 e3 e4, u = .pointer (some ⟨g, 0, none⟩) ∧ b ≤ g ∧ Own v g 34 #[e1, e2, e3, .int .i64 m.c.hand, .int .i64 m.g.count, .int .i64 m.g.next, .int .i64 m.g.round, e4, .int .i64 m.sp] ∧ MaM b v e1 e2 e3 e4 m
structure tS (t : TypeId) (kp : Nat → Prop) (B : Nat) (v v' : World) : Prop where
 bel : Below B v v'
 oth : Oth (fun e => e = t) v v'
 own : ∀ g cs, kp g → Own v g t cs → Own v' g t cs
 any : ∀ g (cs : Array Value), Own v g t cs → ∃ cs' : Array Value, cs'.size = cs.size ∧ Own v' g t cs'
section
variable {t : TypeId} {kp : Nat → Prop} {B : Nat} {v v' : World}
theorem tS.below (h : Below v.heap.size v v') (hB : B ≤ v.heap.size) : tS t kp B v v' :=
 ⟨h.mono hB, Oth.of_below h, fun _ _ _ o => o.below h, fun _ _ o => ⟨_, rfl, o.below h⟩⟩
theorem setA_size : ∀ (us : List Value) (i : Nat) (cs : Array Value), (setA i us cs).size = cs.size
 | [], _, _ => rfl
 | u :: us, i, cs => by unfold setA; rw [setA_size us]; simp
theorem tS.sets {g : Nat} {cs : Array Value} (ho : Own v g t cs) (hB : B ≤ g) (hk : ¬ kp g) (i : Nat) (us : List Value) : tS t kp B v (Go.Proofs.YtfbnokjdkhcgoaaGreatDoor.sets g i us v) := by
 refine ⟨?_, sets_oth ho, fun g' cs' h o => Own.fars (fun e => hk (by rw [← e]; exact h)) o, fun g' cs' o => ?_⟩
 ·have : ∀ (us : List Value) (i : Nat) (w : World), Below B v w → Below B v (Go.Proofs.YtfbnokjdkhcgoaaGreatDoor.sets g i us w) := by
   intro us
   induction us with
   | nil => intro i w h; exact h
   | cons u us ih => intro i w h; exact ih (i + 1) _ (h.setCell (p := ⟨g, i, none⟩) hB u)
  exact this us i v (Below.refl B v)
 ·by_cases hg : g' = g
  ·subst hg
   have e : cs' = cs := by
    unfold Own at o ho
    rw [o] at ho
    injection ho with ho
    injection ho with ho _
   subst e
   exact ⟨_, setA_size us i cs', o.sets⟩
  ·exact ⟨cs', rfl, Own.fars hg o⟩
end
def okT (t : TypeId) : Prop := t ≠ 3 ∧ t ≠ 80 ∧ t ≠ 50 ∧ t ≠ 186 ∧ t ≠ 4
theorem okT_me : okT 37 := by unfold okT; decide
theorem okT_ma : okT 34 := by unfold okT; decide
structure KP (t : TypeId) (kp : Nat → Prop) (B : Nat) where
 P : Value → World → Prop
 keep : ∀ u v v', tS t kp B v v' → P u v → P u v'
section
variable {t : TypeId} {kp : Nat → Prop} {B : Nat} {v v' : World}
theorem MaM.tS {b : Nat} {v1 v2 v3 v4 : Value} {m : Ma} (h : MaM b v v1 v2 v3 v4 m) (hk : okT t) (ht : tS t kp B v v') : MaM b v' v1 v2 v3 v4 m :=
 h.oth ht.oth (fun e => hk.1 e.symm) (fun e => hk.2.1 e.symm) (fun e => hk.2.2.1 e.symm) (fun e => hk.2.2.2.1 e.symm)
theorem MeM.tS {b : Nat} {v1 v2 v3 v4 v5 : Value} {M : Me} (h : MeM b v v1 v2 v3 v4 v5 M) (hk : okT t) (ht : tS t kp B v v') : MeM b v' v1 v2 v3 v4 v5 M :=
 h.oth ht.oth (fun e => hk.1 e.symm) (fun e => hk.2.1 e.symm) (fun e => hk.2.2.1 e.symm) (fun e => hk.2.2.2.1 e.symm) (fun e => hk.2.2.2.2 e.symm)
def KP.eq (u0 : Value) : KP t kp B := ⟨fun u _ => u = u0, fun _ _ _ _ h => h⟩
def KP.tun (x : Int) : KP t kp B := ⟨fun u _ => ∃ n : Int, u = .tuple #[.int .i64 x, .int .i64 n], fun _ _ _ _ h => h⟩
def KP.int : KP t kp B := ⟨fun u _ => ∃ n : Int, u = .int .i64 n, fun _ _ _ _ h => h⟩
def KP.ma (hk : okT t) (b : Nat) (m : Ma) : KP t kp B := ⟨fun u v => ∃ e1 e2 e3 e4, u = .agg #[e1, e2, e3, .int .i64 m.c.hand, .int .i64 m.g.count, .int .i64 m.g.next, .int .i64 m.g.round, e4, .int .i64 m.sp] ∧ MaM b v e1 e2 e3 e4 m, fun _ _ _ ht ⟨e1, e2, e3, e4, h, hm⟩ => ⟨e1, e2, e3, e4, h, hm.tS hk ht⟩⟩
def KP.me (hk : okT t) (b : Nat) (M : Me) : KP t kp B := ⟨fun u v => ∃ e1 e2 e3 e4 e5, u = .agg #[e1, e2, e3, .int .i64 M.m.c.hand, .int .i64 M.m.g.count, .int .i64 M.m.g.next, .int .i64 M.m.g.round, e4, .int .i64 M.m.sp, e5, .int .i64 M.h] ∧ MeM b v e1 e2 e3 e4 e5 M, fun _ _ _ ht ⟨e1, e2, e3, e4, e5, h, hm⟩ => ⟨e1, e2, e3, e4, e5, h, hm.tS hk ht⟩⟩
def KP.tup (hk : okT t) (b : Nat) (m : Ma) (rs : List Value) : KP t kp B := ⟨fun u v => ∃ e1 e2 e3 e4, u = .tuple (List.toArray (.agg #[e1, e2, e3, .int .i64 m.c.hand, .int .i64 m.g.count, .int .i64 m.g.next, .int .i64 m.g.round, e4, .int .i64 m.sp] :: rs)) ∧ MaM b v e1 e2 e3 e4 m, fun _ _ _ ht ⟨e1, e2, e3, e4, h, hm⟩ => ⟨e1, e2, e3, e4, h, hm.tS hk ht⟩⟩
def KP.tul (hk : okT t) (b : Nat) (M : Me) (l : List Int) (rs : List Value) : KP t kp B := ⟨fun u v => ∃ e1 e2 e3 e4 e5 pl, u = .tuple (List.toArray (.agg #[e1, e2, e3, .int .i64 M.m.c.hand, .int .i64 M.m.g.count, .int .i64 M.m.g.next, .int .i64 M.m.g.round, e4, .int .i64 M.m.sp, e5, .int .i64 M.h] :: pl :: rs)) ∧ MeM b v e1 e2 e3 e4 e5 M ∧ SlM intE 3 b v pl l, fun _ _ _ ht ⟨e1, e2, e3, e4, e5, pl, h, hm, hl⟩ => ⟨e1, e2, e3, e4, e5, pl, h, hm.tS hk ht, hl.oth ht.oth (fun e => hk.1 e.symm)⟩⟩
def KP.li (hk : okT t) (b : Nat) (l : List Int) : KP t kp B := ⟨fun u v => SlM intE 3 b v u l, fun _ _ _ ht hl => hl.oth ht.oth (fun e => hk.1 e.symm)⟩
def KP.bo (hk : okT t) (b : Nat) (l : List Bool) : KP t kp B := ⟨fun u v => SlM boE 4 b v u l, fun _ _ _ ht hl => hl.oth ht.oth (fun e => hk.2.2.2.2 e.symm)⟩
def KP.lit (hk : okT t) (b : Nat) : KP t kp B := ⟨fun u v => ∃ g, u = .slice (some ⟨g, 0, none⟩) 0 0 ∧ b ≤ g ∧ Own v g 4 #[], fun _ _ _ ht ⟨g, h, hb, ho⟩ => ⟨g, h, hb, ht.oth.2 _ _ _ ho (fun e => hk.2.2.2.2 e.symm)⟩⟩
def KP.box (b n : Nat) : KP t kp B := ⟨fun u v => ∃ g cs, u = .pointer (some ⟨g, 0, none⟩) ∧ b ≤ g ∧ cs.size = n ∧ Own v g t cs, fun _ _ _ ht ⟨g, cs, h, hb, hn, ho⟩ => by
 obtain ⟨cs', h1, h2⟩ := ht.any g cs ho
 exact ⟨g, cs', h, hb, h1.trans hn, h2⟩⟩
def kps (si : Nat) (ks : List (KP t kp B)) (F : Value → World → Prop) (j : Nat) (u : Value) (v : World) : Prop := if j = si then F u v else match ks[j]? with | some k => k.P u v | none => True
def kpT (t : TypeId) (kp : Nat → Prop) (B si i : Nat) (v v' : World) : Prop := if i = si then tS t kp B v v' else Below v.heap.size v v'
theorem kpT_same {si i : Nat} : kpT t kp B si i v v := by
 unfold kpT
 split
 ·exact ⟨Below.refl B v, ⟨Nat.le_refl _, fun _ _ _ o _ => o⟩, fun _ _ _ o => o, fun _ _ o => ⟨_, rfl, o⟩⟩
 ·exact bR
theorem kpT_below {si i : Nat} (hi : i ≠ si) (h : Below v.heap.size v v') : kpT t kp B si i v v' := by unfold kpT; rw [if_neg hi]; exact h
theorem kpT_store {si : Nat} (h : tS t kp B v v') : kpT t kp B si si v v' := by unfold kpT; rw [if_pos rfl]; exact h
end
theorem op_run {P : Program} {o : Oper} {a : Act} {w : World} {K : Act → World → Prop} {Q : Exit → Act → World → Prop} (s x : Operand) (t : TypeId) (ho : o.op = .call { callee := .builtin .append, args := #[s, x], argTypes := #[t, t] }) (v y v' : Value) (w' : World) (hv : a.eval s = v) (hx : a.eval x = y)
  (hrun : (Builtin.append_ #[t, t] o.type #[v, y]).run P w = .ok v' w') (h : K (a.put o.dst v') w') : o.wp P a w K Q := by
 unfold Oper.wp execOp
 simp only [ho, resolve, invoke, builtin, Sem.run_bind, Sem.run_pure, Result.andThen_ok, List.map_toArray, List.map_cons, List.map_nil, hv, hx, hrun]
 exact h
theorem run_copyB (W : World) (gl : Nat) (A : Option Addr) (c : Nat) (l : List Bool) (hr : Rs boE W.heap.size W A l) (h1 : 1 ≤ l.length) (hl : l.length ≤ 1048576) :
  ∃ v' w', (Builtin.append_ #[35, 35] 35 #[.slice (some ⟨gl, 0, none⟩) 0 0, .slice A l.length c]).run Tryz.prog W = .ok v' w' ∧ SlM boE 4 W.heap.size w' v' l ∧ Below W.heap.size W w' := by
 obtain ⟨i0, hi0, hz0, hz1, hz2⟩ := info_parts bo_info
 obtain ⟨b, o, rfl, hb, hc⟩ := hr.at_ (by omega)
 obtain ⟨v', w', e1, e2, e3⟩ := run_append_arg_grows (P := Tryz.prog) (w := W) 35 35 4 i0 _ 1 1 Tryz.underlying35 hi0 hz0 hz1 hz2 rfl (by omega) ⟨gl, 0, none⟩ 0 0 [] rfl (fun j u h => by simp at h) ⟨b, o, none⟩ l.length c (boE.cells l) (boE.cells_length l) (fun j u h => by
  have := hc j u h
  rw [add_lit_]
  exact this) (by omega) (by unfold maxLen; omega) (by omega)
 refine ⟨v', w', e1, ?_, ⟨e3.os, e3.tape, e3.output, e3.size, fun k hk => e3.block k hk (by simp)⟩⟩
 have e2' : w'.ownsRow W.heap.size 4 boE.sz v' l.length (boE.cells l) := by simpa [boE] using e2
 exact slm_own rfl e2'
theorem wp_region_kp {P : Program} {ops : Array Oper} {Q : Exit → Act → World → Prop} {id : Nat} {a : Act} {w : World} (hm : P.follows .mixedOrders = true) (ds sl : List Nat) (t : TypeId) (kp : Nat → Prop) (B si : Nat) (ks : List (KP t kp B)) (F : Value → World → Prop) (C : World → Prop)
    (hB : relB .any ops ds (sl.map fun s => [s]) = true) (hs : ops.size = sl.length) (hC0 : C w.drew) (hCB : ∀ v, C v → B ≤ v.heap.size) (hCk : ∀ v v', tS t kp B v v' → C v → C v') (hF : ∀ u v v', Below v.heap.size v v' → F u v → F u v')
    (step : ∀ i o, ops[i]? = some o → ∀ x v, C v → (∀ k, (∃ e ∈ o.after, Region.binds .any e = true ∧ e.on = k) → k < sl.length → kps si ks F k (x (sl.getD k 0)) v) → ∀ K : Act → World → Prop,
      (∀ u v', kpT t kp B si i v v' → kps si ks F i (upd x o.dst u (sl.getD i 0)) v' → K ((fillA ds x a).put o.dst u) v') → o.wp P (fillA ds x a) v K Q)
    (fin : ∀ x v, C v → (∀ i, i < sl.length → kps si ks F i (x (sl.getD i 0)) v) → Q .normal (fillA ds x a) v) : (Code.region id ops true).wp P Q a w := by
  have hTS : ∀ i v v', C v → kpT t kp B si i v v' → tS t kp B v v' := by
    intro i v v' hc ht
    unfold kpT at ht
    split at ht
    · exact ht
    · exact tS.below ht (hCB v hc)
  refine wp_region_rel1 hm ds sl C (fun j u v => C v ∧ kps si ks F j u v) (fun i v v' => C v → kpT t kp B si i v v') hB hs hC0 ?_ ?_ ?_
  · rintro i j u v v' hij ⟨hc, h⟩ ht
    have ht := ht hc
    refine ⟨hCk v v' (hTS i v v' hc ht) hc, ?_⟩
    unfold kps at h ⊢
    split
    · rename_i hj
      rw [if_pos hj] at h
      unfold kpT at ht
      rw [if_neg (by omega)] at ht
      exact hF u v v' ht h
    · rename_i hj
      rw [if_neg hj] at h
      cases hk : ks[j]? with
      | none => trivial
      | some k =>
        rw [hk] at h
        exact k.keep u v v' (hTS i v v' hc ht) h
  · intro i o ho x v hc hd K hK
    refine step i o ho x v hc (fun k hk hl => (hd k hk hl).2) K (fun u v' ht hr => ?_)
    have hc' := hCk v v' (hTS i v v' hc ht) hc
    exact hK u v' (fun _ => ht) hc' ⟨hc', hr⟩
  · intro x v hc h
    exact fin x v hc (fun i hi => (h i hi).2)
def tM (si i : Nat) (v v' : World) : Prop := if i = si then Oth (fun e => e = 37) v v' ∧ (∀ g cs, cs.size = 11 → Own v g 37 cs → ∃ cs', cs'.size = 11 ∧ Own v' g 37 cs') else Below v.heap.size v v'
theorem tM.oth {si i : Nat} {v v' : World} (h : tM si i v v') : Oth (fun e => e = 37) v v' := by
 unfold tM at h
 split at h
 ·exact h.1
 ·exact Oth.of_below h
inductive RLM where
 | eq (u : Value)
 | me (M : Me)
 | li (l : List Int)
 | tup (M : Me) (rs : List Value)
 | tul (M : Me) (l : List Int) (rs : List Value)
 | box
 | boxed (M : Me)
def RLM.at_ (b si j : Nat) : RLM → Value → World → Prop
 | .eq u0, u, _ => u = u0
 | .me M, u, v => ∃ e1 e2 e3 e4 e5, u = .agg #[e1, e2, e3, .int .i64 M.m.c.hand, .int .i64 M.m.g.count, .int .i64 M.m.g.next, .int .i64 M.m.g.round, e4, .int .i64 M.m.sp, e5, .int .i64 M.h] ∧ MeM b v e1 e2 e3 e4 e5 M
 | .li l, u, v => SlM intE 3 b v u l
 | .tup M rs, u, v => ∃ e1 e2 e3 e4 e5, u = .tuple (List.toArray (.agg #[e1, e2, e3, .int .i64 M.m.c.hand, .int .i64 M.m.g.count, .int .i64 M.m.g.next, .int .i64 M.m.g.round, e4, .int .i64 M.m.sp, e5, .int .i64 M.h] :: rs)) ∧ MeM b v e1 e2 e3 e4 e5 M
 | .tul M l rs, u, v => ∃ e1 e2 e3 e4 e5 pl, u = .tuple (List.toArray (.agg #[e1, e2, e3, .int .i64 M.m.c.hand, .int .i64 M.m.g.count, .int .i64 M.m.g.next, .int .i64 M.m.g.round, e4, .int .i64 M.m.sp, e5, .int .i64 M.h] :: pl :: rs)) ∧ MeM b v e1 e2 e3 e4 e5 M ∧ SlM intE 3 b v pl l
 | .box, u, v => ∃ g cs, u = .pointer (some ⟨g, 0, none⟩) ∧ b ≤ g ∧ cs.size = 11 ∧ Own v g 37 cs
 | .boxed M, u, v => j = si ∧ ∃ g e1 e2 e3 e4 e5, u = .pointer (some ⟨g, 0, none⟩) ∧ b ≤ g ∧ Own v g 37 #[e1, e2, e3, .int .i64 M.m.c.hand, .int .i64 M.m.g.count, .int .i64 M.m.g.next, .int .i64 M.m.g.round, e4, .int .i64 M.m.sp, e5, .int .i64 M.h] ∧ MeM b v e1 e2 e3 e4 e5 M
theorem arr11 {cs : Array Value} (h : cs.size = 11) : ∃ a0 a1 a2 a3 a4 a5 a6 a7 a8 a9 a10, cs = #[a0, a1, a2, a3, a4, a5, a6, a7, a8, a9, a10] := by
 refine ⟨cs[0], cs[1], cs[2], cs[3], cs[4], cs[5], cs[6], cs[7], cs[8], cs[9], cs[10], ?_⟩
 refine Array.ext (by simpa using h) fun i hi hj => ?_
 rcases i with _ | _ | _ | _ | _ | _ | _ | _ | _ | _ | _ | i <;> first | rfl | omega
set_option maxHeartbeats 4000000 in
theorem l7Copy_any (vb vf vl vo vk : Value) (M : Me) (w : World) (hM : MeR w vb vf vl vo vk M) (h1 : M.m.t.bs.length ≤ 1048576) (h2 : M.m.t.fs.length ≤ 1048576) (h3 : M.m.c.ls.length ≤ 1048576) (h4 : M.m.g.os.length ≤ 1048576) (h5 : M.mk.length ≤ 1048576) (h6 : 1 ≤ M.mk.length) :
  Calls Tryz.prog 50 #[.agg #[vb, vf, vl, .int .i64 M.m.c.hand, .int .i64 M.m.g.count, .int .i64 M.m.g.next, .int .i64 M.m.g.round, vo, .int .i64 M.m.sp, vk, .int .i64 M.h]] w (Post2 fun v w' => ∃ v1 v2 v3 v4 v5, v = .agg #[v1, v2, v3, .int .i64 M.m.c.hand, .int .i64 M.m.g.count, .int .i64 M.m.g.next, .int .i64 M.m.g.round, v4, .int .i64 M.m.sp, v5, .int .i64 M.h] ∧ MeM w.heap.size w' v1 v2 v3 v4 v5 M ∧ Below w.heap.size w w') := by
 obtain ⟨W0, hW, hbx, hbo, hb0, hs0⟩ := box2 w #[vb, vf, vl, .int .i64 M.m.c.hand, .int .i64 M.m.g.count, .int .i64 M.m.g.next, .int .i64 M.m.g.round, vo, .int .i64 M.m.sp, vk, .int .i64 M.h] 37 #[.slice none 0 0, .slice none 0 0, .slice none 0 0, .int .i64 0, .int .i64 0, .int .i64 0, .int .i64 0, .slice none 0 0, .int .i64 0, .slice none 0 0, .int .i64 0] 37
 have HX0 := Hd hbx
 have HO0 := Hd hbo
 have HB0 := Hd hb0
 have HM := Hd hM
 clear hbx hbo hb0 hM
 go_enter Tryz.func50, Tryz.ntmps50
 go_upto_region 1 with fail
 try rw [hW]
 clear hW
 refine wp_region_kp (by kernel_rfl) [3, 4, 5, 6, 7, 8, 9, 10, 11, 12] [3, 4, 5, 6, 7, 8, 9, 10, 11, 12, 3] 37 (fun g => g ≠ w.heap.size + 1) (w.heap.size) 10 [KP.eq (.pointer (some ⟨w.heap.size, 0, none⟩)), KP.eq (.agg #[vb, vf, vl, .int .i64 M.m.c.hand, .int .i64 M.m.g.count, .int .i64 M.m.g.next, .int .i64 M.m.g.round, vo, .int .i64 M.m.sp]), KP.ma okT_me (w.heap.size) (M.m), KP.lit okT_me (w.heap.size), KP.eq (.pointer (some ⟨w.heap.size, 9, none⟩)), KP.eq (vk), KP.bo okT_me (w.heap.size) (M.mk), KP.eq (.pointer (some ⟨w.heap.size, 10, none⟩)), KP.eq (.int .i64 M.h), KP.me okT_me (w.heap.size) (M), KP.eq (.bool true)] (fun u v => ∃ e1 e2 e3 e4 e5, Own v (w.heap.size + 1) 37 #[e1, e2, e3, .int .i64 M.m.c.hand, .int .i64 M.m.g.count, .int .i64 M.m.g.next, .int .i64 M.m.g.round, e4, .int .i64 M.m.sp, e5, .int .i64 M.h] ∧ MeM w.heap.size v e1 e2 e3 e4 e5 M) (fun v => (Below (w.heap.size) w v) ∧ (Own v (w.heap.size) 37 #[vb, vf, vl, .int .i64 M.m.c.hand, .int .i64 M.m.g.count, .int .i64 M.m.g.next, .int .i64 M.m.g.round, vo, .int .i64 M.m.sp, vk, .int .i64 M.h]) ∧ (∃ cs : Array Value, cs.size = 11 ∧ Own v (w.heap.size + 1) 37 cs)) (by kernel_rfl) rfl ⟨bD HB0.out, HX0.out.drew, ⟨_, rfl, HO0.out.drew⟩⟩ (fun v h => Nat.le_trans (by omega) h.1.size) (fun v v' ht ⟨hb, h_x, hcr⟩ => ⟨hb.trans ht.bel, ht.own _ _ (show w.heap.size ≠ w.heap.size + 1 by omega) h_x, (let ⟨cs, h1, h2⟩ := hcr; let ⟨cs', h3, h4⟩ := ht.any _ cs h2; ⟨cs', h3.trans h1, h4⟩)⟩) (fun u v v' hb ⟨e1, e2, e3, e4, e5, ho, hm⟩ => ⟨e1, e2, e3, e4, e5, ho.below hb, hm.now hb⟩) ?_ ?_
 ·intro i o ho x v hC hd K hK
  match i, ho with
  | 0, ho =>
   cases ho
   simp only [fillA, Act.put, sA9, sB9, sC9] at hK ⊢
   go_simp
   exact hK _ _ kpT_same rfl
  | 1, ho =>
   cases ho
   simp only [fillA, Act.put, sA9, sB9, sC9] at hK ⊢
   obtain ⟨hbw, hx_x, hcr⟩ := hC
   obtain ⟨z0, z1, z2, z3, z4, z5, z6, z7, z8, z9, z10⟩ := c11 hx_x
   have d0 := hd 0 ⟨⟨0, .data⟩, by simp, rfl, rfl⟩ (by decide)
   change x 3 = .pointer (some ⟨w.heap.size, 0, none⟩) at d0
   simp only [d0] at hK ⊢
   go_simp
   exact hK _ _ kpT_same rfl
  | 2, ho =>
   cases ho
   simp only [fillA, Act.put, sA9, sB9, sC9] at hK ⊢
   obtain ⟨hbw, hx_x, hcr⟩ := hC
   have d0 := hd 1 ⟨⟨1, .data⟩, by simp, rfl, rfl⟩ (by decide)
   change x 4 = .agg #[vb, vf, vl, .int .i64 M.m.c.hand, .int .i64 M.m.g.count, .int .i64 M.m.g.next, .int .i64 M.m.g.round, vo, .int .i64 M.m.sp] at d0
   simp only [d0] at hK ⊢
   go_wp2_with fail
   refine (l6Copy_any vb vf vl vo M.m _ (HM.out.m.now hbw) h1 h2 h3 h4).mono ?_
   rintro e v' ⟨_, rfl, f1, f2, f3, f4, rfl, hm1, hb⟩
   go_simp
   exact hK _ _ (kpT_below (by decide) hb) ⟨_, _, _, _, rfl, hm1.mono hbw.size⟩
  | 3, ho =>
   cases ho
   simp only [fillA, Act.put, sA9, sB9, sC9] at hK ⊢
   go_simp
   exact hK _ _ (kpT_below (by decide) (bA bR)) ⟨_, rfl, (by have := hC.1.size; omega), Own.new_ _ _ _⟩
  | 4, ho =>
   cases ho
   simp only [fillA, Act.put, sA9, sB9, sC9] at hK ⊢
   go_simp
   exact hK _ _ kpT_same rfl
  | 5, ho =>
   cases ho
   simp only [fillA, Act.put, sA9, sB9, sC9] at hK ⊢
   obtain ⟨hbw, hx_x, hcr⟩ := hC
   have z9 := hx_x.cell_ 9 (v := vk) rfl
   have d0 := hd 4 ⟨⟨4, .data⟩, by simp, rfl, rfl⟩ (by decide)
   change x 7 = .pointer (some ⟨w.heap.size, 9, none⟩) at d0
   simp only [d0] at hK ⊢
   go_simp
   exact hK _ _ kpT_same rfl
  | 6, ho =>
   cases ho
   simp only [fillA, Act.put, sA9, sB9, sC9] at hK ⊢
   obtain ⟨hbw, hx_x, hcr⟩ := hC
   have d0 := hd 3 ⟨⟨3, .data⟩, by simp, rfl, rfl⟩ (by decide)
   obtain ⟨gl, d0, hgl, hol⟩ := d0
   change x 6 = _ at d0
   have d1 := hd 5 ⟨⟨5, .data⟩, by simp, rfl, rfl⟩ (by decide)
   change x 8 = vk at d1
   simp only [d0, d1] at hK ⊢
   obtain ⟨Ak, ck, hvk, _, _, hRk⟩ := HM.out.k.now hbw
   obtain ⟨v', w', e1, e2, e3⟩ := run_copyB v gl Ak ck M.mk hRk h6 h5
   refine op_run (.tmp 6) (.tmp 8) 35 rfl _ _ v' w' rfl hvk e1 ?_
   exact hK _ _ (kpT_below (by decide) e3) (e2.mono hbw.size)
  | 7, ho =>
   cases ho
   simp only [fillA, Act.put, sA9, sB9, sC9] at hK ⊢
   go_simp
   exact hK _ _ kpT_same rfl
  | 8, ho =>
   cases ho
   simp only [fillA, Act.put, sA9, sB9, sC9] at hK ⊢
   obtain ⟨hbw, hx_x, hcr⟩ := hC
   have z10 := hx_x.cell_ 10 (v := .int .i64 M.h) rfl
   have d0 := hd 7 ⟨⟨7, .data⟩, by simp, rfl, rfl⟩ (by decide)
   change x 10 = .pointer (some ⟨w.heap.size, 10, none⟩) at d0
   simp only [d0] at hK ⊢
   go_simp
   exact hK _ _ kpT_same rfl
  | 9, ho =>
   cases ho
   simp only [fillA, Act.put, sA9, sB9, sC9] at hK ⊢
   have d0 := hd 2 ⟨⟨2, .data⟩, by simp, rfl, rfl⟩ (by decide)
   obtain ⟨e1, e2, e3, e4, d0, hmX⟩ := d0
   change x 5 = _ at d0
   have d1 := hd 6 ⟨⟨6, .data⟩, by simp, rfl, rfl⟩ (by decide)
   obtain ⟨Ab, cb, d1, hcb, hmb, hRb⟩ := d1
   change x 9 = _ at d1
   have d2 := hd 8 ⟨⟨8, .data⟩, by simp, rfl, rfl⟩ (by decide)
   change x 11 = .int .i64 M.h at d2
   simp only [d0, d1, d2] at hK ⊢
   go_simp
   exact hK _ _ kpT_same ⟨_, _, _, _, _, rfl, hmX, ⟨_, _, rfl, hcb, hmb, hRb⟩⟩
  | 10, ho =>
   cases ho
   simp only [fillA, Act.put, sA9, sB9, sC9] at hK ⊢
   obtain ⟨hbw, hx_x, cs, hcs, hob⟩ := hC
   have d1 := hd 9 ⟨⟨9, .data⟩, by simp, rfl, rfl⟩ (by decide)
   obtain ⟨e1, e2, e3, e4, e5, d1, hmX⟩ := d1
   change x 12 = _ at d1
   obtain ⟨A1, c1, rfl, _⟩ := hmX.m.t.b
   obtain ⟨A2, c2, rfl, _⟩ := hmX.m.t.f
   obtain ⟨A3, c3, rfl, _⟩ := hmX.m.l
   obtain ⟨A4, c4, rfl, _⟩ := hmX.m.o
   obtain ⟨A5, c5, rfl, _⟩ := id hmX.k
   obtain ⟨a0, a1, a2, a3, a4, a5, a6, a7, a8, a9, a10, rfl⟩ := arr11 hcs
   obtain ⟨q0y, q1y, q2y, q3y, q4y, q5y, q6y, q7y, q8y, q9y, q10y⟩ := c11 hob
   obtain ⟨z0y, z1y, z2y, z3y, z4y, z5y, z6y, z7y, z8y, z9y, z10y⟩ := f11 hob
   have hlo := hob.lt
   simp only [d1] at hK ⊢
   go_simp
   have hS : tS 37 (fun g => g ≠ w.heap.size + 1) w.heap.size v (sets (w.heap.size + 1) 0 [.slice A1 M.m.t.bs.length c1, .slice A2 M.m.t.fs.length c2, .slice A3 M.m.c.ls.length c3, .int .i64 M.m.c.hand, .int .i64 M.m.g.count, .int .i64 M.m.g.next, .int .i64 M.m.g.round, .slice A4 M.m.g.os.length c4, .int .i64 M.m.sp, .slice A5 M.mk.length c5, .int .i64 M.h] v) := tS.sets hob (by omega) (by simp) 0 _
   exact hK undef _ (kpT_store hS) ⟨_, _, _, _, _, set11 hob (.slice A1 M.m.t.bs.length c1) (.slice A2 M.m.t.fs.length c2) (.slice A3 M.m.c.ls.length c3) (.int .i64 M.m.c.hand) (.int .i64 M.m.g.count) (.int .i64 M.m.g.next) (.int .i64 M.m.g.round) (.slice A4 M.m.g.os.length c4) (.int .i64 M.m.sp) (.slice A5 M.mk.length c5) (.int .i64 M.h), hmX.tS okT_me hS⟩
  | _ + 11, ho => simp at ho
 intro xa wz hC hd
 obtain ⟨e1, e2, e3, e4, e5, ho, hm⟩ := hd 10 (by decide)
 have HBZ := Hd hC.1
 simp only [fillA, Act.put, sA9, sB9, sC9]
 obtain ⟨q0t, q1t, q2t, q3t, q4t, q5t, q6t, q7t, q8t, q9t, q10t⟩ := c11 ho
 clear hd hC
 go_wp2
 refine bodyPost_ret (v := .agg #[e1, e2, e3, .int .i64 M.m.c.hand, .int .i64 M.m.g.count, .int .i64 M.m.g.next, .int .i64 M.m.g.round, e4, .int .i64 M.m.sp, e5, .int .i64 M.h]) (by simp [results, Tryz.results50, go_sem, q0t, q1t, q2t, q3t, q4t, q5t, q6t, q7t, q8t, q9t, q10t]) rfl ⟨_, rfl, _, _, _, _, _, rfl, hm, HBZ.out⟩
end Go.Proofs.YtfbnokjdkhcgoaaGreatDoor
