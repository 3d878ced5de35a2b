/- A part of the proofs of this seat: Dpr, Mk, Mk2, Oth, Reg, RelD, Sz, TchP, W3, W4, W5. -/
import Derived.Deep.RegionHeldLaw
import Derived.StillTailTactics
import Derived.Deep.LoopGhost
import Derived.Below
import Derived.Test.YtibpnlojlfcpmaaGreatDoorRMa2
set_option linter.unusedVariables false
set_option linter.unusedSimpArgs false
set_option maxRecDepth 1000000
namespace Go.Proofs.YtibpnlojlfcpmaaGreatDoor
open Go.RowKit
structure Tch (lo hi : Nat) (w w' : World) : Prop where
 os : w'.os = w.os
 tape : w'.tape = w.tape
 output : w'.output = w.output
 size : w.heap.size ≤ w'.heap.size
 block : ∀ k : Nat, k < w.heap.size → ¬ (lo ≤ k ∧ k < hi) → w'.heap[k]? = w.heap[k]?
section
variable {lo hi : Nat} {w w' w'' a : World}
theorem Tch.trans (h : Tch lo hi w w') (k : Tch lo hi w' w'') : Tch lo hi w w'' :=
 ⟨k.os.trans h.os, k.tape.trans h.tape, k.output.trans h.output, Nat.le_trans h.size k.size, fun j hj hn => (k.block j (Nat.lt_of_lt_of_le hj h.size) hn).trans (h.block j hj hn)⟩
theorem Tch.grown {r : Option Nat} (h : w.grownBy w' r) (hr : ∀ k, r = some k → lo ≤ k ∧ k < hi) : Tch lo hi w w' :=
 ⟨h.os, h.tape, h.output, h.size, fun j hj hn => h.block j hj (fun e => hn (hr j e.symm))⟩
theorem Tch.of_below (h : Below w.heap.size w w') : Tch lo hi w w' := ⟨h.os, h.tape, h.output, h.size, fun j hj _ => h.block j hj⟩
theorem Tch.below (h : Tch lo hi w w') (hb : Below a.heap.size a w) (hl : a.heap.size ≤ lo) : Below a.heap.size a w' :=
 ⟨h.os.trans hb.os, h.tape.trans hb.tape, h.output.trans hb.output, Nat.le_trans hb.size h.size, fun j hj => (h.block j (Nat.lt_of_lt_of_le hj hb.size) (by omega)).trans (hb.block j hj)⟩
end
def rowOf (n : Nat) (A : Option Addr) : Option Nat := if n = 0 then none else A.map (·.block)
theorem rowOf_some {n g : Nat} {o : Nat} (h : n ≠ 0) : rowOf n (some ⟨g, o, none⟩) = some g := by unfold rowOf; rw [if_neg h]; rfl
theorem MineE.row {α : Type} {E : Enc α} {e : TypeId} {B : Nat} {w : World} {A : Option Addr} {l : List α} (h : MineE E e B w A l) : ∀ k, rowOf l.length A = some k → B ≤ k ∧ k < w.heap.size := by
 intro k hk
 unfold rowOf at hk
 split at hk
 ·cases hk
 ·obtain ⟨g, cs, rfl, hb, ho, _⟩ := h.own (by omega)
  have := ho.lt
  simp at hk
  omega
def mkE (b : Nat → Bool) (sz : Nat) (k0 : Int) (i : Nat) : Value := if b (i % sz) = true then .bool ((k0 + (i : Int)) % 3 == 0) else .int .i64 (k0 + (i : Int))
structure Mk (f : Nat → Value) (sz : Nat) (e : TypeId) (w : World) (A : Option Addr) (n : Nat) : Prop where
 own : 0 < n → ∃ g cs, A = some ⟨g, 0, none⟩ ∧ Own w g e cs ∧ n * sz ≤ cs.size ∧ ∀ i, i < n * sz → cs[i]? = some (f i)
theorem Mk.now {f : Nat → Value} {sz : Nat} {e : TypeId} {w w' : World} {A : Option Addr} {n : Nat} (h : Mk f sz e w A n) (hb : Below w.heap.size w w') : Mk f sz e w' A n :=
 ⟨fun hn => let ⟨g, cs, e, ho, hs, hc⟩ := h.own hn; ⟨g, cs, e, ho.below hb, hs, hc⟩⟩
theorem Mk.other {f : Nat → Value} {sz : Nat} {e e' : TypeId} {w w' : World} {A A' : Option Addr} {n n' : Nat} (h : Mk f sz e w A n) (hg : w.grownBy w' (rowOf n' A')) (ho : 0 < n' → ∃ g cs, A' = some ⟨g, 0, none⟩ ∧ Own w g e' cs) (hne : e ≠ e') : Mk f sz e w' A n := by
 refine ⟨fun hn => ?_⟩
 obtain ⟨g, cs, e1, o1, hs, hc⟩ := h.own hn
 refine ⟨g, cs, e1, (hg.block g o1.lt (fun hk => ?_)).trans o1, hs, hc⟩
 by_cases h0 : n' = 0
 ·rw [h0] at hk; cases hk
 ·obtain ⟨g', cs', rfl, o2⟩ := ho (by omega)
  rw [rowOf_some h0] at hk
  injection hk with hk
  subst hk
  have h3 := o1.symm.trans o2
  injection h3 with h3
  injection h3 with _ h3
  exact hne h3
def bInt : Nat → Bool := (fun d => false)
def bFrame : Nat → Bool := (fun d => d == 0)
def bLine : Nat → Bool := (fun d => d == 0 || d == 5)
def bOwn : Nat → Bool := (fun d => false)
def Oth (p : TypeId → Prop) (w w' : World) : Prop := w.heap.size ≤ w'.heap.size ∧ ∀ (g : Nat) (e : TypeId) (cs : Array Value), Own w g e cs → ¬ p e → Own w' g e cs
section
variable {p : TypeId → Prop} {w w' w'' : World} {e e' : TypeId} {A : Option Addr} {n : Nat}
theorem Oth.trans {q : TypeId → Prop} (h : Oth p w w') (k : Oth q w' w'') : Oth (fun e => p e ∨ q e) w w'' :=
 ⟨Nat.le_trans h.1 k.1, fun g e cs o hn => k.2 g e cs (h.2 g e cs o (fun x => hn (.inl x))) (fun x => hn (.inr x))⟩
theorem Oth.of_below (h : Below w.heap.size w w') : Oth p w w' := ⟨h.size, fun _ _ _ o _ => o.below h⟩
theorem Oth.far (h : Oth p w' w'') (hb : Below w.heap.size w w') : Oth p w w'' := ⟨Nat.le_trans hb.size h.1, fun g e cs o hn => h.2 g e cs (o.below hb) hn⟩
theorem MineE.oth {α : Type} {E : Enc α} {B : Nat} {l : List α} (h : MineE E e B w A l) (hg : Oth p w w') (hne : ¬ p e) : MineE E e B w' A l := by
 refine ⟨⟨h.is.len, fun hn => ?_⟩, fun hl => ?_⟩
 ·obtain ⟨g, cs, rfl, hbg, ho, _⟩ := h.own hn
  obtain ⟨b, o, e, hb, hc⟩ := h.is.at_ hn
  injection e with e
  injection e with e1 e2
  subst e1 e2
  have := hg.1
  refine ⟨g, 0, rfl, by omega, fun j u hu => ?_⟩
  have hh := hc j u hu
  rw [ho.cell] at hh
  rw [(hg.2 g _ cs ho hne).cell]
  exact hh
 ·obtain ⟨g, cs, e, hbg, ho, hs⟩ := h.own hl
  exact ⟨g, cs, e, hbg, hg.2 g _ cs ho hne, hs⟩
end
theorem MaM.oth {b : Nat} {w w' : World} {p : TypeId → Prop} {v1 v2 v3 v4 : Value} {m : Ma} (h : MaM b w v1 v2 v3 v4 m) (ho : Oth p w w') (h1 : ¬ p 3) (h2 : ¬ p 66) (h3 : ¬ p 129) (h4 : ¬ p 126) : MaM b w' v1 v2 v3 v4 m := by
 obtain ⟨⟨⟨A1, c1, r1, l1, k1, m1⟩, ⟨A2, c2, r2, l2, k2, m2⟩⟩, ⟨A3, c3, r3, l3, k3, m3⟩, ⟨A4, c4, r4, l4, k4, m4⟩⟩ := h
 exact ⟨⟨⟨A1, c1, r1, l1, k1, m1.oth ho h1⟩, ⟨A2, c2, r2, l2, k2, m2.oth ho h2⟩⟩, ⟨A3, c3, r3, l3, k3, m3.oth ho h3⟩, ⟨A4, c4, r4, l4, k4, m4.oth ho h4⟩⟩
theorem SlM.oth {α : Type} {E : Enc α} {e : TypeId} {b : Nat} {w w' : World} {v : Value} {l : List α} {p : TypeId → Prop} (h : SlM E e b w v l) (ho : Oth p w w') (he : ¬ p e) : SlM E e b w' v l :=
 let ⟨A, c, h1, h2, h3, h4⟩ := h; ⟨A, c, h1, h2, h3, h4.oth ho he⟩
def stS (ty : TypeId) (n : Nat) (v v' : World) : Prop := Oth (fun e => e = ty) v v' ∧ ∀ (g : Nat) (cs : Array Value), cs.size = n → Own v g ty cs → ∃ cs' : Array Value, cs'.size = n ∧ Own v' g ty cs'
theorem stS_set {ty : TypeId} {n : Nat} {v : World} {g i : Nat} {cs : Array Value} {u : Value} (ho : Own v g ty cs) : stS ty n v (v.setCell ⟨g, i, none⟩ u) := by
 have same : ∀ (g' : Nat) (e : TypeId) (cs' : Array Value), Own v g' e cs' → g' = g → e = ty ∧ cs' = cs := by
  rintro g' e cs' h rfl
  unfold Own at h ho
  rw [ho] at h
  injection h with h
  injection h with h1 h2
  exact ⟨h2.symm, h1.symm⟩
 refine ⟨⟨by simp, fun g' e cs' h hne => ?_⟩, fun g' cs' hn h => ?_⟩
 ·by_cases hg : g' = g
  ·exact absurd (same g' e cs' h hg).1 hne
  ·exact h.far hg
 ·by_cases hg : g' = g
  ·subst hg
   obtain ⟨_, rfl⟩ := same g' ty cs' h rfl
   exact ⟨_, by simpa using hn, ho.set_ i u⟩
  ·exact ⟨cs', hn, h.far hg⟩
section
variable {p : TypeId → Prop} {w w' w'' : World} {e e' : TypeId} {A : Option Addr} {n : Nat}
theorem Mk.oth {f : Nat → Value} {sz : Nat} (h : Mk f sz e w A n) (hg : Oth p w w') (hne : ¬ p e) : Mk f sz e w' A n :=
 ⟨fun hn => let ⟨g, cs, e1, o1, hs, hc⟩ := h.own hn; ⟨g, cs, e1, hg.2 g _ cs o1 hne, hs, hc⟩⟩
end
structure MkM (k0 : Int) (w : World) (A1 A2 A3 A4 : Option Addr) (n1 n2 n3 n4 : Nat) : Prop where
 b : Mk (mkE bInt 1 k0) 1 3 w A1 n1
 f : Mk (mkE bFrame 5 (k0 + (n1 : Int))) 5 66 w A2 n2
 l : Mk (mkE bLine 6 (k0 + (n1 : Int) + 5 * (n2 : Int))) 6 129 w A3 n3
 o : Mk (mkE bOwn 2 (k0 + (n1 : Int) + 5 * (n2 : Int) + 6 * (n3 : Int))) 2 126 w A4 n4
theorem MkM.now {k0 : Int} {w w' : World} {A1 A2 A3 A4 : Option Addr} {n1 n2 n3 n4 : Nat} (h : MkM k0 w A1 A2 A3 A4 n1 n2 n3 n4) (hb : Below w.heap.size w w') : MkM k0 w' A1 A2 A3 A4 n1 n2 n3 n4 := ⟨h.b.now hb, h.f.now hb, h.l.now hb, h.o.now hb⟩
theorem tlast_top {os : List (Int × Int)} {n : Int} : ∀ {k : Nat}, tok os n k = true → ∀ (j : Nat) (q : Int × Int), j < k → os[j]? = some q → q.2 ≤ tlast os k
  | 0, _, j, q, hj, _ => absurd hj (by omega)
  | k + 1, h, j, q, hj, e => by
    obtain ⟨o, eo, _, _, _, h1, _⟩ := tok_at h (Nat.lt_succ_self k)
    have h2 : tok os n k = true := by unfold tok at h; rw [Bool.and_eq_true] at h; exact h.1
    rw [tlast_of eo]
    rcases Nat.lt_or_ge j k with hlt | hge
    · have := tlast_top h2 j q hlt e
      omega
    · obtain rfl : j = k := by omega
      rw [eo] at e
      injection e with e
      rw [e]; exact Int.le_refl _
theorem tok_pre {os : List (Int × Int)} {n : Int} {m : Nat} : ∀ {k : Nat}, k ≤ m → tok os n m = true → tok os n k = true := by
 induction m with
 | zero =>
  intro k hk h
  obtain rfl : k = 0 := by omega
  rfl
 | succ m ih =>
  intro k hk h
  rcases Nat.lt_or_ge k (m + 1) with hlt | hge
  ·exact ih (by omega) (by unfold tok at h; rw [Bool.and_eq_true] at h; exact h.1)
  ·obtain rfl : k = m + 1 := by omega
   exact h
theorem spc_own {g : Tg} (hg : tgv g = true) {k : Nat} {o : Int × Int} (eo : g.os[k]? = some o) : spc g.os o.2 = some k := by
 obtain ⟨_, ht⟩ := tgv_parts hg
 have hk := (List.getElem?_eq_some_iff.1 eo).1
 refine spc_at eo (fun j q hj e hq => ?_) rfl
 obtain ⟨o', eo', _, _, _, h1, _⟩ := tok_at ht hk
 rw [eo] at eo'
 injection eo' with eo'
 have := tlast_top (tok_pre (Nat.le_of_lt hk) ht) j q hj e
 rw [eo'] at hq
 omega
theorem MV.tag {m : Ma} (M : MV m) (p : Int) : ((128 ≤ p) ↔ tagT m m.sp p = -1) ∧ (∀ x : Ln, x.p = p → x.t = tagT m m.sp p → ∃ s, lnSp m x = some s ∧ keyI s p = keyI m.sp p) := by
 obtain ⟨k, o, hk, eo, ho⟩ := ownI_lt M.o
 obtain ⟨b1, b2⟩ := tgO_yes M.g hk eo
 obtain ⟨_, ht⟩ := tgv_parts M.g
 obtain ⟨o', eo', _, q1, q2, _⟩ := tok_at ht (List.getElem?_eq_some_iff.1 eo).1
 rw [eo] at eo'
 injection eo' with eo'
 subst eo'
 by_cases h : 128 ≤ p
 ·have e1 : tagT m m.sp p = -1 := if_pos h
  refine ⟨⟨fun _ => e1, fun _ => h⟩, fun x hx _ => ⟨0, lnSp_sh (by rw [hx]; exact h), ?_⟩⟩
  unfold keyI
  rw [if_pos h, if_pos h]
 ·have e1 : tagT m m.sp p = o.2 := by unfold tagT; rw [if_neg h, b2]
  refine ⟨⟨fun h' => absurd h' h, fun h' => by rw [e1] at h'; omega⟩, fun x hx hxt => ⟨m.sp, ?_, rfl⟩⟩
  unfold lnSp
  rw [if_neg (by rw [hx]; exact h), hxt, e1, spc_own M.g eo]
  simp only
  rw [List.getD_eq_getElem?_getD, eo]
  simp only [Option.getD_some]
  rw [ho]
theorem gr_below {w w' : World} {g : Nat} (hb : Below w.heap.size w w') : w.grownBy w' (some g) := ⟨hb.os, hb.tape, hb.output, hb.size, fun k hk _ => hb.block k hk⟩
theorem rdr_below {B : Nat} {w w' : World} {g p : Nat} (h : Rdr B w g p) (hb : Below w.heap.size w w') : Rdr B w' g p := rdr_grown h ⟨hb.os, hb.tape, hb.output, hb.size, fun k hk _ => hb.block k hk⟩
theorem oth_gr {w w' : World} {g : Nat} {ty : TypeId} {cs : Array Value} (hg : w.grownBy w' (some g)) (ho : Own w g ty cs) : Oth (fun e => e = ty) w w' := by
 refine ⟨hg.size, fun g' e cs' h hne => (hg.block g' h.lt ?_).trans h⟩
 intro hh
 injection hh with hh
 subst hh
 unfold Own at h ho
 rw [ho] at h
 injection h with h
 injection h with _ h2
 exact hne h2.symm
theorem MaM.gr {B B' : Nat} {w w' : World} {g p : Nat} {v1 v2 v3 v4 : Value} {m : Ma} (h : MaM B w v1 v2 v3 v4 m) (hr : Rdr B' w g p) (hg : w.grownBy w' (some g)) : MaM B w' v1 v2 v3 v4 m := by
 obtain ⟨A, n, c, ho, _⟩ := hr.ok
 exact h.oth (oth_gr hg ho) (by decide) (by decide) (by decide) (by decide)
structure KD (S : World → World → Prop) (si : Nat) where
 P : Nat → Value → World → Prop
 kb : ∀ (j : Nat) (u : Value) (v v' : World), P j u v → Below v.heap.size v v' → P j u v'
 ks : ∀ (j : Nat) (u : Value) (v v' : World), j ≠ si → P j u v → S v v' → P j u v'
section
variable {ty : TypeId} {n si : Nat}
def KD.eq (u0 : Value) : KD (stS ty n) si where
 P := fun _ u _ => u = u0
 kb := fun _ _ _ _ h _ => h
 ks := fun _ _ _ _ _ h _ => h
def KD.row {α : Type} (E : Enc α) (e : TypeId) (b : Nat) (l : List α) (he : e ≠ ty) (f : Value → Value) : KD (stS ty n) si where
 P := fun _ u v => ∃ v1, u = f v1 ∧ SlM E e b v v1 l
 kb := fun _ _ _ _ ⟨v1, h1, h2⟩ hb => ⟨v1, h1, h2.now hb⟩
 ks := fun _ _ _ _ _ ⟨v1, h1, h2⟩ hs => ⟨v1, h1, h2.oth hs.1 he⟩
def KD.box (b : Nat) : KD (stS ty n) si where
 P := fun _ u v => ∃ (g : Nat) (cs : Array Value), u = .pointer (some ⟨g, 0, none⟩) ∧ b ≤ g ∧ cs.size = n ∧ Own v g ty cs
 kb := fun _ _ _ _ ⟨g, cs, h1, h2, h3, h4⟩ hb => ⟨g, cs, h1, h2, h3, h4.below hb⟩
 ks := fun _ _ _ _ _ ⟨g, cs, h1, h2, h3, h4⟩ hs => let ⟨cs', e1, e2⟩ := hs.2 g cs h3 h4; ⟨g, cs', h1, h2, e1, e2⟩
def KD.boxed {α : Type} (E : Enc α) (e : TypeId) (b : Nat) (l : List α) (f : Value → Array Value) : KD (stS ty n) si where
 P := fun j u v => j = si ∧ ∃ (g : Nat) (v1 : Value), u = .pointer (some ⟨g, 0, none⟩) ∧ b ≤ g ∧ Own v g ty (f v1) ∧ SlM E e b v v1 l
 kb := fun _ _ _ _ ⟨hj, g, v1, h1, h2, h3, h4⟩ hb => ⟨hj, g, v1, h1, h2, h3.below hb, h4.now hb⟩
 ks := fun _ _ _ _ hne ⟨hj, _⟩ _ => absurd hj hne
end
def small (n : Int) : Prop := -1000 ≤ n ∧ n ≤ 1000001
theorem g_set {w0 w : World} {r : Option Nat} {b i : Nat} {u : Value} (hb : w0.heap.size ≤ b) (h : w0.grownBy w r) : w0.grownBy (w.setCell ⟨b, i, none⟩ u) r :=
 ⟨h.os, h.tape, h.output, by simpa using h.size, fun k hk hne => (Below.heap_setCell w _ u k (by intro e; have e : k = b := e; omega)).trans (h.block k hk hne)⟩
theorem rdr_set1 {B : Nat} {w : World} {g p b i : Nat} {u : Value} (hb : g < b) (h : Rdr B w g p) : Rdr B (w.setCell ⟨b, i, none⟩ u) g p := by
 have hl := rdr_lt h
 exact rdr_grownb h ⟨rfl, rfl, rfl, by simp, fun k hk hne => Below.heap_setCell w _ u k (by rintro rfl; exact hne rfl)⟩ hb
def cn (D : Nat → Bool) : List Nat → Nat
 | [] => 0
 | a :: l => (if D a = true then 1 else 0) + cn D l
theorem cn_same {D : Nat → Bool} {i : Nat} : ∀ {l : List Nat}, i ∉ l → cn (fun j => if j = i then true else D j) l = cn D l
  | [], _ => rfl
  | a :: l, h => by
    have h1 : a ≠ i := fun e => h (by simp [e])
    unfold cn
    rw [cn_same (fun h2 => h (by simp [h2])), if_neg h1]
theorem cn_more {D : Nat → Bool} {i : Nat} (hD : D i = false) : ∀ {l : List Nat}, i ∈ l → l.Nodup → cn (fun j => if j = i then true else D j) l = cn D l + 1
  | [], h, _ => by simp at h
  | a :: l, h, hn => by
    obtain ⟨h1, h2⟩ := List.nodup_cons.1 hn
    unfold cn
    by_cases ha : a = i
    · subst ha
      rw [cn_same h1, if_pos rfl, hD]
      simp; omega
    · rw [cn_more hD (by simp at h; rcases h with h | h; exact absurd h.symm ha; exact h) h2, if_neg ha]
      omega
abbrev othR (v v' : World) : Prop := Oth (fun e => e = 172) v v'
structure KX (si : Nat) where
 rd : List Nat
 P : Nat → (Nat → Value) → World → Prop
 loc : ∀ j x y v, (∀ s ∈ rd, x s = y s) → P j x v → P j y v
 kb : ∀ j x v v', P j x v → othR v v' → P j x v'
 ks : ∀ j x v v', j ≠ si → P j x v → stS 48 9 v v' → P j x v'
section
variable {si : Nat}
def KX.eq (s : Nat) (u0 : Value) : KX si where
 rd := [s]
 P := fun _ x _ => x s = u0
 loc := fun _ x y _ h hp => by rw [← h s (by simp)]; exact hp
 kb := fun _ _ _ _ h _ => h
 ks := fun _ _ _ _ _ h _ => h
def KX.lit (s : Nat) (cs : Array Value) (n : Nat) : KX si where
 rd := [s]
 P := fun _ x v => ∃ gg : Nat, x s = .slice (some ⟨gg, 0, none⟩) n n ∧ Own v gg 3 cs
 loc := fun _ x y _ h hp => by rw [← h s (by simp)]; exact hp
 kb := fun _ _ _ _ ⟨gg, h1, h2⟩ ho => ⟨gg, h1, ho.2 _ _ _ h2 (by decide)⟩
 ks := fun _ _ _ _ _ ⟨gg, h1, h2⟩ hs => ⟨gg, h1, hs.1.2 _ _ _ h2 (by decide)⟩
def KX.tup (s B : Nat) (f : Ma → Value → Value → Value → Value → Value → Prop) : KX si where
 rd := [s]
 P := fun _ x v => ∃ (m : Ma) (e1 e2 e3 e4 : Value), f m e1 e2 e3 e4 (x s) ∧ MaM B v e1 e2 e3 e4 m
 loc := fun _ x y _ h hp => by rw [← h s (by simp)]; exact hp
 kb := fun _ _ _ _ ⟨m, e1, e2, e3, e4, h1, h2⟩ ho => ⟨m, e1, e2, e3, e4, h1, h2.oth ho (by decide) (by decide) (by decide) (by decide)⟩
 ks := fun _ _ _ _ _ ⟨m, e1, e2, e3, e4, h1, h2⟩ hs => ⟨m, e1, e2, e3, e4, h1, h2.oth hs.1 (by decide) (by decide) (by decide) (by decide)⟩
def KX.part (t s i : Nat) : KX si where
 rd := [t, s]
 P := fun _ x _ => ∃ vs : Array Value, x t = .tuple vs ∧ vs[i]? = some (x s)
 loc := fun _ x y _ h hp => by rw [← h s (by simp), ← h t (by simp)]; exact hp
 kb := fun _ _ _ _ h _ => h
 ks := fun _ _ _ _ _ h _ => h
def KX.box (s b : Nat) : KX si where
 rd := [s]
 P := fun _ x v => ∃ (gb : Nat) (cs : Array Value), x s = .pointer (some ⟨gb, 0, none⟩) ∧ b ≤ gb ∧ cs.size = 9 ∧ Own v gb 48 cs
 loc := fun _ x y _ h hp => by rw [← h s (by simp)]; exact hp
 kb := fun _ _ _ _ ⟨gb, cs, h1, h2, h3, h4⟩ ho => ⟨gb, cs, h1, h2, h3, ho.2 _ _ _ h4 (by decide)⟩
 ks := fun _ _ _ _ _ ⟨gb, cs, h1, h2, h3, h4⟩ hs => let ⟨cs', e1, e2⟩ := hs.2 gb cs h3 h4; ⟨gb, cs', h1, h2, e1, e2⟩
def KX.put (t nb B : Nat) (f : Ma → Value → Value → Value → Value → Value → Prop) : KX si where
 rd := [t]
 P := fun j x v => j = si ∧ ∃ (m : Ma) (e1 e2 e3 e4 : Value), f m e1 e2 e3 e4 (x t) ∧ MaM B v e1 e2 e3 e4 m ∧ Own v nb 48 #[e1, e2, e3, .int .i64 m.c.hand, .int .i64 m.g.count, .int .i64 m.g.next, .int .i64 m.g.round, e4, .int .i64 m.sp]
 loc := fun _ x y _ h hp => by rw [← h t (by simp)]; exact hp
 kb := fun _ _ _ _ ⟨hj, m, e1, e2, e3, e4, h3, h4, h5⟩ ho => ⟨hj, m, e1, e2, e3, e4, h3, h4.oth ho (by decide) (by decide) (by decide) (by decide), ho.2 _ _ _ h5 (by decide)⟩
 ks := fun _ _ _ _ hne ⟨hj, _⟩ _ => absurd hj hne
end
structure DC (B : Nat) (w : World) (g q : Nat) (F : List (Nat × TypeId × Array Value)) (vb vf vl vo : Value) (m : Ma) (v : World) : Prop where
 rd : Rdr B v g q
 gr : w.grownBy v (some g)
 mm : MaM B v vb vf vl vo m
 ob : ∀ e ∈ F, Own v e.1 e.2.1 e.2.2
 ty : ∀ e ∈ F, e.2.1 ≠ 172
section
variable {B g q : Nat} {F : List (Nat × TypeId × Array Value)} {w : World} {vb vf vl vo : Value} {m : Ma} {v v' : World}
theorem DC.below (h : DC B w g q F vb vf vl vo m v) (hb : Below v.heap.size v v') : DC B w g q F vb vf vl vo m v' :=
 ⟨rdr_below h.rd hb, gT h.gr (gr_below hb), h.mm.now hb, fun e he => (h.ob e he).below hb, h.ty⟩
theorem DC.oth (h : DC B w g q F vb vf vl vo m v) (hg : v.grownBy v' (some g)) : othR v v' := by
 obtain ⟨A, n, c, ho, _⟩ := h.rd.ok
 exact oth_gr hg ho
theorem DC.set1 (h : DC B w g q F vb vf vl vo m v) {b i : Nat} {u : Value} (hw : w.heap.size ≤ b) (hg : g < w.heap.size) (hm : ∀ e ∈ F, e.1 ≠ b) {cs : Array Value} (ho : Own v b 48 cs) : DC B w g q F vb vf vl vo m (v.setCell ⟨b, i, none⟩ u) :=
 ⟨rdr_set1 (by omega) h.rd, g_set hw h.gr, h.mm.farT ho, fun e he => (h.ob e he).far (hm e he), h.ty⟩
theorem DC.set9 (h : DC B w g q F vb vf vl vo m v) {b : Nat} (hw : w.heap.size ≤ b) (hg : g < w.heap.size) (hm : ∀ e ∈ F, e.1 ≠ b) {cs : Array Value} (ho : Own v b 48 cs) (u0 u1 u2 u3 u4 u5 u6 u7 u8 : Value) :
  DC B w g q F vb vf vl vo m (((((((((v.setCell ⟨b, 0, none⟩ u0).setCell ⟨b, 1, none⟩ u1).setCell ⟨b, 2, none⟩ u2).setCell ⟨b, 3, none⟩ u3).setCell ⟨b, 4, none⟩ u4).setCell ⟨b, 5, none⟩ u5).setCell ⟨b, 6, none⟩ u6).setCell ⟨b, 7, none⟩ u7).setCell ⟨b, 8, none⟩ u8) := by
 have o1 := ho.set_ 0 u0
 have o2 := o1.set_ 1 u1
 have o3 := o2.set_ 2 u2
 have o4 := o3.set_ 3 u3
 have o5 := o4.set_ 4 u4
 have o6 := o5.set_ 5 u5
 have o7 := o6.set_ 6 u6
 have o8 := o7.set_ 7 u7
 exact ((((((((h.set1 hw hg hm ho).set1 hw hg hm o1).set1 hw hg hm o2).set1 hw hg hm o3).set1 hw hg hm o4).set1 hw hg hm o5).set1 hw hg hm o6).set1 hw hg hm o7).set1 hw hg hm o8
theorem DC.own (h : DC B w g q F vb vf vl vo m v) {b : Nat} {t : TypeId} {cs : Array Value} (he : (b, t, cs) ∈ F) : Own v b t cs := h.ob _ he
end
def CX (B : Nat) (w : World) (g q : Nat) (F : List (Nat × TypeId × Array Value)) (vb vf vl vo : Value) (m : Ma) (l : List Nat) (si : Nat) (nb : Option Nat) (D : Nat → Bool) (v : World) : Prop :=
 DC B w g (q + cn D l) F vb vf vl vo m v ∧ (∀ b, nb = some b → D si = false → ∃ cs : Array Value, cs.size = 9 ∧ Own v b 48 cs)
section
variable {B g q si i : Nat} {w v v' : World} {F : List (Nat × TypeId × Array Value)} {vb vf vl vo : Value} {m : Ma} {l : List Nat} {nb : Option Nat} {D : Nat → Bool}
theorem upd_f (hs : i ≠ si) (h : (fun j => if j = i then true else D j) si = false) : D si = false := by
 simp only at h
 rw [if_neg (fun e => hs e.symm)] at h
 exact h
theorem CX.same (h : CX B w g q F vb vf vl vo m l si nb D v) (hi : i ∉ l) (hs : i ≠ si) : CX B w g q F vb vf vl vo m l si nb (fun j => if j = i then true else D j) v := by
 unfold CX
 rw [cn_same hi]
 exact ⟨h.1, fun b hb hd => h.2 b hb (upd_f hs hd)⟩
theorem CX.below (h : CX B w g q F vb vf vl vo m l si nb D v) (hb : Below v.heap.size v v') (hi : i ∉ l) (hs : i ≠ si) : CX B w g q F vb vf vl vo m l si nb (fun j => if j = i then true else D j) v' := by
 unfold CX
 rw [cn_same hi]
 exact ⟨h.1.below hb, fun b hn hd => let ⟨cs, h1, h2⟩ := h.2 b hn (upd_f hs hd); ⟨cs, h1, h2.below hb⟩⟩
end
theorem SlM.gr {α : Type} {E : Enc α} {e : TypeId} {B B' : Nat} {w w' : World} {g p : Nat} {v : Value} {l : List α} (h : SlM E e B w v l) (hr : Rdr B' w g p) (hg : w.grownBy w' (some g)) (hne : 172 ≠ e) : SlM E e B w' v l := by
 obtain ⟨A, n, c, ho, _⟩ := hr.ok
 exact h.oth (oth_gr hg ho) (fun h => hne h.symm)
theorem rdr_far {B : Nat} {w : World} {g p b i : Nat} {u : Value} (h : Rdr B w g p) (hne : g ≠ b) (hB : B ≤ b) : Rdr B (w.setCell ⟨b, i, none⟩ u) g p := by
 obtain ⟨Ar, nr, cr, hor, hby, hn, hBg⟩ := h.ok
 exact ⟨Ar, nr, cr, hor.far hne, hby.keep fun q hq => World.cell?_setCell_other w ⟨b, i, none⟩ q _ (fun e => by subst e; exact absurd hq (by simp; omega)), hn, hBg⟩
def C5 (B g q rb gb : Nat) (t : Tg) (A2 : Option Addr) (c2 : Nat) (w : World) (D : Nat → Bool) (v : World) : Prop :=
 Rdr B v g (q + cn D [3, 5]) ∧ w.grownBy v (some g) ∧ Own v rb 46 #[.int .i64 0, .int .i64 0, .int .i64 0, .slice none 0 0] ∧
  (D 10 = false → Own v gb 46 #[.int .i64 t.count, .int .i64 t.next, .int .i64 t.round, .slice A2 t.os.length c2]) ∧ (D 8 = false → v.ownsRow (w.heap.size + 2) 126 2 (.slice A2 t.os.length c2) t.os.length (owE.cells t.os))
section
variable {B g q rb gb : Nat} {t : Tg} {A2 : Option Addr} {c2 i : Nat} {w v v' : World} {D : Nat → Bool}
theorem C5.same (h : C5 B g q rb gb t A2 c2 w D v) (h1 : i ∉ [3, 5]) (h2 : i ≠ 10) (h3 : i ≠ 8) : C5 B g q rb gb t A2 c2 w (fun j => if j = i then true else D j) v := by
 obtain ⟨a, b, c, d, e⟩ := h
 exact ⟨by rw [cn_same h1]; exact a, b, c, fun hd => d (upd_f h2 hd), fun hd => e (upd_f h3 hd)⟩
theorem C5.below (h : C5 B g q rb gb t A2 c2 w D v) (hb : Below v.heap.size v v') (h1 : i ∉ [3, 5]) (h2 : i ≠ 10) (h3 : i ≠ 8) : C5 B g q rb gb t A2 c2 w (fun j => if j = i then true else D j) v' := by
 obtain ⟨a, b, c, d, e⟩ := h
 exact ⟨by rw [cn_same h1]; exact rdr_below a hb, gT b (gr_below hb), c.below hb, fun hd => (d (upd_f h2 hd)).below hb, fun hd => own_kept (e (upd_f h3 hd)) hb⟩
end
theorem MineE.frs {e : TypeId} {B : Nat} {w : World} {g : Nat} {l : List Fr} (h : MineE frE e B w (some ⟨g, 0, none⟩) l) {k : Nat} {x : Fr} (hk : l[k]? = some x) (b : Int) :
  MineE frE e B (w.setCell ⟨g, k * 5 + 1, none⟩ (.int .i64 b)) (some ⟨g, 0, none⟩) (l.set k { x with s := b }) := by
 refine h.wcell hk { x with s := b } 1 (.int .i64 b) (by decide) (fun j u hj => ?_)
 simp only [frE] at hj ⊢
 match j, hj with
 | 0, hj => exact .inr ⟨by decide, hj⟩
 | 1, hj => simp at hj; exact .inl ⟨rfl, hj.symm⟩
 | 2, hj => exact .inr ⟨by decide, hj⟩
 | 3, hj => exact .inr ⟨by decide, hj⟩
 | 4, hj => exact .inr ⟨by decide, hj⟩
 | j + 5, hj => simp at hj
abbrev intR (v v' : World) : Prop := ∀ (b : Nat) (cs : Array Value), Own v b 3 cs → Own v' b 3 cs
structure KI where
 rd : List Nat
 P : (Nat → Value) → World → Prop
 loc : ∀ x y v, (∀ s ∈ rd, x s = y s) → P x v → P y v
 keep : ∀ x v v', P x v → intR v v' → P x v'
def KI.eq (s : Nat) (u0 : Value) : KI where
 rd := [s]
 P := fun x _ => x s = u0
 loc := fun x y _ h hp => by rw [← h s (by simp)]; exact hp
 keep := fun _ _ _ h _ => h
def KI.lit (s : Nat) (cs : Array Value) (n : Nat) : KI where
 rd := [s]
 P := fun x v => ∃ gg : Nat, x s = .slice (some ⟨gg, 0, none⟩) n n ∧ Own v gg 3 cs
 loc := fun x y _ h hp => by rw [← h s (by simp)]; exact hp
 keep := fun _ _ _ ⟨gg, h1, h2⟩ ho => ⟨gg, h1, ho _ _ h2⟩
structure PS (w0 : World) (g mb : Nat) (vb vf vl vo : Value) (m : Ma) (vs : Value) (fs : List Int) (q : Nat) (v : World) : Prop where
 rd : Rdr w0.heap.size v g q
 bl : Below w0.heap.size w0 v
 mm : MaM w0.heap.size v vb vf vl vo m
 fr : SlM intE 3 w0.heap.size v vs fs
 ob : Own v mb 48 #[vb, vf, vl, .int .i64 m.c.hand, .int .i64 m.g.count, .int .i64 m.g.next, .int .i64 m.g.round, vo, .int .i64 m.sp]
section
variable {w0 v v' : World} {g mb q : Nat} {vb vf vl vo vs : Value} {m : Ma} {fs : List Int}
theorem PS.hg (h : PS w0 g mb vb vf vl vo m vs fs q v) : w0.heap.size ≤ g := by
 obtain ⟨_, _, _, _, _, _, h⟩ := h.rd.ok
 exact h
theorem PS.below (h : PS w0 g mb vb vf vl vo m vs fs q v) (hb : Below v.heap.size v v') : PS w0 g mb vb vf vl vo m vs fs q v' :=
 ⟨rdr_below h.rd hb, bT h.bl hb, h.mm.now hb, h.fr.now hb, h.ob.below hb⟩
theorem PS.oth (h : PS w0 g mb vb vf vl vo m vs fs q v) (hg : v.grownBy v' (some g)) : othR v v' := by
 obtain ⟨A, n, c, ho, _⟩ := h.rd.ok
 exact oth_gr hg ho
theorem PS.set1 (h : PS w0 g mb vb vf vl vo m vs fs q v) {b i : Nat} {u : Value} {t : TypeId} {cs : Array Value} (ho : Own v b t cs) (hb : w0.heap.size ≤ b) (hgb : g ≠ b) (hmb : mb ≠ b) (n1 : ¬ 3 = t) (n2 : ¬ 66 = t) (n3 : ¬ 129 = t) (n4 : ¬ 126 = t) :
  PS w0 g mb vb vf vl vo m vs fs q (v.setCell ⟨b, i, none⟩ u) :=
 ⟨rdr_far h.rd hgb hb, bS h.bl hb, h.mm.oth (stS_set (n := 0) ho).1 n1 n2 n3 n4, h.fr.oth (stS_set (n := 0) ho).1 n1, h.ob.far hmb⟩
end
def PC (w0 : World) (g mb nb kb si : Nat) (l : List Nat) (vb vf vl vo : Value) (m : Ma) (vs : Value) (fs : List Int) (q : Nat) (D : Nat → Bool) (v : World) : Prop :=
 PS w0 g mb vb vf vl vo m vs fs (q + cn D l) v ∧ Own v nb 48 (if D si = true then #[vb, vf, vl, .int .i64 m.c.hand, .int .i64 m.g.count, .int .i64 m.g.next, .int .i64 m.g.round, vo, .int .i64 m.sp] else #[.slice none 0 0, .slice none 0 0, .slice none 0 0, .int .i64 0, .int .i64 0, .int .i64 0, .int .i64 0, .slice none 0 0, .int .i64 0]) ∧ ∃ a b : Int, Own v kb 61 #[.int .i64 a, .int .i64 b] ∧ small b
section
variable {w0 v v' : World} {g mb nb kb si i q : Nat} {l : List Nat} {vb vf vl vo vs : Value} {m : Ma} {fs : List Int} {D : Nat → Bool}
theorem PC.same (h : PC w0 g mb nb kb si l vb vf vl vo m vs fs q D v) (hi : i ∉ l) (hs : si ≠ i) : PC w0 g mb nb kb si l vb vf vl vo m vs fs q (fun j => if j = i then true else D j) v := by
 unfold PC
 rw [cn_same hi]
 simp only [if_neg hs]
 exact h
theorem PC.below (h : PC w0 g mb nb kb si l vb vf vl vo m vs fs q D v) (hb : Below v.heap.size v v') (hi : i ∉ l) (hs : si ≠ i) : PC w0 g mb nb kb si l vb vf vl vo m vs fs q (fun j => if j = i then true else D j) v' := by
 obtain ⟨h1, h2, a, b, h3, h4⟩ := h
 unfold PC
 rw [cn_same hi]
 simp only [if_neg hs]
 exact ⟨h1.below hb, h2.below hb, a, b, h3.below hb, h4⟩
theorem PC.key (h : PC w0 g mb nb kb si l vb vf vl vo m vs fs q D v) (hi : i ∉ l) (hs : si ≠ i) (hb : w0.heap.size ≤ kb) (hgb : g ≠ kb) (hmb : mb ≠ kb) (hkb : nb ≠ kb) (a b : Int) (hs2 : small b) :
  PC w0 g mb nb kb si l vb vf vl vo m vs fs q (fun j => if j = i then true else D j) ((v.setCell ⟨kb, 0, none⟩ (.int .i64 a)).setCell ⟨kb, 1, none⟩ (.int .i64 b)) := by
 obtain ⟨h1, h2, a0, b0, h3, h4⟩ := h
 unfold PC
 rw [cn_same hi]
 simp only [if_neg hs]
 have o1 := h3.set_ 0 (.int .i64 a)
 exact ⟨(h1.set1 h3 hb hgb hmb (by decide) (by decide) (by decide) (by decide)).set1 o1 hb hgb hmb (by decide) (by decide) (by decide) (by decide), (h2.far hkb).far hkb, a, b, by simpa using o1.set_ 1 (.int .i64 b), hs2⟩
end
end Go.Proofs.YtibpnlojlfcpmaaGreatDoor
