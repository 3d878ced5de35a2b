/- A part of the proofs of this seat: Mk. -/
import Derived.Test.YtfbnokjdkhcgoaaGreatDoorVMark4
set_option linter.unusedVariables false
set_option linter.unusedSimpArgs false
set_option maxRecDepth 1000000
namespace Go.Proofs.YtfbnokjdkhcgoaaGreatDoor
open Go.RowKit
structure Tch (lo hi : Nat) (w w' : World) : Prop where
 os : w'.os = w.os
 tape : w'.tape = w.tape
 output : w'.output = w.output
 size : w.heap.size ≤ w'.heap.size
 block : ∀ k : Nat, k < w.heap.size → ¬ (lo ≤ k ∧ k < hi) → w'.heap[k]? = w.heap[k]?
section
variable {lo hi : Nat} {w w' w'' a : World}
theorem Tch.trans (h : Tch lo hi w w') (k : Tch lo hi w' w'') : Tch lo hi w w'' :=
 ⟨k.os.trans h.os, k.tape.trans h.tape, k.output.trans h.output, Nat.le_trans h.size k.size, fun j hj hn => (k.block j (Nat.lt_of_lt_of_le hj h.size) hn).trans (h.block j hj hn)⟩
theorem Tch.grown {r : Option Nat} (h : w.grownBy w' r) (hr : ∀ k, r = some k → lo ≤ k ∧ k < hi) : Tch lo hi w w' :=
 ⟨h.os, h.tape, h.output, h.size, fun j hj hn => h.block j hj (fun e => hn (hr j e.symm))⟩
theorem Tch.of_below (h : Below w.heap.size w w') : Tch lo hi w w' := ⟨h.os, h.tape, h.output, h.size, fun j hj _ => h.block j hj⟩
theorem Tch.below (h : Tch lo hi w w') (hb : Below a.heap.size a w) (hl : a.heap.size ≤ lo) : Below a.heap.size a w' :=
 ⟨h.os.trans hb.os, h.tape.trans hb.tape, h.output.trans hb.output, Nat.le_trans hb.size h.size, fun j hj => (h.block j (Nat.lt_of_lt_of_le hj hb.size) (by omega)).trans (hb.block j hj)⟩
theorem Own.tch {g : Nat} {t : TypeId} {cs : Array Value} (h : Own w g t cs) (ht : Tch lo hi w w') (hg : ¬ (lo ≤ g ∧ g < hi)) : Own w' g t cs := (ht.block g h.lt hg).trans h
theorem MineE.tch {α : Type} {E : Enc α} {e : TypeId} {B : Nat} {A : Option Addr} {l : List α} (h : MineE E e B w A l) (ht : Tch lo hi w w') (hB : hi ≤ B) : MineE E e B w' A l := by
 refine ⟨⟨h.is.len, fun hn => ?_⟩, fun hl => ?_⟩
 ·obtain ⟨g, cs, rfl, hbg, ho, _⟩ := h.own hn
  obtain ⟨b, o, e, hb, hc⟩ := h.is.at_ hn
  injection e with e
  injection e with e1 e2
  subst e1 e2
  have := ht.size
  exact ⟨g, 0, rfl, by omega, fun j u hu => (World.cell?_of_block (a := ⟨g, 0 + j, none⟩) (ht.block g hb (by omega))).trans (hc j u hu)⟩
 ·obtain ⟨g, cs, e, hbg, ho, hs⟩ := h.own hl
  exact ⟨g, cs, e, hbg, ho.tch ht (by omega), hs⟩
theorem SlM.tch {α : Type} {E : Enc α} {e : TypeId} {B : Nat} {v : Value} {l : List α} (h : SlM E e B w v l) (ht : Tch lo hi w w') (hB : hi ≤ B) : SlM E e B w' v l :=
 let ⟨A, c, h1, h2, h3, h4⟩ := h; ⟨A, c, h1, h2, h3, h4.tch ht hB⟩
theorem MaM.tch {B : Nat} {vb vf vl vo : Value} {m : Ma} (h : MaM B w vb vf vl vo m) (ht : Tch lo hi w w') (hB : hi ≤ B) : MaM B w' vb vf vl vo m := ⟨⟨h.t.b.tch ht hB, h.t.f.tch ht hB⟩, h.l.tch ht hB, h.o.tch ht hB⟩
end
def rowOf (n : Nat) (A : Option Addr) : Option Nat := if n = 0 then none else A.map (·.block)
theorem rowOf_some {n g : Nat} {o : Nat} (h : n ≠ 0) : rowOf n (some ⟨g, o, none⟩) = some g := by unfold rowOf; rw [if_neg h]; rfl
section
variable {w0 w w' : World} {g : Nat} {t : TypeId} {cs : Array Value}
theorem gRx (w : World) (r : Option Nat) : w.grownBy w r := World.grownBy.refl w r
theorem gSx (h : w0.grownBy w (some g)) (i : Nat) (u : Value) : w0.grownBy (w.setCell ⟨g, i, none⟩ u) (some g) :=
 ⟨h.os, h.tape, h.output, by simpa using h.size, fun k hk hne => (Below.heap_setCell w _ u k (by rintro rfl; exact hne rfl)).trans (h.block k hk hne)⟩
end
theorem MineE.row {α : Type} {E : Enc α} {e : TypeId} {B : Nat} {w : World} {A : Option Addr} {l : List α} (h : MineE E e B w A l) : ∀ k, rowOf l.length A = some k → B ≤ k ∧ k < w.heap.size := by
 intro k hk
 unfold rowOf at hk
 split at hk
 ·cases hk
 ·obtain ⟨g, cs, rfl, hb, ho, _⟩ := h.own (by omega)
  have := ho.lt
  simp at hk
  omega
def mkE (b : Nat → Bool) (sz : Nat) (k0 : Int) (i : Nat) : Value := if b (i % sz) = true then .bool ((k0 + (i : Int)) % 3 == 0) else .int .i64 (k0 + (i : Int))
structure Mk (f : Nat → Value) (sz : Nat) (e : TypeId) (w : World) (A : Option Addr) (n : Nat) : Prop where
 own : 0 < n → ∃ g cs, A = some ⟨g, 0, none⟩ ∧ Own w g e cs ∧ n * sz ≤ cs.size ∧ ∀ i, i < n * sz → cs[i]? = some (f i)
theorem Mk.now {f : Nat → Value} {sz : Nat} {e : TypeId} {w w' : World} {A : Option Addr} {n : Nat} (h : Mk f sz e w A n) (hb : Below w.heap.size w w') : Mk f sz e w' A n :=
 ⟨fun hn => let ⟨g, cs, e, ho, hs, hc⟩ := h.own hn; ⟨g, cs, e, ho.below hb, hs, hc⟩⟩
theorem Mk.other {f : Nat → Value} {sz : Nat} {e e' : TypeId} {w w' : World} {A A' : Option Addr} {n n' : Nat} (h : Mk f sz e w A n) (hg : w.grownBy w' (rowOf n' A')) (ho : 0 < n' → ∃ g cs, A' = some ⟨g, 0, none⟩ ∧ Own w g e' cs) (hne : e ≠ e') : Mk f sz e w' A n := by
 refine ⟨fun hn => ?_⟩
 obtain ⟨g, cs, e1, o1, hs, hc⟩ := h.own hn
 refine ⟨g, cs, e1, (hg.block g o1.lt (fun hk => ?_)).trans o1, hs, hc⟩
 by_cases h0 : n' = 0
 ·rw [h0] at hk; cases hk
 ·obtain ⟨g', cs', rfl, o2⟩ := ho (by omega)
  rw [rowOf_some h0] at hk
  injection hk with hk
  subst hk
  have h3 := o1.symm.trans o2
  injection h3 with h3
  injection h3 with _ h3
  exact hne h3
theorem mark_at {cs cs' : Array Value} {k sz : Nat} {f : Nat → Value} (hin : ∀ d, d < sz → cs'[k * sz + d]? = some (f (k * sz + d))) (hout : ∀ i, i < k * sz → cs'[i]? = cs[i]?) (h : ∀ i, i < k * sz → cs[i]? = some (f i)) :
  ∀ i, i < (k + 1) * sz → cs'[i]? = some (f i) := by
 intro i hi
 rcases Nat.lt_or_ge i (k * sz) with h1 | h1
 ·rw [hout i h1, h i h1]
 ·obtain ⟨d, rfl⟩ : ∃ d, i = k * sz + d := ⟨i - k * sz, by omega⟩
  exact hin d (by rw [Nat.add_mul] at hi; omega)
def bInt : Nat → Bool := (fun d => false)
theorem mkInt0 (k0 : Int) (k : Nat) : mkE bInt 1 k0 (k) = .int .i64 (k0 + (k : Int)) := by
 unfold mkE
 rw [show (k) % 1 = 0 by omega]
 rw [if_neg (by decide), show k0 + ((k : Nat) : Int) = k0 + (k : Int) by omega]
set_option maxHeartbeats 2000000 in
theorem markIntS_any (B : Nat) (A : Option Addr) (c n : Nat) (l : List (Int)) (w : World) (k0 : Int) (h : MineE intE 3 B w A l) (hn : n = l.length) (hk0 : 0 ≤ k0) (hk1 : k0 ≤ 1073741824) (hl : n ≤ 1048576) :
  Calls Tryz.prog 26 #[.slice A n c, .int .i64 k0] w fun r w' => r = .returned (.int .i64 (k0 + (n : Int))) ∧ Mk (mkE bInt 1 k0) 1 3 w' A n ∧ w.grownBy w' (rowOf n A) ∧ (0 < n → ∃ g cs, A = some ⟨g, 0, none⟩ ∧ Own w g 3 cs) := by
 by_cases h0 : n = 0
 ·subst h0
  go_enter Tryz.func26, Tryz.ntmps26
  go_wp2
  go_loopw [1, 5] (fun m u wr => m = .int .i64 k0 ∧ u = .int .i64 0 ∧ w = wr) (fun _ _ _ => 0)
  case atStart => exact ⟨rfl, rfl, rfl⟩
  case round =>
   obtain ⟨rfl, rfl, rfl⟩ := hrel
   go_wp2
   go_ret
   exact ⟨by simp, ⟨fun h => absurd h (by omega)⟩, gRx _ _, fun h => absurd h (by omega)⟩
 ·obtain ⟨g, cs0, rfl, hbg, ho0, hs0⟩ := h.own (by omega)
  replace hs0 : n * 1 ≤ cs0.size := by rw [hn]; exact hs0
  rw [rowOf_some h0]
  clear h0 h hn
  go_enter Tryz.func26, Tryz.ntmps26
  go_wp2
  go_loopw [1, 5] (fun m u wr => ∃ (k : Nat) (cs : Array Value), k ≤ n ∧ u = .int .i64 k ∧ m = .int .i64 (k0 + (k : Int)) ∧ n * 1 ≤ cs.size ∧ Hid (∀ i, i < k * 1 → cs[i]? = some (mkE bInt 1 k0 i)) ∧ Own wr g 3 cs ∧ w.grownBy wr (some g)) (fun _ u _ => n - (intOf u).toNat)
  case atStart => exact ⟨0, _, by omega, rfl, by simp, hs0, (fun i hi => absurd hi (by omega)), ho0, gRx _ _⟩
  case round =>
   obtain ⟨k, cs, hk, rfl, rfl, hcs, hc, hown, hg⟩ := hrel
   by_cases hlt : k < n
   ·
    obtain ⟨v0, hc0⟩ : ∃ v, wr.cell? ⟨g, k, none⟩ = some v := ⟨_, (hown.cell _).trans (Array.getElem?_eq_getElem (by omega))⟩
    have hf0 := hown.free (k)
    have HFIN := Hd (hown.set_ (k) (.int .i64 (k0 + (k : Int))))
    have HNEW := Hd (mark_at (cs := cs) (cs' := (cs.setIfInBounds (k) (.int .i64 (k0 + (k : Int))))) (k := k) (sz := 1) (f := mkE bInt 1 k0) (fun d hd => by
      match d, hd with
      | 0, _ => rw [show k * 1 + 0 = k by omega, mkInt0]; simp [Array.getElem?_setIfInBounds]; omega
      | d + 1, hd => omega)
     (fun i hi => by simp only [Array.getElem?_setIfInBounds]; repeat rw [if_neg (by omega)]) hc.out)
    have HCS := Hd hcs
    clear hown hcs
    go_wp2
    go_roundw
    case rel => exact ⟨k + 1, _, by omega, by go_num, by go_num, by simp only [Array.size_setIfInBounds]; exact HCS.out, HNEW.out, HFIN.out, gSx (hg) _ _⟩
    case measure => simp [intOf]; omega
   ·obtain rfl : k = n := by omega
    go_wp2
    go_ret
    exact ⟨rfl, ⟨fun _ => ⟨g, cs, rfl, hown, hcs, hc.out⟩⟩, hg, fun _ => ⟨g, cs0, rfl, ho0⟩⟩
set_option maxHeartbeats 2000000 in
theorem heldIntS_any (A : Option Addr) (n c : Nat) (w : World) (k0 : Int) (h : Mk (mkE bInt 1 k0) 1 3 w A n) (hk0 : 0 ≤ k0) (hk1 : k0 ≤ 1073741824) (hl : n ≤ 1048576) :
  Calls Tryz.prog 27 #[.slice A n c, .int .i64 k0] w fun r w' => r = .returned (.int .i64 (k0 + (n : Int))) ∧ Below w.heap.size w w' := by
 go_enter Tryz.func27, Tryz.ntmps27
 go_wp2
 go_loopw [1, 5] (fun m u wr => ∃ k : Nat, k ≤ n ∧ u = .int .i64 k ∧ m = .int .i64 (k0 + (k : Int)) ∧ Below w.heap.size w wr) (fun _ u _ => n - (intOf u).toNat)
 case atStart => exact ⟨0, by omega, rfl, by simp, bR⟩
 case round =>
  obtain ⟨k, hk, rfl, rfl, hb⟩ := hrel
  by_cases hlt : k < n
  ·obtain ⟨g, cs, rfl, ho, hs, hc⟩ := (h.now hb).own (by omega)
   have h0 := ((ho.cell (k)).trans (hc (k) (by omega))).trans (congrArg some (mkInt0 k0 k))
   have q0 : (k0 + (k : Int) != k0 + (k : Int)) = false := by simp
   clear ho hc
   go_wp2
   go_roundw
   case rel => exact ⟨k + 1, by omega, by go_num, by go_num, hb⟩
   case measure => simp [intOf]; omega
  ·obtain rfl : k = n := by omega
   go_wp2
   go_ret
   exact ⟨rfl, hb⟩
def bFrame : Nat → Bool := (fun d => d == 0)
theorem mkFrame0 (k0 : Int) (k : Nat) : mkE bFrame 5 k0 (k * 5) = .bool ((k0 + 5 * (k : Int)) % 3 == 0) := by
 unfold mkE
 rw [show (k * 5) % 5 = 0 by omega]
 rw [if_pos (by decide), show k0 + ((k * 5 : Nat) : Int) = k0 + 5 * (k : Int) by omega]
theorem mkFrame1 (k0 : Int) (k : Nat) : mkE bFrame 5 k0 (k * 5 + 1) = .int .i64 (k0 + 5 * (k : Int) + 1) := by
 unfold mkE
 rw [show (k * 5 + 1) % 5 = 1 by omega]
 rw [if_neg (by decide), show k0 + ((k * 5 + 1 : Nat) : Int) = k0 + 5 * (k : Int) + 1 by omega]
theorem mkFrame2 (k0 : Int) (k : Nat) : mkE bFrame 5 k0 (k * 5 + 2) = .int .i64 (k0 + 5 * (k : Int) + 1 + 1) := by
 unfold mkE
 rw [show (k * 5 + 2) % 5 = 2 by omega]
 rw [if_neg (by decide), show k0 + ((k * 5 + 2 : Nat) : Int) = k0 + 5 * (k : Int) + 1 + 1 by omega]
theorem mkFrame3 (k0 : Int) (k : Nat) : mkE bFrame 5 k0 (k * 5 + 3) = .int .i64 (k0 + 5 * (k : Int) + 1 + 1 + 1) := by
 unfold mkE
 rw [show (k * 5 + 3) % 5 = 3 by omega]
 rw [if_neg (by decide), show k0 + ((k * 5 + 3 : Nat) : Int) = k0 + 5 * (k : Int) + 1 + 1 + 1 by omega]
theorem mkFrame4 (k0 : Int) (k : Nat) : mkE bFrame 5 k0 (k * 5 + 4) = .int .i64 (k0 + 5 * (k : Int) + 1 + 1 + 1 + 1) := by
 unfold mkE
 rw [show (k * 5 + 4) % 5 = 4 by omega]
 rw [if_neg (by decide), show k0 + ((k * 5 + 4 : Nat) : Int) = k0 + 5 * (k : Int) + 1 + 1 + 1 + 1 by omega]
set_option maxHeartbeats 2000000 in
theorem markFrameS_any (B : Nat) (A : Option Addr) (c n : Nat) (l : List (Fr)) (w : World) (k0 : Int) (h : MineE frE 80 B w A l) (hn : n = l.length) (hk0 : 0 ≤ k0) (hk1 : k0 ≤ 1073741824) (hl : n ≤ 1048576) :
  Calls Tryz.prog 181 #[.slice A n c, .int .i64 k0] w fun r w' => r = .returned (.int .i64 (k0 + 5 * (n : Int))) ∧ Mk (mkE bFrame 5 k0) 5 80 w' A n ∧ w.grownBy w' (rowOf n A) ∧ (0 < n → ∃ g cs, A = some ⟨g, 0, none⟩ ∧ Own w g 80 cs) := by
 by_cases h0 : n = 0
 ·subst h0
  go_enter Tryz.func181, Tryz.ntmps181
  go_wp2
  go_loopw [1, 5] (fun m u wr => m = .int .i64 k0 ∧ u = .int .i64 0 ∧ w = wr) (fun _ _ _ => 0)
  case atStart => exact ⟨rfl, rfl, rfl⟩
  case round =>
   obtain ⟨rfl, rfl, rfl⟩ := hrel
   go_wp2
   go_ret
   exact ⟨by simp, ⟨fun h => absurd h (by omega)⟩, gRx _ _, fun h => absurd h (by omega)⟩
 ·obtain ⟨g, cs0, rfl, hbg, ho0, hs0⟩ := h.own (by omega)
  replace hs0 : n * 5 ≤ cs0.size := by rw [hn]; exact hs0
  rw [rowOf_some h0]
  clear h0 h hn
  go_enter Tryz.func181, Tryz.ntmps181
  go_wp2
  go_loopw [1, 5] (fun m u wr => ∃ (k : Nat) (cs : Array Value), k ≤ n ∧ u = .int .i64 k ∧ m = .int .i64 (k0 + 5 * (k : Int)) ∧ n * 5 ≤ cs.size ∧ Hid (∀ i, i < k * 5 → cs[i]? = some (mkE bFrame 5 k0 i)) ∧ Own wr g 80 cs ∧ w.grownBy wr (some g)) (fun _ u _ => n - (intOf u).toNat)
  case atStart => exact ⟨0, _, by omega, rfl, by simp, hs0, (fun i hi => absurd hi (by omega)), ho0, gRx _ _⟩
  case round =>
   obtain ⟨k, cs, hk, rfl, rfl, hcs, hc, hown, hg⟩ := hrel
   by_cases hlt : k < n
   ·
    obtain ⟨v0, hc0⟩ : ∃ v, wr.cell? ⟨g, k * 5, none⟩ = some v := ⟨_, (hown.cell _).trans (Array.getElem?_eq_getElem (by omega))⟩
    have hf0 := hown.free (k * 5)
    obtain ⟨v1, hc1⟩ : ∃ v, wr.cell? ⟨g, k * 5 + 1, none⟩ = some v := ⟨_, (hown.cell _).trans (Array.getElem?_eq_getElem (by omega))⟩
    have hf1 := hown.free (k * 5 + 1)
    obtain ⟨v2, hc2⟩ : ∃ v, wr.cell? ⟨g, k * 5 + 2, none⟩ = some v := ⟨_, (hown.cell _).trans (Array.getElem?_eq_getElem (by omega))⟩
    have hf2 := hown.free (k * 5 + 2)
    obtain ⟨v3, hc3⟩ : ∃ v, wr.cell? ⟨g, k * 5 + 3, none⟩ = some v := ⟨_, (hown.cell _).trans (Array.getElem?_eq_getElem (by omega))⟩
    have hf3 := hown.free (k * 5 + 3)
    obtain ⟨v4, hc4⟩ : ∃ v, wr.cell? ⟨g, k * 5 + 4, none⟩ = some v := ⟨_, (hown.cell _).trans (Array.getElem?_eq_getElem (by omega))⟩
    have hf4 := hown.free (k * 5 + 4)
    have HFIN := Hd (((((hown.set_ (k * 5) (.bool ((k0 + 5 * (k : Int)) % 3 == 0))).set_ (k * 5 + 1) (.int .i64 (k0 + 5 * (k : Int) + 1))).set_ (k * 5 + 2) (.int .i64 (k0 + 5 * (k : Int) + 1 + 1))).set_ (k * 5 + 3) (.int .i64 (k0 + 5 * (k : Int) + 1 + 1 + 1))).set_ (k * 5 + 4) (.int .i64 (k0 + 5 * (k : Int) + 1 + 1 + 1 + 1)))
    have HNEW := Hd (mark_at (cs := cs) (cs' := (((((cs.setIfInBounds (k * 5) (.bool ((k0 + 5 * (k : Int)) % 3 == 0))).setIfInBounds (k * 5 + 1) (.int .i64 (k0 + 5 * (k : Int) + 1))).setIfInBounds (k * 5 + 2) (.int .i64 (k0 + 5 * (k : Int) + 1 + 1))).setIfInBounds (k * 5 + 3) (.int .i64 (k0 + 5 * (k : Int) + 1 + 1 + 1))).setIfInBounds (k * 5 + 4) (.int .i64 (k0 + 5 * (k : Int) + 1 + 1 + 1 + 1)))) (k := k) (sz := 5) (f := mkE bFrame 5 k0) (fun d hd => by
      match d, hd with
      | 0, _ => rw [show k * 5 + 0 = k * 5 by omega, mkFrame0]; simp [Array.getElem?_setIfInBounds]; omega
      | 1, _ => rw [show k * 5 + 1 = k * 5 + 1 by omega, mkFrame1]; simp [Array.getElem?_setIfInBounds]; omega
      | 2, _ => rw [show k * 5 + 2 = k * 5 + 2 by omega, mkFrame2]; simp [Array.getElem?_setIfInBounds]; omega
      | 3, _ => rw [show k * 5 + 3 = k * 5 + 3 by omega, mkFrame3]; simp [Array.getElem?_setIfInBounds]; omega
      | 4, _ => rw [show k * 5 + 4 = k * 5 + 4 by omega, mkFrame4]; simp [Array.getElem?_setIfInBounds]; omega
      | d + 5, hd => omega)
     (fun i hi => by simp only [Array.getElem?_setIfInBounds]; repeat rw [if_neg (by omega)]) hc.out)
    have HCS := Hd hcs
    clear hown hcs
    go_wp2
    go_roundw
    case rel => exact ⟨k + 1, _, by omega, by go_num, by go_num, by simp only [Array.size_setIfInBounds]; exact HCS.out, HNEW.out, HFIN.out, gSx (gSx (gSx (gSx (gSx (hg) _ _) _ _) _ _) _ _) _ _⟩
    case measure => simp [intOf]; omega
   ·obtain rfl : k = n := by omega
    go_wp2
    go_ret
    exact ⟨rfl, ⟨fun _ => ⟨g, cs, rfl, hown, hcs, hc.out⟩⟩, hg, fun _ => ⟨g, cs0, rfl, ho0⟩⟩
set_option maxHeartbeats 2000000 in
theorem heldFrameS_any (A : Option Addr) (n c : Nat) (w : World) (k0 : Int) (h : Mk (mkE bFrame 5 k0) 5 80 w A n) (hk0 : 0 ≤ k0) (hk1 : k0 ≤ 1073741824) (hl : n ≤ 1048576) :
  Calls Tryz.prog 184 #[.slice A n c, .int .i64 k0] w fun r w' => r = .returned (.int .i64 (k0 + 5 * (n : Int))) ∧ Below w.heap.size w w' := by
 go_enter Tryz.func184, Tryz.ntmps184
 go_wp2
 go_loopw [1, 5] (fun m u wr => ∃ k : Nat, k ≤ n ∧ u = .int .i64 k ∧ m = .int .i64 (k0 + 5 * (k : Int)) ∧ Below w.heap.size w wr) (fun _ u _ => n - (intOf u).toNat)
 case atStart => exact ⟨0, by omega, rfl, by simp, bR⟩
 case round =>
  obtain ⟨k, hk, rfl, rfl, hb⟩ := hrel
  by_cases hlt : k < n
  ·obtain ⟨g, cs, rfl, ho, hs, hc⟩ := (h.now hb).own (by omega)
   have h0 := ((ho.cell (k * 5)).trans (hc (k * 5) (by omega))).trans (congrArg some (mkFrame0 k0 k))
   have q0 := xne ((k0 + 5 * (k : Int)) % 3 == 0)
   have h1 := ((ho.cell (k * 5 + 1)).trans (hc (k * 5 + 1) (by omega))).trans (congrArg some (mkFrame1 k0 k))
   have q1 : (k0 + 5 * (k : Int) + 1 != k0 + 5 * (k : Int) + 1) = false := by simp
   have h2 := ((ho.cell (k * 5 + 2)).trans (hc (k * 5 + 2) (by omega))).trans (congrArg some (mkFrame2 k0 k))
   have q2 : (k0 + 5 * (k : Int) + 1 + 1 != k0 + 5 * (k : Int) + 1 + 1) = false := by simp
   have h3 := ((ho.cell (k * 5 + 3)).trans (hc (k * 5 + 3) (by omega))).trans (congrArg some (mkFrame3 k0 k))
   have q3 : (k0 + 5 * (k : Int) + 1 + 1 + 1 != k0 + 5 * (k : Int) + 1 + 1 + 1) = false := by simp
   have h4 := ((ho.cell (k * 5 + 4)).trans (hc (k * 5 + 4) (by omega))).trans (congrArg some (mkFrame4 k0 k))
   have q4 : (k0 + 5 * (k : Int) + 1 + 1 + 1 + 1 != k0 + 5 * (k : Int) + 1 + 1 + 1 + 1) = false := by simp
   clear ho hc
   go_wp2
   go_roundw
   case rel => exact ⟨k + 1, by omega, by go_num, by go_num, hb⟩
   case measure => simp [intOf]; omega
  ·obtain rfl : k = n := by omega
   go_wp2
   go_ret
   exact ⟨rfl, hb⟩
def bLine : Nat → Bool := (fun d => d == 0 || d == 5)
theorem mkLine0 (k0 : Int) (k : Nat) : mkE bLine 6 k0 (k * 6) = .bool ((k0 + 6 * (k : Int)) % 3 == 0) := by
 unfold mkE
 rw [show (k * 6) % 6 = 0 by omega]
 rw [if_pos (by decide), show k0 + ((k * 6 : Nat) : Int) = k0 + 6 * (k : Int) by omega]
theorem mkLine1 (k0 : Int) (k : Nat) : mkE bLine 6 k0 (k * 6 + 1) = .int .i64 (k0 + 6 * (k : Int) + 1) := by
 unfold mkE
 rw [show (k * 6 + 1) % 6 = 1 by omega]
 rw [if_neg (by decide), show k0 + ((k * 6 + 1 : Nat) : Int) = k0 + 6 * (k : Int) + 1 by omega]
theorem mkLine2 (k0 : Int) (k : Nat) : mkE bLine 6 k0 (k * 6 + 2) = .int .i64 (k0 + 6 * (k : Int) + 1 + 1) := by
 unfold mkE
 rw [show (k * 6 + 2) % 6 = 2 by omega]
 rw [if_neg (by decide), show k0 + ((k * 6 + 2 : Nat) : Int) = k0 + 6 * (k : Int) + 1 + 1 by omega]
theorem mkLine3 (k0 : Int) (k : Nat) : mkE bLine 6 k0 (k * 6 + 3) = .int .i64 (k0 + 6 * (k : Int) + 1 + 1 + 1) := by
 unfold mkE
 rw [show (k * 6 + 3) % 6 = 3 by omega]
 rw [if_neg (by decide), show k0 + ((k * 6 + 3 : Nat) : Int) = k0 + 6 * (k : Int) + 1 + 1 + 1 by omega]
theorem mkLine4 (k0 : Int) (k : Nat) : mkE bLine 6 k0 (k * 6 + 4) = .int .i64 (k0 + 6 * (k : Int) + 1 + 1 + 1 + 1) := by
 unfold mkE
 rw [show (k * 6 + 4) % 6 = 4 by omega]
 rw [if_neg (by decide), show k0 + ((k * 6 + 4 : Nat) : Int) = k0 + 6 * (k : Int) + 1 + 1 + 1 + 1 by omega]
theorem mkLine5 (k0 : Int) (k : Nat) : mkE bLine 6 k0 (k * 6 + 5) = .bool ((k0 + 6 * (k : Int) + 1 + 1 + 1 + 1 + 1) % 3 == 0) := by
 unfold mkE
 rw [show (k * 6 + 5) % 6 = 5 by omega]
 rw [if_pos (by decide), show k0 + ((k * 6 + 5 : Nat) : Int) = k0 + 6 * (k : Int) + 1 + 1 + 1 + 1 + 1 by omega]
set_option maxHeartbeats 2000000 in
theorem markLineS_any (B : Nat) (A : Option Addr) (c n : Nat) (l : List (Ln)) (w : World) (k0 : Int) (h : MineE lnE 50 B w A l) (hn : n = l.length) (hk0 : 0 ≤ k0) (hk1 : k0 ≤ 1073741824) (hl : n ≤ 1048576) :
  Calls Tryz.prog 182 #[.slice A n c, .int .i64 k0] w fun r w' => r = .returned (.int .i64 (k0 + 6 * (n : Int))) ∧ Mk (mkE bLine 6 k0) 6 50 w' A n ∧ w.grownBy w' (rowOf n A) ∧ (0 < n → ∃ g cs, A = some ⟨g, 0, none⟩ ∧ Own w g 50 cs) := by
 by_cases h0 : n = 0
 ·subst h0
  go_enter Tryz.func182, Tryz.ntmps182
  go_wp2
  go_loopw [1, 5] (fun m u wr => m = .int .i64 k0 ∧ u = .int .i64 0 ∧ w = wr) (fun _ _ _ => 0)
  case atStart => exact ⟨rfl, rfl, rfl⟩
  case round =>
   obtain ⟨rfl, rfl, rfl⟩ := hrel
   go_wp2
   go_ret
   exact ⟨by simp, ⟨fun h => absurd h (by omega)⟩, gRx _ _, fun h => absurd h (by omega)⟩
 ·obtain ⟨g, cs0, rfl, hbg, ho0, hs0⟩ := h.own (by omega)
  replace hs0 : n * 6 ≤ cs0.size := by rw [hn]; exact hs0
  rw [rowOf_some h0]
  clear h0 h hn
  go_enter Tryz.func182, Tryz.ntmps182
  go_wp2
  go_loopw [1, 5] (fun m u wr => ∃ (k : Nat) (cs : Array Value), k ≤ n ∧ u = .int .i64 k ∧ m = .int .i64 (k0 + 6 * (k : Int)) ∧ n * 6 ≤ cs.size ∧ Hid (∀ i, i < k * 6 → cs[i]? = some (mkE bLine 6 k0 i)) ∧ Own wr g 50 cs ∧ w.grownBy wr (some g)) (fun _ u _ => n - (intOf u).toNat)
  case atStart => exact ⟨0, _, by omega, rfl, by simp, hs0, (fun i hi => absurd hi (by omega)), ho0, gRx _ _⟩
  case round =>
   obtain ⟨k, cs, hk, rfl, rfl, hcs, hc, hown, hg⟩ := hrel
   by_cases hlt : k < n
   ·
    obtain ⟨v0, hc0⟩ : ∃ v, wr.cell? ⟨g, k * 6, none⟩ = some v := ⟨_, (hown.cell _).trans (Array.getElem?_eq_getElem (by omega))⟩
    have hf0 := hown.free (k * 6)
    obtain ⟨v1, hc1⟩ : ∃ v, wr.cell? ⟨g, k * 6 + 1, none⟩ = some v := ⟨_, (hown.cell _).trans (Array.getElem?_eq_getElem (by omega))⟩
    have hf1 := hown.free (k * 6 + 1)
    obtain ⟨v2, hc2⟩ : ∃ v, wr.cell? ⟨g, k * 6 + 2, none⟩ = some v := ⟨_, (hown.cell _).trans (Array.getElem?_eq_getElem (by omega))⟩
    have hf2 := hown.free (k * 6 + 2)
    obtain ⟨v3, hc3⟩ : ∃ v, wr.cell? ⟨g, k * 6 + 3, none⟩ = some v := ⟨_, (hown.cell _).trans (Array.getElem?_eq_getElem (by omega))⟩
    have hf3 := hown.free (k * 6 + 3)
    obtain ⟨v4, hc4⟩ : ∃ v, wr.cell? ⟨g, k * 6 + 4, none⟩ = some v := ⟨_, (hown.cell _).trans (Array.getElem?_eq_getElem (by omega))⟩
    have hf4 := hown.free (k * 6 + 4)
    obtain ⟨v5, hc5⟩ : ∃ v, wr.cell? ⟨g, k * 6 + 5, none⟩ = some v := ⟨_, (hown.cell _).trans (Array.getElem?_eq_getElem (by omega))⟩
    have hf5 := hown.free (k * 6 + 5)
    have HFIN := Hd ((((((hown.set_ (k * 6) (.bool ((k0 + 6 * (k : Int)) % 3 == 0))).set_ (k * 6 + 1) (.int .i64 (k0 + 6 * (k : Int) + 1))).set_ (k * 6 + 2) (.int .i64 (k0 + 6 * (k : Int) + 1 + 1))).set_ (k * 6 + 3) (.int .i64 (k0 + 6 * (k : Int) + 1 + 1 + 1))).set_ (k * 6 + 4) (.int .i64 (k0 + 6 * (k : Int) + 1 + 1 + 1 + 1))).set_ (k * 6 + 5) (.bool ((k0 + 6 * (k : Int) + 1 + 1 + 1 + 1 + 1) % 3 == 0)))
    have HNEW := Hd (mark_at (cs := cs) (cs' := ((((((cs.setIfInBounds (k * 6) (.bool ((k0 + 6 * (k : Int)) % 3 == 0))).setIfInBounds (k * 6 + 1) (.int .i64 (k0 + 6 * (k : Int) + 1))).setIfInBounds (k * 6 + 2) (.int .i64 (k0 + 6 * (k : Int) + 1 + 1))).setIfInBounds (k * 6 + 3) (.int .i64 (k0 + 6 * (k : Int) + 1 + 1 + 1))).setIfInBounds (k * 6 + 4) (.int .i64 (k0 + 6 * (k : Int) + 1 + 1 + 1 + 1))).setIfInBounds (k * 6 + 5) (.bool ((k0 + 6 * (k : Int) + 1 + 1 + 1 + 1 + 1) % 3 == 0)))) (k := k) (sz := 6) (f := mkE bLine 6 k0) (fun d hd => by
      match d, hd with
      | 0, _ => rw [show k * 6 + 0 = k * 6 by omega, mkLine0]; simp [Array.getElem?_setIfInBounds]; omega
      | 1, _ => rw [show k * 6 + 1 = k * 6 + 1 by omega, mkLine1]; simp [Array.getElem?_setIfInBounds]; omega
      | 2, _ => rw [show k * 6 + 2 = k * 6 + 2 by omega, mkLine2]; simp [Array.getElem?_setIfInBounds]; omega
      | 3, _ => rw [show k * 6 + 3 = k * 6 + 3 by omega, mkLine3]; simp [Array.getElem?_setIfInBounds]; omega
      | 4, _ => rw [show k * 6 + 4 = k * 6 + 4 by omega, mkLine4]; simp [Array.getElem?_setIfInBounds]; omega
      | 5, _ => rw [show k * 6 + 5 = k * 6 + 5 by omega, mkLine5]; simp [Array.getElem?_setIfInBounds]; omega
      | d + 6, hd => omega)
     (fun i hi => by simp only [Array.getElem?_setIfInBounds]; repeat rw [if_neg (by omega)]) hc.out)
    have HCS := Hd hcs
    clear hown hcs
    go_wp2
    go_roundw
    case rel => exact ⟨k + 1, _, by omega, by go_num, by go_num, by simp only [Array.size_setIfInBounds]; exact HCS.out, HNEW.out, HFIN.out, gSx (gSx (gSx (gSx (gSx (gSx (hg) _ _) _ _) _ _) _ _) _ _) _ _⟩
    case measure => simp [intOf]; omega
   ·obtain rfl : k = n := by omega
    go_wp2
    go_ret
    exact ⟨rfl, ⟨fun _ => ⟨g, cs, rfl, hown, hcs, hc.out⟩⟩, hg, fun _ => ⟨g, cs0, rfl, ho0⟩⟩
set_option maxHeartbeats 2000000 in
theorem heldLineS_any (A : Option Addr) (n c : Nat) (w : World) (k0 : Int) (h : Mk (mkE bLine 6 k0) 6 50 w A n) (hk0 : 0 ≤ k0) (hk1 : k0 ≤ 1073741824) (hl : n ≤ 1048576) :
  Calls Tryz.prog 185 #[.slice A n c, .int .i64 k0] w fun r w' => r = .returned (.int .i64 (k0 + 6 * (n : Int))) ∧ Below w.heap.size w w' := by
 go_enter Tryz.func185, Tryz.ntmps185
 go_wp2
 go_loopw [1, 5] (fun m u wr => ∃ k : Nat, k ≤ n ∧ u = .int .i64 k ∧ m = .int .i64 (k0 + 6 * (k : Int)) ∧ Below w.heap.size w wr) (fun _ u _ => n - (intOf u).toNat)
 case atStart => exact ⟨0, by omega, rfl, by simp, bR⟩
 case round =>
  obtain ⟨k, hk, rfl, rfl, hb⟩ := hrel
  by_cases hlt : k < n
  ·obtain ⟨g, cs, rfl, ho, hs, hc⟩ := (h.now hb).own (by omega)
   have h0 := ((ho.cell (k * 6)).trans (hc (k * 6) (by omega))).trans (congrArg some (mkLine0 k0 k))
   have q0 := xne ((k0 + 6 * (k : Int)) % 3 == 0)
   have h1 := ((ho.cell (k * 6 + 1)).trans (hc (k * 6 + 1) (by omega))).trans (congrArg some (mkLine1 k0 k))
   have q1 : (k0 + 6 * (k : Int) + 1 != k0 + 6 * (k : Int) + 1) = false := by simp
   have h2 := ((ho.cell (k * 6 + 2)).trans (hc (k * 6 + 2) (by omega))).trans (congrArg some (mkLine2 k0 k))
   have q2 : (k0 + 6 * (k : Int) + 1 + 1 != k0 + 6 * (k : Int) + 1 + 1) = false := by simp
   have h3 := ((ho.cell (k * 6 + 3)).trans (hc (k * 6 + 3) (by omega))).trans (congrArg some (mkLine3 k0 k))
   have q3 : (k0 + 6 * (k : Int) + 1 + 1 + 1 != k0 + 6 * (k : Int) + 1 + 1 + 1) = false := by simp
   have h4 := ((ho.cell (k * 6 + 4)).trans (hc (k * 6 + 4) (by omega))).trans (congrArg some (mkLine4 k0 k))
   have q4 : (k0 + 6 * (k : Int) + 1 + 1 + 1 + 1 != k0 + 6 * (k : Int) + 1 + 1 + 1 + 1) = false := by simp
   have h5 := ((ho.cell (k * 6 + 5)).trans (hc (k * 6 + 5) (by omega))).trans (congrArg some (mkLine5 k0 k))
   have q5 := xne ((k0 + 6 * (k : Int) + 1 + 1 + 1 + 1 + 1) % 3 == 0)
   clear ho hc
   go_wp2
   go_roundw
   case rel => exact ⟨k + 1, by omega, by go_num, by go_num, hb⟩
   case measure => simp [intOf]; omega
  ·obtain rfl : k = n := by omega
   go_wp2
   go_ret
   exact ⟨rfl, hb⟩
def bOwn : Nat → Bool := (fun d => false)
theorem mkOwn0 (k0 : Int) (k : Nat) : mkE bOwn 2 k0 (k * 2) = .int .i64 (k0 + 2 * (k : Int)) := by
 unfold mkE
 rw [show (k * 2) % 2 = 0 by omega]
 rw [if_neg (by decide), show k0 + ((k * 2 : Nat) : Int) = k0 + 2 * (k : Int) by omega]
theorem mkOwn1 (k0 : Int) (k : Nat) : mkE bOwn 2 k0 (k * 2 + 1) = .int .i64 (k0 + 2 * (k : Int) + 1) := by
 unfold mkE
 rw [show (k * 2 + 1) % 2 = 1 by omega]
 rw [if_neg (by decide), show k0 + ((k * 2 + 1 : Nat) : Int) = k0 + 2 * (k : Int) + 1 by omega]
set_option maxHeartbeats 2000000 in
theorem markOwnS_any (B : Nat) (A : Option Addr) (c n : Nat) (l : List (Int × Int)) (w : World) (k0 : Int) (h : MineE owE 186 B w A l) (hn : n = l.length) (hk0 : 0 ≤ k0) (hk1 : k0 ≤ 1073741824) (hl : n ≤ 1048576) :
  Calls Tryz.prog 183 #[.slice A n c, .int .i64 k0] w fun r w' => r = .returned (.int .i64 (k0 + 2 * (n : Int))) ∧ Mk (mkE bOwn 2 k0) 2 186 w' A n ∧ w.grownBy w' (rowOf n A) ∧ (0 < n → ∃ g cs, A = some ⟨g, 0, none⟩ ∧ Own w g 186 cs) := by
 by_cases h0 : n = 0
 ·subst h0
  go_enter Tryz.func183, Tryz.ntmps183
  go_wp2
  go_loopw [1, 5] (fun m u wr => m = .int .i64 k0 ∧ u = .int .i64 0 ∧ w = wr) (fun _ _ _ => 0)
  case atStart => exact ⟨rfl, rfl, rfl⟩
  case round =>
   obtain ⟨rfl, rfl, rfl⟩ := hrel
   go_wp2
   go_ret
   exact ⟨by simp, ⟨fun h => absurd h (by omega)⟩, gRx _ _, fun h => absurd h (by omega)⟩
 ·obtain ⟨g, cs0, rfl, hbg, ho0, hs0⟩ := h.own (by omega)
  replace hs0 : n * 2 ≤ cs0.size := by rw [hn]; exact hs0
  rw [rowOf_some h0]
  clear h0 h hn
  go_enter Tryz.func183, Tryz.ntmps183
  go_wp2
  go_loopw [1, 5] (fun m u wr => ∃ (k : Nat) (cs : Array Value), k ≤ n ∧ u = .int .i64 k ∧ m = .int .i64 (k0 + 2 * (k : Int)) ∧ n * 2 ≤ cs.size ∧ Hid (∀ i, i < k * 2 → cs[i]? = some (mkE bOwn 2 k0 i)) ∧ Own wr g 186 cs ∧ w.grownBy wr (some g)) (fun _ u _ => n - (intOf u).toNat)
  case atStart => exact ⟨0, _, by omega, rfl, by simp, hs0, (fun i hi => absurd hi (by omega)), ho0, gRx _ _⟩
  case round =>
   obtain ⟨k, cs, hk, rfl, rfl, hcs, hc, hown, hg⟩ := hrel
   by_cases hlt : k < n
   ·
    obtain ⟨v0, hc0⟩ : ∃ v, wr.cell? ⟨g, k * 2, none⟩ = some v := ⟨_, (hown.cell _).trans (Array.getElem?_eq_getElem (by omega))⟩
    have hf0 := hown.free (k * 2)
    obtain ⟨v1, hc1⟩ : ∃ v, wr.cell? ⟨g, k * 2 + 1, none⟩ = some v := ⟨_, (hown.cell _).trans (Array.getElem?_eq_getElem (by omega))⟩
    have hf1 := hown.free (k * 2 + 1)
    have HFIN := Hd ((hown.set_ (k * 2) (.int .i64 (k0 + 2 * (k : Int)))).set_ (k * 2 + 1) (.int .i64 (k0 + 2 * (k : Int) + 1)))
    have HNEW := Hd (mark_at (cs := cs) (cs' := ((cs.setIfInBounds (k * 2) (.int .i64 (k0 + 2 * (k : Int)))).setIfInBounds (k * 2 + 1) (.int .i64 (k0 + 2 * (k : Int) + 1)))) (k := k) (sz := 2) (f := mkE bOwn 2 k0) (fun d hd => by
      match d, hd with
      | 0, _ => rw [show k * 2 + 0 = k * 2 by omega, mkOwn0]; simp [Array.getElem?_setIfInBounds]; omega
      | 1, _ => rw [show k * 2 + 1 = k * 2 + 1 by omega, mkOwn1]; simp [Array.getElem?_setIfInBounds]; omega
      | d + 2, hd => omega)
     (fun i hi => by simp only [Array.getElem?_setIfInBounds]; repeat rw [if_neg (by omega)]) hc.out)
    have HCS := Hd hcs
    clear hown hcs
    go_wp2
    go_roundw
    case rel => exact ⟨k + 1, _, by omega, by go_num, by go_num, by simp only [Array.size_setIfInBounds]; exact HCS.out, HNEW.out, HFIN.out, gSx (gSx (hg) _ _) _ _⟩
    case measure => simp [intOf]; omega
   ·obtain rfl : k = n := by omega
    go_wp2
    go_ret
    exact ⟨rfl, ⟨fun _ => ⟨g, cs, rfl, hown, hcs, hc.out⟩⟩, hg, fun _ => ⟨g, cs0, rfl, ho0⟩⟩
set_option maxHeartbeats 2000000 in
theorem heldOwnS_any (A : Option Addr) (n c : Nat) (w : World) (k0 : Int) (h : Mk (mkE bOwn 2 k0) 2 186 w A n) (hk0 : 0 ≤ k0) (hk1 : k0 ≤ 1073741824) (hl : n ≤ 1048576) :
  Calls Tryz.prog 186 #[.slice A n c, .int .i64 k0] w fun r w' => r = .returned (.int .i64 (k0 + 2 * (n : Int))) ∧ Below w.heap.size w w' := by
 go_enter Tryz.func186, Tryz.ntmps186
 go_wp2
 go_loopw [1, 5] (fun m u wr => ∃ k : Nat, k ≤ n ∧ u = .int .i64 k ∧ m = .int .i64 (k0 + 2 * (k : Int)) ∧ Below w.heap.size w wr) (fun _ u _ => n - (intOf u).toNat)
 case atStart => exact ⟨0, by omega, rfl, by simp, bR⟩
 case round =>
  obtain ⟨k, hk, rfl, rfl, hb⟩ := hrel
  by_cases hlt : k < n
  ·obtain ⟨g, cs, rfl, ho, hs, hc⟩ := (h.now hb).own (by omega)
   have h0 := ((ho.cell (k * 2)).trans (hc (k * 2) (by omega))).trans (congrArg some (mkOwn0 k0 k))
   have q0 : (k0 + 2 * (k : Int) != k0 + 2 * (k : Int)) = false := by simp
   have h1 := ((ho.cell (k * 2 + 1)).trans (hc (k * 2 + 1) (by omega))).trans (congrArg some (mkOwn1 k0 k))
   have q1 : (k0 + 2 * (k : Int) + 1 != k0 + 2 * (k : Int) + 1) = false := by simp
   clear ho hc
   go_wp2
   go_roundw
   case rel => exact ⟨k + 1, by omega, by go_num, by go_num, hb⟩
   case measure => simp [intOf]; omega
  ·obtain rfl : k = n := by omega
   go_wp2
   go_ret
   exact ⟨rfl, hb⟩
end Go.Proofs.YtfbnokjdkhcgoaaGreatDoor
