/- A part of the proofs of this seat: Plb, RelA, TbP. -/
import Derived.Test.YtibpnlojlfcpmaaGreatDoorBMk2
import Derived.Test.YtibpnlojlfcpmaaGreatDoorBSplit
set_option linter.unusedVariables false
set_option linter.unusedSimpArgs false
set_option maxRecDepth 1000000
namespace Go.Proofs.YtibpnlojlfcpmaaGreatDoor
open Go.RowKit
theorem EOwn.rs {α : Type} {E : Enc α} {e : TypeId} {w : World} {g : Nat} {l : List α} (h : EOwn E e w g l) : Rs E w.heap.size w (some ⟨g, 0, none⟩) l := by
 obtain ⟨cs, h1, h2, h3⟩ := h.own
 refine ⟨E.cells_length l, fun _ => ⟨g, 0, rfl, h1.lt, fun j u hu => ?_⟩⟩
 obtain ⟨hj, _⟩ := List.getElem?_eq_some_iff.1 hu
 rw [E.cells_length] at hj
 rw [Nat.zero_add, h1.cell, h3 j hj, hu]
theorem EOwn.oth {α : Type} {E : Enc α} {e : TypeId} {w w' : World} {g : Nat} {l : List α} {p : TypeId → Prop} (h : EOwn E e w g l) (ho : Oth p w w') (hp : ¬ p e) : EOwn E e w' g l :=
 let ⟨⟨cs, h1, h2, h3⟩⟩ := h; ⟨⟨cs, ho.2 g _ cs h1 hp, h2, h3⟩⟩
inductive RK where
 | eq (u : Value)
 | ma (m : Ma)
 | sl (fs : List Int)
 | tup (m : Ma) (o : Bool)
 | box
 | boxed (m : Ma)
def RK.at_ (b si j : Nat) : RK → Value → World → Prop
 | .eq u0, u, _ => u = u0
 | .ma m, u, v => ∃ e1 e2 e3 e4, u = .agg #[e1, e2, e3, .int .i64 m.c.hand, .int .i64 m.g.count, .int .i64 m.g.next, .int .i64 m.g.round, e4, .int .i64 m.sp] ∧ MaM b v e1 e2 e3 e4 m
 | .sl fs, u, v => ∃ g, u = .slice (some ⟨g, 0, none⟩) fs.length fs.length ∧ EOwn intE 3 v g fs
 | .tup m o, u, v => ∃ e1 e2 e3 e4, u = .tuple #[.agg #[e1, e2, e3, .int .i64 m.c.hand, .int .i64 m.g.count, .int .i64 m.g.next, .int .i64 m.g.round, e4, .int .i64 m.sp], .bool o] ∧ MaM b v e1 e2 e3 e4 m
 | .box, u, v => ∃ g a0 a1 a2 a3 a4 a5 a6 a7 a8, u = .pointer (some ⟨g, 0, none⟩) ∧ b ≤ g ∧ Own v g 48 #[a0, a1, a2, a3, a4, a5, a6, a7, a8]
 | .boxed m, u, v => j = si ∧ ∃ g e1 e2 e3 e4, u = .pointer (some ⟨g, 0, none⟩) ∧ b ≤ g ∧ Own v g 48 #[e1, e2, e3, .int .i64 m.c.hand, .int .i64 m.g.count, .int .i64 m.g.next, .int .i64 m.g.round, e4, .int .i64 m.sp] ∧ MaM b v e1 e2 e3 e4 m
def tA (si i : Nat) (v v' : World) : Prop := if i = si then Oth (fun e => e = 48) v v' ∧ (∀ g a0 a1 a2 a3 a4 a5 a6 a7 a8, Own v g 48 #[a0, a1, a2, a3, a4, a5, a6, a7, a8] → ∃ b0 b1 b2 b3 b4 b5 b6 b7 b8, Own v' g 48 #[b0, b1, b2, b3, b4, b5, b6, b7, b8]) else Below v.heap.size v v'
theorem tA.oth {si i : Nat} {v v' : World} (h : tA si i v v') : Oth (fun e => e = 48) v v' := by
 unfold tA at h
 split at h
 ·exact h.1
 ·exact Oth.of_below h
theorem MaM.othM {b : Nat} {w w' : World} {v1 v2 v3 v4 : Value} {m : Ma} (h : MaM b w v1 v2 v3 v4 m) (ho : Oth (fun e => e = 48) w w') : MaM b w' v1 v2 v3 v4 m := h.oth ho (by decide) (by decide) (by decide) (by decide)
theorem tA_same {si i : Nat} {v : World} : tA si i v v := by
 unfold tA
 split
 ·exact ⟨Oth.of_below bR, fun g a0 a1 a2 a3 a4 a5 a6 a7 a8 h => ⟨_, _, _, _, _, _, _, _, _, h⟩⟩
 ·exact bR
theorem tA_below {si i : Nat} {v v' : World} (hi : i ≠ si) (h : Below v.heap.size v v') : tA si i v v' := by
 unfold tA
 rw [if_neg hi]
 exact h
theorem tch_t {m : Ma} {p n : Int} (h : tchO m p n = true) : (tchV m p n).t = m.t ∧ (tchV m p n).g = m.g ∧ (tchV m p n).sp = m.sp := by
 unfold tchV
 rw [if_pos h]
 split
 ·exact ⟨rfl, rfl, rfl⟩
 ·split <;> exact ⟨rfl, rfl, rfl⟩
theorem tch_fr {m : Ma} {p n : Int} (h : tchO m p n = true) : tchFr m p = if 0 ≤ tchK m p then tchK m p else 0 := by
 obtain ⟨M, _, _⟩ := tchO_parts h
 by_cases hh : 0 ≤ tchH m p
 ·obtain ⟨k, i, x, f, h1, h2, h3, h4, h5, h6, h7, h8⟩ := M.hit hh
  have hk : tchK m p = (i : Int) := by unfold tchK fndI; rw [h8]
  rw [h7, hk, if_pos (by omega)]
 ·unfold tchFr
  rw [if_neg hh]
theorem tch_hit {m : Ma} {p n : Int} (h : tchO m p n = true) (hh : 0 ≤ tchH m p) : 0 ≤ tchK m p := by
 obtain ⟨M, _, _⟩ := tchO_parts h
 obtain ⟨k, i, x, f, h1, h2, h3, h4, h5, h6, h7, h8⟩ := M.hit hh
 have hk : tchK m p = (i : Int) := by unfold tchK fndI; rw [h8]
 omega
def tpO (t : Tab) (sp p n : Int) : Bool := decide (0 ≤ fndI t.fs (keyI sp p) p) && alw (t.fs.getD (fndI t.fs (keyI sp p) p).toNat frz).r n
theorem tch_R {m : Ma} {p n : Int} (h : tchO m p n = true) :
  (tpO m.t m.sp p n = true → (tchR m p n = 1 ∨ tchR m p n = 2) ∧ tchF m p n = tchK m p) ∧ (tpO m.t m.sp p n = false → tchR m p n = 3 ∨ tchR m p n = 4) := by
 have hf := tch_fr h
 have hA : tchA m p n = alw (m.t.fs.getD (tchFr m p).toNat frz).r n := rfl
 have hO : tpO m.t m.sp p n = (decide (0 ≤ tchK m p) && alw (m.t.fs.getD (tchK m p).toNat frz).r n) := rfl
 have hF : tchF m p n = tchFr m p := by unfold tchF; rw [if_pos h]
 rw [hO, hF]
 unfold tchR
 rw [if_pos h]
 by_cases hh : 0 ≤ tchH m p
 ·have hk := tch_hit h hh
  rw [if_pos hk] at hf
  rw [hf] at hA
  rw [if_pos hh, decide_eq_true hk, hA, hf, Bool.true_and]
  cases alw (m.t.fs.getD (tchK m p).toNat frz).r n <;> simp
 ·by_cases hk : 0 ≤ tchK m p
  ·rw [if_pos hk] at hf
   rw [hf] at hA
   rw [if_neg hh, if_pos hk, decide_eq_true hk, hA, hf, Bool.true_and]
   cases alw (m.t.fs.getD (tchK m p).toNat frz).r n <;> simp
  ·rw [if_neg hh, if_neg hk, decide_eq_false hk, Bool.false_and]
   simp
def fbO (m : Ma) (p o n : Int) : Bool := tchO m p n && inR o 64
def fbV (m : Ma) (p o n : Int) : Ma := if fbO m p o n = true then tchV m p n else maz
def fbR (m : Ma) (p o n : Int) : Int := if fbO m p o n = true then tchR m p n else 0
def fbA (m : Ma) (p o n : Int) : Int := if fbO m p o n = true ∧ ¬ (tchR m p n = 3 ∨ tchR m p n = 4) then tchF m p n * 64 + o else 0
theorem fbO_no {m : Ma} {p o n : Int} (h : fbO m p o n = false) : fbV m p o n = maz ∧ fbR m p o n = 0 ∧ fbA m p o n = 0 := by
 unfold fbV fbR fbA
 rw [h]
 exact ⟨rfl, rfl, if_neg (by simp)⟩
theorem fbO_yes {m : Ma} {p o n : Int} (h : fbO m p o n = true) : fbV m p o n = tchV m p n ∧ fbR m p o n = tchR m p n := by
 unfold fbV fbR
 rw [if_pos h, if_pos h]
 exact ⟨rfl, rfl⟩
theorem fbO_parts {m : Ma} {p o n : Int} (h : fbO m p o n = true) : tchO m p n = true ∧ inR o 64 = true := by
 unfold fbO at h
 rw [Bool.and_eq_true] at h
 exact h
theorem fbA_stop {m : Ma} {p o n : Int} (h : tchR m p n = 3 ∨ tchR m p n = 4) : fbA m p o n = 0 := by unfold fbA; rw [if_neg (fun hh => hh.2 h)]
theorem fbA_go {m : Ma} {p o n : Int} (h : fbO m p o n = true) (h2 : ¬ (tchR m p n = 3 ∨ tchR m p n = 4)) : fbA m p o n = tchF m p n * 64 + o := by unfold fbA; rw [if_pos ⟨h, h2⟩]
abbrev Pc := Int × Int × Int
def tbS (n : Int) : List Pc → Ma → List Int → Int → Ma × List Int × Int
 | [], m, pl, last => (m, pl, last)
 | q :: l, m, pl, last =>
  if fbR m q.1 q.2.1 n = 3 ∨ fbR m q.1 q.2.1 n = 4 then (fbV m q.1 q.2.1 n, pl, fbR m q.1 q.2.1 n)
  else tbS n l (fbV m q.1 q.2.1 n) (pl ++ [fbA m q.1 q.2.1 n]) (if fbR m q.1 q.2.1 n = 2 then 2 else last)
def tbL (t : Tab) (sp n : Int) : List Pc → List Int
 | [] => []
 | q :: l => if tpO t sp q.1 n = true then (fndI t.fs (keyI sp q.1) q.1 * 64 + q.2.1) :: tbL t sp n l else []
theorem tbL_len (t : Tab) (sp n : Int) : ∀ l, (tbL t sp n l).length ≤ l.length
  | [] => Nat.le_refl _
  | q :: l => by
    unfold tbL
    have := tbL_len t sp n l
    split <;> simp <;> omega
def pcOK (l : List Pc) : Prop := ∀ q ∈ l, inR q.1 256 = true ∧ inR q.2.1 64 = true
theorem tbS_all {n : Int} (hn : inR n 8 = true) : ∀ (l : List Pc) (m : Ma) (pl : List Int) (last : Int), pcOK l → mav m = true → (last = 1 ∨ last = 2) →
    mav (tbS n l m pl last).1 = true ∧ (tbS n l m pl last).1.t = m.t ∧ (tbS n l m pl last).1.sp = m.sp ∧ (tbS n l m pl last).2.1 = pl ++ tbL m.t m.sp n l ∧
    (((tbS n l m pl last).2.2 = 1 ∨ (tbS n l m pl last).2.2 = 2) ↔ (tbL m.t m.sp n l).length = l.length)
  | [], m, pl, last, _, hm, hl => ⟨hm, rfl, rfl, by simp [tbS, tbL], by simp [tbS, tbL]; exact hl⟩
  | q :: l, m, pl, last, hp, hm, hl => by
    obtain ⟨h1, h2⟩ := hp q (by simp)
    have hO : tchO m q.1 n = true := by unfold tchO; rw [hm, h1, hn]; rfl
    have hF : fbO m q.1 q.2.1 n = true := by unfold fbO; rw [hO, h2]; rfl
    obtain ⟨v1, v2⟩ := fbO_yes hF
    obtain ⟨e1, e2, e3⟩ := tch_t hO
    obtain ⟨r1, r2⟩ := tch_R hO
    unfold tbS tbL
    rw [v1, v2]
    cases ht : tpO m.t m.sp q.1 n with
    | true =>
      obtain ⟨r3, r4⟩ := r1 ht
      have hne : ¬ (tchR m q.1 n = 3 ∨ tchR m q.1 n = 4) := by omega
      rw [if_neg hne, if_pos rfl]
      obtain ⟨i1, i2, i3, i4, i5⟩ := tbS_all hn l (tchV m q.1 n) (pl ++ [fbA m q.1 q.2.1 n]) (if tchR m q.1 n = 2 then 2 else last) (fun x hx => hp x (by simp [hx])) (mav_tch hO) (by split; exact .inr rfl; exact hl)
      refine ⟨i1, i2.trans e1, i3.trans e3, ?_, ?_⟩
      · rw [i4, e1, e3, fbA_go hF hne, r4, List.append_assoc]; rfl
      · rw [i5, e1, e3]; simp
    | false =>
      have r3 := r2 ht
      rw [if_pos r3, if_neg (by simp)]
      refine ⟨mav_tch hO, e1, e3, by simp, ?_⟩
      simp
      omega
def tbO (m : Ma) (p o b n : Int) : Bool := mav m && inR n 8 && pval m.sp p o b
def tbX (m : Ma) (p o b n : Int) : Ma × List Int × Int := if tbO m p o b n = true then tbS n (pcs p o b) m [] 1 else (maz, [], 0)
theorem mav_sp {m : Ma} (h : mav m = true) : inR m.sp 16 = true := by
 have hM := mav_MV.1 h
 unfold mav at h
 simp only [Bool.and_eq_true, decide_eq_true_eq] at h
 obtain ⟨⟨⟨⟨⟨_, _⟩, hg⟩, ho⟩, _⟩, _⟩ := h
 obtain ⟨k, q, _, e2, e3⟩ := ownI_lt ho
 have hk := (List.getElem?_eq_some_iff.1 e2).1
 unfold tgv at hg
 simp only [Bool.and_eq_true] at hg
 have ht := tok_pre (show k + 1 ≤ m.g.os.length by omega) hg.2
 unfold tok at ht
 rw [e2] at ht
 simp only [Bool.and_eq_true] at ht
 rw [← e3]
 exact ht.2.1.1.1.1
theorem pval_sp {s p o b : Int} (h : inR s 16 = true) : pval s p o b = pval 0 p o b := by
 refine bool_iff ?_
 rw [pval_iff, pval_iff, aval_iff, aval_iff]
 have := inR_iff.1 h
 omega
theorem pcs_ok {s p o b : Int} (h : pval s p o b = true) : pcOK (pcs p o b) := by
 intro q hq
 obtain ⟨i, hi⟩ := List.mem_iff_getElem?.1 hq
 have hl := (List.getElem?_eq_some_iff.1 hi).1
 rw [pcs_length] at hl
 rw [pcs_get p o b i hl] at hi
 injection hi with hi
 subst hi
 obtain ⟨h1, h2, h3⟩ := pval_iff.1 h
 obtain ⟨_, ⟨h6, h7⟩, h8, h9⟩ := aval_iff.1 h1
 obtain ⟨h10, h11, h12⟩ := pcn_le h
 refine ⟨inR_iff.2 ?_, inR_iff.2 ?_⟩
 ·show 0 ≤ p + (i : Int) ∧ p + (i : Int) < 256
  omega
 ·show 0 ≤ pcur p o i - (p + i) * 64 ∧ pcur p o i - (p + i) * 64 < 64
  unfold pcur
  split
  ·rename_i h0; subst h0; omega
  ·omega
theorem tbS_step {n : Int} {L : List Pc} {k : Nat} {q : Pc} {m : Ma} {l : List Int} {la : Int} (hq : L[k]? = some q) :
  tbS n (L.drop k) m l la = if fbR m q.1 q.2.1 n = 3 ∨ fbR m q.1 q.2.1 n = 4 then (fbV m q.1 q.2.1 n, l, fbR m q.1 q.2.1 n) else tbS n (L.drop (k + 1)) (fbV m q.1 q.2.1 n) (l ++ [fbA m q.1 q.2.1 n]) (if fbR m q.1 q.2.1 n = 2 then 2 else la) := by
 obtain ⟨hk, e⟩ := List.getElem?_eq_some_iff.1 hq
 rw [List.drop_eq_getElem_cons hk, e]
 rfl
theorem tbO_no {m : Ma} {p o b n : Int} (h : tbO m p o b n = false) : tbX m p o b n = (maz, [], 0) := by unfold tbX; rw [h]; rfl
theorem tbO_yes {m : Ma} {p o b n : Int} (h : tbO m p o b n = true) : mav m = true ∧ inR n 8 = true ∧ pval m.sp p o b = true ∧ tbX m p o b n = tbS n (pcs p o b) m [] 1 := by
 have h2 := h
 unfold tbO at h
 simp only [Bool.and_eq_true] at h
 refine ⟨h.1.1, h.1.2, h.2, ?_⟩
 unfold tbX
 rw [if_pos h2]
def TBR (B : Nat) (X : Ma × List Int × Int) (ok : Bool) (v : Value) (w' : World) : Prop := ∃ (v1 v2 v3 v4 : Value) (A : Option Addr) (c : Nat), v = .tuple #[.agg #[v1, v2, v3, .int .i64 X.1.c.hand, .int .i64 X.1.g.count, .int .i64 X.1.g.next, .int .i64 X.1.g.round, v4, .int .i64 X.1.sp], .slice A X.2.1.length c, .int .i64 X.2.2, .bool ok] ∧ MaM B w' v1 v2 v3 v4 X.1 ∧ SlM intE 3 B w' (.slice A X.2.1.length c) X.2.1
end Go.Proofs.YtibpnlojlfcpmaaGreatDoor
