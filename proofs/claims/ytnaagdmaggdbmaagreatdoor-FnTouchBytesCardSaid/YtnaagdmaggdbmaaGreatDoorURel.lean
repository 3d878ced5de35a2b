/- A part of the proofs of this seat: Rel, Addr. -/
import Derived.Orders
import Derived.Test.YtnaagdmaggdbmaaGreatDoorUMem
set_option linter.unusedVariables false
set_option linter.unusedSimpArgs false
namespace Go.Proofs.YtnaagdmaggdbmaaGreatDoor
open Go.RowKit
def fillA : List Nat → (Nat → Value) → Act → Act
 | [], _, a => a
 | s :: ds, x, a => (fillA ds x a).put (some s) (x s)
def upd (x : Nat → Value) (d : Option Nat) (v : Value) : Nat → Value := fun s => if some s = d then v else x s
theorem fill_get (x : Nat → Value) (a : Act) : ∀ ds : List Nat, (fillA ds x a).tmps.size = a.tmps.size ∧ (fillA ds x a).defers = a.defers ∧ ∀ j, (fillA ds x a).tmps[j]? = if j ∈ ds ∧ j < a.tmps.size then some (x j) else a.tmps[j]?
  | [] => ⟨rfl, rfl, fun j => by simp [fillA]⟩
  | s :: ds => by
    obtain ⟨h1, h2, h3⟩ := fill_get x a ds
    refine ⟨by simp [fillA, Act.put, h1], by simp [fillA, Act.put, h2], fun j => ?_⟩
    simp only [fillA, Act.put]
    rw [Array.getElem?_setIfInBounds, h1]
    by_cases hs : s = j
    · subst hs
      rw [if_pos rfl]
      by_cases hl : s < a.tmps.size
      · rw [if_pos hl, if_pos ⟨by simp, hl⟩]
      · rw [if_neg hl, if_neg (fun h => hl h.2), Array.getElem?_eq_none (by omega)]
    · rw [if_neg hs, h3]
      by_cases hj : j ∈ ds
      · simp [hj]
      · have : ¬ j = s := fun h => hs h.symm
        simp [hj, this]
theorem act_ext {a b : Act} (h1 : a.tmps = b.tmps) (h2 : a.defers = b.defers) : a = b := by cases a; cases b; simp_all
theorem fill_put {ds : List Nat} {x : Nat → Value} {a : Act} {d : Option Nat} {v : Value} (hd : ∀ s, d = some s → s ∈ ds) : (fillA ds x a).put d v = fillA ds (upd x d v) a := by
 obtain ⟨h1, h2, h3⟩ := fill_get x a ds
 obtain ⟨g1, g2, g3⟩ := fill_get (upd x d v) a ds
 cases d with
 | none =>
  have : upd x none v = x := by funext s; simp [upd]
  rw [this]; rfl
 | some s =>
  refine act_ext (Array.ext_getElem? fun j => ?_) (by rw [g2]; exact h2)
  rw [g3]
  show ((fillA ds x a).tmps.setIfInBounds s v)[j]? = _
  rw [Array.getElem?_setIfInBounds, h1, h3]
  by_cases hs : s = j
  ·subst hs
   rw [if_pos rfl]
   have hm := hd s rfl
   by_cases hl : s < a.tmps.size
   ·rw [if_pos hl, if_pos ⟨hm, hl⟩]; simp [upd]
   ·rw [if_neg hl, if_neg (fun h => hl h.2), Array.getElem?_eq_none (by omega)]
  ·rw [if_neg hs]
   have : ¬ j = s := fun h => hs h.symm
   simp [upd, this]
theorem fill_self (ds : List Nat) (a : Act) : fillA ds (fun s => a.tmps.getD s undef) a = a := by
 obtain ⟨h1, h2, h3⟩ := fill_get (fun s => a.tmps.getD s undef) a ds
 refine act_ext (Array.ext_getElem? fun j => ?_) h2
 rw [h3]
 split
 ·rename_i h
  simp [h.2]
 ·rfl
section
variable {P : Program} {ops : Array Oper} {md : Region.Mode} {Q : Exit → Act → World → Prop}
def left_ (L : Array Bool) : Nat → Nat
 | 0 => 0
 | n + 1 => left_ L n + (if L.getD n true = true then 0 else 1)
theorem left_ge {L : Array Bool} {i : Nat} : ∀ n, left_ (L.setIfInBounds i true) n ≤ left_ L n
  | 0 => Nat.le_refl _
  | n + 1 => by
    have h := left_ge (L := L) (i := i) n
    unfold left_
    by_cases hin : i = n
    · subst hin
      by_cases h1 : i < L.size
      · have : (L.setIfInBounds i true).getD i true = true := by simp
        rw [if_pos this]; omega
      · rw [if_pos (by simp)]; omega
    · rw [getD_set_ne true hin]; omega
theorem left_lt {L : Array Bool} {i : Nat} (h : L.getD i true = false) : ∀ n, i < n → left_ (L.setIfInBounds i true) n + 1 ≤ left_ L n
  | 0, hn => absurd hn (by omega)
  | n + 1, hn => by
    unfold left_
    by_cases hin : i = n
    · subst hin
      have e1 : (L.setIfInBounds i true).getD i true = true := by simp
      rw [if_pos e1, if_neg (by rw [h]; simp)]
      have := left_ge (L := L) (i := i) i
      omega
    · have := left_lt h n (by omega)
      rw [getD_set_ne true hin]; omega
theorem left_pos {L : Array Bool} {i : Nat} (h : L.getD i true = false) {n : Nat} (hn : i < n) : 1 ≤ left_ L n := by
 have := left_lt h n hn
 omega
theorem wpAny_inv (I : Array Bool → Act → World → Prop)
    (step : ∀ L a w, I L a w → ∀ i ∈ Region.ready md ops L, wpOp P ops Q i (fun a' w' => I (L.setIfInBounds i true) a' w') a w)
    (fin : ∀ L a w, I L a w → Region.ready md ops L = [] → Q .normal a w) : ∀ fuel L a w, left_ L ops.size ≤ fuel → I L a w → wpAny P md ops Q fuel L a w
  | 0, L, a, w, hf, h => by
    have hr : Region.ready md ops L = [] := by
      cases e : Region.ready md ops L with
      | nil => rfl
      | cons i r =>
        obtain ⟨h0, o, ho, _⟩ := mem_ready.1 (show i ∈ Region.ready md ops L by rw [e]; simp)
        have := left_pos h0 (Array.getElem?_eq_some_iff.1 ho).1
        omega
    exact ⟨hr, fin L a w h hr⟩
  | fuel + 1, L, a, w, hf, h => by
    refine ⟨fin L a w h, fun i hi => wpOp_mono (fun a' w' h' => wpAny_inv I step fin fuel _ a' w' ?_ h') (step L a w h i hi)⟩
    obtain ⟨h0, o, ho, _⟩ := mem_ready.1 hi
    have := left_lt h0 ops.size (Array.getElem?_eq_some_iff.1 ho).1
    omega
def relB (md : Region.Mode) (ops : Array Oper) (ds : List Nat) (rds : List (List Nat)) : Bool :=
  (List.range ops.size).all fun j => match ops[j]? with
    | none => false
    | some o => o.guard.isNone && (match o.dst with | some d => ds.contains d | none => true) && o.after.all (fun e => !Region.binds md e || decide (e.on < j))
        && (List.range ops.size).all fun i => i == j || (match ops[i]? with
          | some oi => (match oi.dst with | some d => !(rds.getD j []).contains d || o.after.any (fun e => Region.binds md e && e.on == i) | none => true)
          | none => true)
theorem relB_at {ds : List Nat} {rds : List (List Nat)} (h : relB md ops ds rds = true) {j : Nat} {o : Oper} (ho : ops[j]? = some o) :
  o.guard = none ∧ (∀ s, o.dst = some s → s ∈ ds) ∧ (∀ e ∈ o.after, Region.binds md e = true → e.on < j) ∧
   ∀ i oi s, ops[i]? = some oi → i ≠ j → oi.dst = some s → s ∈ rds.getD j [] → ∃ e ∈ o.after, Region.binds md e = true ∧ e.on = i := by
 unfold relB at h
 rw [List.all_eq_true] at h
 have h1 := h j (List.mem_range.2 (Array.getElem?_eq_some_iff.1 ho).1)
 rw [ho] at h1
 simp only [Bool.and_eq_true] at h1
 obtain ⟨⟨⟨h1, h2⟩, h3⟩, h4⟩ := h1
 refine ⟨by simpa using h1, fun s hs => ?_, fun e he hb => ?_, fun i oi s hi hne hs hm => ?_⟩
 ·rw [hs] at h2; simpa using h2
 ·have := Array.all_eq_true_iff_forall_mem.1 h3 e he
  rw [hb] at this
  simpa using this
 ·rw [List.all_eq_true] at h4
  have h5 := h4 i (List.mem_range.2 (Array.getElem?_eq_some_iff.1 hi).1)
  rw [hi] at h5
  simp only [hs, Bool.or_eq_true, beq_iff_eq] at h5
  rcases h5 with h5 | h5 | h5
  ·exact absurd h5 hne
  ·have hc : (rds.getD j []).contains s = true := List.contains_iff_mem.2 hm
   rw [hc] at h5
   cases h5
  ·obtain ⟨e, he, hb⟩ := Array.any_eq_true'.1 h5
   simp only [Bool.and_eq_true, beq_iff_eq] at hb
   exact ⟨e, he, hb.1, hb.2⟩
theorem left_le (L : Array Bool) : ∀ n, left_ L n ≤ n
  | 0 => Nat.le_refl _
  | n + 1 => by
    have := left_le L n
    unfold left_
    split <;> omega
theorem getD_both_ {L : Array Bool} {i : Nat} (hi : i < L.size) : L.getD i true = L.getD i false := by simp [hi]
theorem wp_region_rel {id : Nat} {a : Act} {w : World} (hm : P.follows .mixedOrders = true) (ds : List Nat) (rds : List (List Nat)) (C : World → Prop)
    (R : Nat → (Nat → Value) → World → Prop) (T : Nat → World → World → Prop) (hB : relB .any ops ds rds = true) (hC : C w.drew)
    (hR : ∀ j x y v, (∀ s ∈ rds.getD j [], x s = y s) → R j x v → R j y v)
    (hT : ∀ i j x v v', i ≠ j → R j x v → T i v v' → R j x v')
    (step : ∀ i o, ops[i]? = some o → ∀ x v, C v → (∀ e ∈ o.after, Region.binds .any e = true → R e.on x v) → ∀ K : Act → World → Prop,
      (∀ u v', T i v v' → C v' → R i (upd x o.dst u) v' → K ((fillA ds x a).put o.dst u) v') → o.wp P (fillA ds x a) v K Q)
    (fin : ∀ x v, C v → (∀ i, i < ops.size → R i x v) → Q .normal (fillA ds x a) v) : (Code.region id ops true).wp P Q a w := by
  refine wp_region_any hm ?_
  refine wpAny_inv (fun L a' v => ∃ x, a' = fillA ds x a ∧ C v ∧ L.size = ops.size ∧ (∀ j, L.getD j false = true → R j x v) ∧
    ∀ j o, ops[j]? = some o → L.getD j false = true → ∀ e ∈ o.after, Region.binds .any e = true → L.getD e.on false = true) ?_ ?_ _ _ _ _ (left_le _ _) ?_
  · rintro L a' v ⟨x, rfl, hCv, hsz, hL, hcl⟩ i hi
    obtain ⟨h0, o, ho, hdep⟩ := mem_ready.1 hi
    obtain ⟨b1, b2, b3, b4⟩ := relB_at hB ho
    have hisz := (Array.getElem?_eq_some_iff.1 ho).1
    unfold wpOp
    rw [ho]
    simp only [Region.wanted, b1, if_true]
    refine .inl (step i o ho x v hCv (fun e he hb => hL _ (hdep e he hb)) _ (fun u v' hTv hCv' hRi => ?_))
    refine ⟨upd x o.dst u, fill_put b2, hCv', by simpa using hsz, fun j hj => ?_, fun j oj hoj hj e he hb => ?_⟩
    · by_cases hij : i = j
      · subst hij; exact hRi
      · rw [getD_set_ne false hij] at hj
        have hj2 : j < ops.size := by
          rcases Nat.lt_or_ge j L.size with h | h
          · omega
          · simp [Array.getElem?_eq_none h] at hj
        obtain ⟨oj, hoj⟩ : ∃ oj, ops[j]? = some oj := ⟨_, Array.getElem?_eq_getElem hj2⟩
        refine hR j x _ v' (fun s hs => ?_) (hT i j x v v' hij (hL j hj) hTv)
        by_cases hd : o.dst = some s
        · obtain ⟨e, he, hb, hon⟩ := (relB_at hB hoj).2.2.2 i o s ho hij hd hs
          have h1 := hcl j oj hoj hj e he hb
          rw [hon, ← getD_both_ (by omega), h0] at h1
          cases h1
        · unfold upd; rw [if_neg (fun h => hd h.symm)]
    · by_cases hij : i = j
      · subst hij
        rw [ho] at hoj
        injection hoj with hoj
        subst hoj
        exact getD_set_true (hdep e he hb)
      · rw [getD_set_ne false hij] at hj
        exact getD_set_true (hcl j oj hoj hj e he hb)
  · rintro L a' v ⟨x, rfl, hCv, hsz, hL, hcl⟩ hr
    refine fin x v hCv (fun i hi => hL i ?_)
    have hall : ∀ n j, j < n → j < ops.size → L.getD j false = true := by
      intro n
      induction n with
      | zero => intro j h; exact absurd h (by omega)
      | succ n ih =>
        intro j hj hjs
        obtain ⟨oj, hoj⟩ : ∃ oj, ops[j]? = some oj := ⟨_, Array.getElem?_eq_getElem hjs⟩
        by_cases hd : L.getD j true = true
        · rw [← getD_both_ (by omega)]; exact hd
        · have hmem : j ∈ Region.ready .any ops L := mem_ready.2 ⟨by simpa using hd, oj, hoj, fun e he hb => by
            have h1 := (relB_at hB hoj).2.2.1 e he hb
            exact ih e.on (by omega) (by omega)⟩
          rw [hr] at hmem
          cases hmem
    exact hall (i + 1) i (by omega) hi
  · refine ⟨fun s => a.tmps.getD s undef, (fill_self ds a).symm, hC, by simp, fun j hj => ?_, fun j o ho hj => ?_⟩
    all_goals
      exfalso
      rcases Nat.lt_or_ge j ops.size with h | h
      · simp [h] at hj
      · simp [h] at hj
theorem wp_region_rel1 {id : Nat} {a : Act} {w : World} (hm : P.follows .mixedOrders = true) (ds sl : List Nat) (C : World → Prop)
    (R : Nat → Value → World → Prop) (T : Nat → World → World → Prop) (hB : relB .any ops ds (sl.map fun s => [s]) = true) (hs : ops.size = sl.length) (hC : C w.drew)
    (hT : ∀ i j u v v', i ≠ j → R j u v → T i v v' → R j u v')
    (step : ∀ i o, ops[i]? = some o → ∀ x v, C v → (∀ k, (∃ e ∈ o.after, Region.binds .any e = true ∧ e.on = k) → k < sl.length → R k (x (sl.getD k 0)) v) → ∀ K : Act → World → Prop,
      (∀ u v', T i v v' → C v' → R i (upd x o.dst u (sl.getD i 0)) v' → K ((fillA ds x a).put o.dst u) v') → o.wp P (fillA ds x a) v K Q)
    (fin : ∀ x v, C v → (∀ i, i < sl.length → R i (x (sl.getD i 0)) v) → Q .normal (fillA ds x a) v) : (Code.region id ops true).wp P Q a w := by
  refine wp_region_rel hm ds (sl.map fun s => [s]) C (fun j x v => j < sl.length → R j (x (sl.getD j 0)) v) T hB hC ?_ ?_ ?_ ?_
  · intro j x y v h hr hj
    have e := h (sl.getD j 0) (by simp [List.getD_eq_getElem?_getD, hj])
    rw [← e]
    exact hr hj
  · exact fun i j x v v' hij h ht hj => hT i j _ v v' hij (h hj) ht
  · intro i o ho x v hCv hd K hK
    refine step i o ho x v hCv (fun k ⟨e, he, hb, hk⟩ hl => ?_) K (fun u v' h1 h2 h3 => hK u v' h1 h2 (fun _ => h3))
    subst hk
    exact hd e he hb hl
  · intro x v hCv h
    exact fin x v hCv (fun i hi => h i (by omega) hi)
end
end Go.Proofs.YtnaagdmaggdbmaaGreatDoor
namespace Go.Proofs.YtnaagdmaggdbmaaGreatDoor
open Go.RowKit
def aval (s p o : Int) : Bool := inR s 16 && inR p 256 && inR o 64
theorem inR_iff {n e : Int} : inR n e = true ↔ 0 ≤ n ∧ n < e := by unfold inR; rw [Bool.and_eq_true, decide_eq_true_eq, decide_eq_true_eq]
theorem aval_iff {s p o : Int} : aval s p o = true ↔ (0 ≤ s ∧ s < 16) ∧ (0 ≤ p ∧ p < 256) ∧ (0 ≤ o ∧ o < 64) := by
 unfold aval; rw [Bool.and_eq_true, Bool.and_eq_true, inR_iff, inR_iff, inR_iff, and_assoc]
theorem bool_ff {b : Bool} (h : ¬ b = true) : b = false := by simpa using h
theorem AddressValid_any (s p o : Int) (w : World) : Calls Tryz.prog 165 #[.agg #[.int .i64 s, .int .i64 p, .int .i64 o]] w fun r w' => r = .returned (.bool (aval s p o)) ∧ Below w.heap.size w w' := by
 by_cases h1 : inR s 16 = true
 ·by_cases h2 : inR p 256 = true
  ·have H : Hid (aval s p o = inR o 64) := by show _ = _; unfold aval; rw [h1, h2]; simp
   go_enter Tryz.func165, Tryz.ntmps165
   go_wp2_with (go_at_call 77; refine (within_any _ _ _).mono ?_; rintro e w' ⟨rfl, rfl⟩)
   go_ret
   exact ⟨by rw [H.out]; rfl, bA bR⟩
  ·have h2 := bool_ff h2
   have H : Hid (aval s p o = false) := by show _ = _; unfold aval; rw [h1, h2]; simp
   go_enter Tryz.func165, Tryz.ntmps165
   go_wp2_with (go_at_call 77; refine (within_any _ _ _).mono ?_; rintro e w' ⟨rfl, rfl⟩)
   go_ret
   exact ⟨by rw [H.out]; rfl, bA bR⟩
 ·have h1 := bool_ff h1
  have H : Hid (aval s p o = false) := by show _ = _; unfold aval; rw [h1]; simp
  go_enter Tryz.func165, Tryz.ntmps165
  go_wp2_with (go_at_call 77; refine (within_any _ _ _).mono ?_; rintro e w' ⟨rfl, rfl⟩)
  go_ret
  exact ⟨by rw [H.out]; rfl, bA bR⟩
theorem l1Space_any (n : Int) (w : World) : Calls Tryz.prog 188 #[.int .i64 n] w fun r w' => r = .returned (.bool (inR n 16)) ∧ w = w' := by
 by_cases h0 : 0 ≤ n
 ·have H : Hid (inR n 16 = decide (n < 16)) := by simp [Hid, inR, h0]
  go_enter Tryz.func188, Tryz.ntmps188
  go_wp2
  go_ret
  exact ⟨by rw [H.out]; rfl, rfl⟩
 ·have H : Hid (inR n 16 = false) := by simp [Hid, inR, h0]
  go_enter Tryz.func188, Tryz.ntmps188
  go_wp2
  go_ret
  exact ⟨by rw [H.out]; rfl, rfl⟩
theorem l1Page_any (n : Int) (w : World) : Calls Tryz.prog 141 #[.int .i64 n] w fun r w' => r = .returned (.bool (inR n 256)) ∧ w = w' := by
 by_cases h0 : 0 ≤ n
 ·have H : Hid (inR n 256 = decide (n < 256)) := by simp [Hid, inR, h0]
  go_enter Tryz.func141, Tryz.ntmps141
  go_wp2
  go_ret
  exact ⟨by rw [H.out]; rfl, rfl⟩
 ·have H : Hid (inR n 256 = false) := by simp [Hid, inR, h0]
  go_enter Tryz.func141, Tryz.ntmps141
  go_wp2
  go_ret
  exact ⟨by rw [H.out]; rfl, rfl⟩
theorem sAddressValid_any (s p o : Int) (w : World) : Calls Tryz.prog 215 #[.agg #[.int .i64 s, .int .i64 p, .int .i64 o]] w fun r w' => r = .returned (.bool (aval s p o)) ∧ Below w.heap.size w w' := by
 by_cases h1 : inR s 16 = true
 ·by_cases h2 : inR p 256 = true
  ·by_cases h3 : 0 ≤ o
   ·have H : Hid (aval s p o = decide (o < 64)) := by show _ = _; unfold aval; rw [h1, h2]; simp [inR, h3]
    go_enter Tryz.func215, Tryz.ntmps215
    go_wp2_with (first | (go_at_call 188; refine (l1Space_any _ _).mono ?_; rintro e w' ⟨rfl, rfl⟩) | (go_at_call 141; refine (l1Page_any _ _).mono ?_; rintro e w' ⟨rfl, rfl⟩))
    go_ret
    exact ⟨by rw [H.out]; rfl, bA bR⟩
   ·have H : Hid (aval s p o = false) := by show _ = _; unfold aval; rw [h1, h2]; simp [inR, h3]
    go_enter Tryz.func215, Tryz.ntmps215
    go_wp2_with (first | (go_at_call 188; refine (l1Space_any _ _).mono ?_; rintro e w' ⟨rfl, rfl⟩) | (go_at_call 141; refine (l1Page_any _ _).mono ?_; rintro e w' ⟨rfl, rfl⟩))
    go_ret
    exact ⟨by rw [H.out]; rfl, bA bR⟩
  ·have h2 := bool_ff h2
   have H : Hid (aval s p o = false) := by show _ = _; unfold aval; rw [h1, h2]; simp
   go_enter Tryz.func215, Tryz.ntmps215
   go_wp2_with (first | (go_at_call 188; refine (l1Space_any _ _).mono ?_; rintro e w' ⟨rfl, rfl⟩) | (go_at_call 141; refine (l1Page_any _ _).mono ?_; rintro e w' ⟨rfl, rfl⟩))
   go_ret
   exact ⟨by rw [H.out]; rfl, bA bR⟩
 ·have h1 := bool_ff h1
  have H : Hid (aval s p o = false) := by show _ = _; unfold aval; rw [h1]; simp
  go_enter Tryz.func215, Tryz.ntmps215
  go_wp2_with (first | (go_at_call 188; refine (l1Space_any _ _).mono ?_; rintro e w' ⟨rfl, rfl⟩) | (go_at_call 141; refine (l1Page_any _ _).mono ?_; rintro e w' ⟨rfl, rfl⟩))
  go_ret
  exact ⟨by rw [H.out]; rfl, bA bR⟩
def mvv (s p o n : Int) : Bool := aval s p o && decide (-16384 < n) && decide (n < 16384) && inR (p * 64 + o + n) 16384
def mvA (s p o n : Int) : Array Value := if mvv s p o n = true then #[.int .i64 s, .int .i64 ((p * 64 + o + n) / 64), .int .i64 ((p * 64 + o + n) % 64)] else #[.int .i64 0, .int .i64 0, .int .i64 0]
theorem mvv_iff {s p o n : Int} : mvv s p o n = true ↔ aval s p o = true ∧ (-16384 < n ∧ n < 16384) ∧ (0 ≤ p * 64 + o + n ∧ p * 64 + o + n < 16384) := by
 unfold mvv
 rw [Bool.and_eq_true, Bool.and_eq_true, Bool.and_eq_true, decide_eq_true_eq, decide_eq_true_eq, inR_iff, and_assoc, and_assoc, and_assoc]
theorem two_box {w w1 : World} {t t' : TypeId} {cs cs' : Array Value} (hb : Below ((w.alloc (.cells cs t)).alloc (.cells cs' t')).heap.size ((w.alloc (.cells cs t)).alloc (.cells cs' t')) w1) :
  Own w1 w.heap.size t cs ∧ Own w1 (w.heap.size + 1) t' cs' ∧ Below w.heap.size w w1 := by
 refine ⟨((Own.new_ w t cs).alloc).below hb, ?_, bT (bA (bA bR)) hb⟩
 have h := Own.new_ (w.alloc (.cells cs t)) t' cs'
 rw [show (w.alloc (.cells cs t)).heap.size = w.heap.size + 1 by simp] at h
 exact h.below hb
theorem one_box {w w1 : World} {t : TypeId} {cs : Array Value} (hb : Below (w.alloc (.cells cs t)).heap.size (w.alloc (.cells cs t)) w1) : Own w1 w.heap.size t cs ∧ Below w.heap.size w w1 :=
 ⟨(Own.new_ w t cs).below hb, bT (bA bR) hb⟩
theorem Own.set3 {w : World} {g : Nat} {t : TypeId} {a b c x y z : Value} (h : Own w g t #[a, b, c]) :
  Own (((w.setCell ⟨g, 0, none⟩ x).setCell ⟨g, 1, none⟩ y).setCell ⟨g, 2, none⟩ z) g t #[x, y, z] := by
 have := ((h.set_ 0 x).set_ 1 y).set_ 2 z
 simpa using this
set_option maxHeartbeats 1000000 in
theorem sMoveAddress_any (s p o n : Int) (w : World) : Calls Tryz.prog 209 #[.agg #[.int .i64 s, .int .i64 p, .int .i64 o], .int .i64 n] w fun r w' => r = .returned (.tuple #[.agg (mvA s p o n), .bool (mvv s p o n)]) ∧ Below w.heap.size w w' := by
 by_cases hv : mvv s p o n = true
 ·obtain ⟨h1, ⟨h2, h3⟩, h4, h5⟩ := mvv_iff.1 hv
  obtain ⟨_, ⟨h6, h7⟩, h8, h9⟩ := aval_iff.1 h1
  have HV : Hid (mvv s p o n = true) := hv
  have HA : Hid (mvA s p o n = #[.int .i64 s, .int .i64 ((p * 64 + o + n) / 64), .int .i64 ((p * 64 + o + n) % 64)]) := by show _ = _; unfold mvA; rw [if_pos hv]
  have hi : inR (p * 64 + o + n) 16384 = true := inR_iff.2 ⟨h4, h5⟩
  have k1 : IntKind.i64.wrap (p * 64) = p * 64 := IntWalk.i64_in _ (by omega)
  have k2 : IntKind.i64.wrap (p * 64 + o) = p * 64 + o := IntWalk.i64_in _ (by omega)
  have k3 : IntKind.i64.wrap (p * 64 + o + n) = p * 64 + o + n := IntWalk.i64_in _ (by omega)
  have g1 : ¬ n ≤ -16384 := by omega
  have g2 : ¬ 16384 ≤ n := by omega
  clear hv
  go_enter Tryz.func209, Tryz.ntmps209
  go_wp2_with fail
  refine (sAddressValid_any _ _ _ _).mono ?_
  rintro e w1 ⟨rfl, hb1⟩
  obtain ⟨oa, or, hbw⟩ := two_box hb1
  have a0 := oa.cell_ 0 (v := .int .i64 s) rfl
  have a1 := oa.cell_ 1 (v := .int .i64 p) rfl
  have a2 := oa.cell_ 2 (v := .int .i64 o) rfl
  have r0 := or.cell_ 0 (v := .int .i64 0) rfl
  have r1 := or.cell_ 1 (v := .int .i64 0) rfl
  have r2 := or.cell_ 2 (v := .int .i64 0) rfl
  have f0 := or.free 0
  have f1 := or.free 1
  have f2 := or.free 2
  have OR := Lib.hid or
  clear oa or hb1
  rw [h1]
  go_wp2
  have o3 := OR.out.set3 (x := .int .i64 s) (y := .int .i64 ((p * 64 + o + n) / 64)) (z := .int .i64 ((p * 64 + o + n) % 64))
  have t0 := o3.cell_ 0 (v := .int .i64 s) rfl
  have t1 := o3.cell_ 1 (v := .int .i64 ((p * 64 + o + n) / 64)) rfl
  have t2 := o3.cell_ 2 (v := .int .i64 ((p * 64 + o + n) % 64)) rfl
  clear o3
  refine bodyPost_ret (v := .tuple #[.agg #[.int .i64 s, .int .i64 ((p * 64 + o + n) / 64), .int .i64 ((p * 64 + o + n) % 64)], .bool true]) (by simp [results, Tryz.results209, go_sem, t0, t1, t2]) rfl ⟨by rw [HA.out, HV.out], ?_⟩
  exact bS (bS (bS hbw (by simp)) (by simp)) (by simp)
 ·have hv := bool_ff hv
  have HV : Hid (mvv s p o n = false) := hv
  have HA : Hid (mvA s p o n = #[.int .i64 0, .int .i64 0, .int .i64 0]) := by show _ = _; unfold mvA; rw [hv]; rfl
  by_cases h1 : aval s p o = true
  ·obtain ⟨_, ⟨h6, h7⟩, h8, h9⟩ := aval_iff.1 h1
   by_cases g1 : n ≤ -16384
   ·clear hv
    go_enter Tryz.func209, Tryz.ntmps209
    go_wp2_with fail
    refine (sAddressValid_any _ _ _ _).mono ?_
    rintro e w1 ⟨rfl, hb1⟩
    obtain ⟨oa, or, hbw⟩ := two_box hb1
    have a0 := oa.cell_ 0 (v := .int .i64 s) rfl
    have a1 := oa.cell_ 1 (v := .int .i64 p) rfl
    have a2 := oa.cell_ 2 (v := .int .i64 o) rfl
    have r0 := or.cell_ 0 (v := .int .i64 0) rfl
    have r1 := or.cell_ 1 (v := .int .i64 0) rfl
    have r2 := or.cell_ 2 (v := .int .i64 0) rfl
    have f0 := or.free 0
    have f1 := or.free 1
    have f2 := or.free 2
    have OR := Lib.hid or
    clear oa or hb1
    rw [h1]
    go_wp2
    refine bodyPost_ret (v := .tuple #[.agg #[.int .i64 0, .int .i64 0, .int .i64 0], .bool false]) (by simp [results, Tryz.results209, go_sem, r0, r1, r2]) rfl ⟨by rw [HA.out, HV.out], ?_⟩
    first | exact hbw | exact bS (bS (bS hbw (by simp)) (by simp)) (by simp)
   ·by_cases g2 : 16384 ≤ n
    ·clear hv
     go_enter Tryz.func209, Tryz.ntmps209
     go_wp2_with fail
     refine (sAddressValid_any _ _ _ _).mono ?_
     rintro e w1 ⟨rfl, hb1⟩
     obtain ⟨oa, or, hbw⟩ := two_box hb1
     have a0 := oa.cell_ 0 (v := .int .i64 s) rfl
     have a1 := oa.cell_ 1 (v := .int .i64 p) rfl
     have a2 := oa.cell_ 2 (v := .int .i64 o) rfl
     have r0 := or.cell_ 0 (v := .int .i64 0) rfl
     have r1 := or.cell_ 1 (v := .int .i64 0) rfl
     have r2 := or.cell_ 2 (v := .int .i64 0) rfl
     have f0 := or.free 0
     have f1 := or.free 1
     have f2 := or.free 2
     have OR := Lib.hid or
     clear oa or hb1
     rw [h1]
     go_wp2
     refine bodyPost_ret (v := .tuple #[.agg #[.int .i64 0, .int .i64 0, .int .i64 0], .bool false]) (by simp [results, Tryz.results209, go_sem, r0, r1, r2]) rfl ⟨by rw [HA.out, HV.out], ?_⟩
     first | exact hbw | exact bS (bS (bS hbw (by simp)) (by simp)) (by simp)
    ·have hi : inR (p * 64 + o + n) 16384 = false := by
      apply bool_ff
      intro h
      rw [mvv_iff.2 ⟨h1, ⟨by omega, by omega⟩, inR_iff.1 h⟩] at hv
      cases hv
     have k1 : IntKind.i64.wrap (p * 64) = p * 64 := IntWalk.i64_in _ (by omega)
     have k2 : IntKind.i64.wrap (p * 64 + o) = p * 64 + o := IntWalk.i64_in _ (by omega)
     have k3 : IntKind.i64.wrap (p * 64 + o + n) = p * 64 + o + n := IntWalk.i64_in _ (by omega)
     have hneg : ¬ (0 ≤ p * 64 + o + n ∧ p * 64 + o + n < 16384) := fun h => by rw [inR_iff.2 h] at hi; cases hi
     clear hv
     by_cases hn0 : p * 64 + o + n < 0
     ·clear hneg
      go_enter Tryz.func209, Tryz.ntmps209
      go_wp2_with fail
      refine (sAddressValid_any _ _ _ _).mono ?_
      rintro e w1 ⟨rfl, hb1⟩
      obtain ⟨oa, or, hbw⟩ := two_box hb1
      have a0 := oa.cell_ 0 (v := .int .i64 s) rfl
      have a1 := oa.cell_ 1 (v := .int .i64 p) rfl
      have a2 := oa.cell_ 2 (v := .int .i64 o) rfl
      have r0 := or.cell_ 0 (v := .int .i64 0) rfl
      have r1 := or.cell_ 1 (v := .int .i64 0) rfl
      have r2 := or.cell_ 2 (v := .int .i64 0) rfl
      have f0 := or.free 0
      have f1 := or.free 1
      have f2 := or.free 2
      have OR := Lib.hid or
      clear oa or hb1
      rw [h1]
      go_wp2
      refine bodyPost_ret (v := .tuple #[.agg #[.int .i64 0, .int .i64 0, .int .i64 0], .bool false]) (by simp [results, Tryz.results209, go_sem, r0, r1, r2]) rfl ⟨by rw [HA.out, HV.out], ?_⟩
      first | exact hbw | exact bS (bS (bS hbw (by simp)) (by simp)) (by simp)
     ·have hn1 : 16384 ≤ p * 64 + o + n := by omega
      clear hneg
      go_enter Tryz.func209, Tryz.ntmps209
      go_wp2_with fail
      refine (sAddressValid_any _ _ _ _).mono ?_
      rintro e w1 ⟨rfl, hb1⟩
      obtain ⟨oa, or, hbw⟩ := two_box hb1
      have a0 := oa.cell_ 0 (v := .int .i64 s) rfl
      have a1 := oa.cell_ 1 (v := .int .i64 p) rfl
      have a2 := oa.cell_ 2 (v := .int .i64 o) rfl
      have r0 := or.cell_ 0 (v := .int .i64 0) rfl
      have r1 := or.cell_ 1 (v := .int .i64 0) rfl
      have r2 := or.cell_ 2 (v := .int .i64 0) rfl
      have f0 := or.free 0
      have f1 := or.free 1
      have f2 := or.free 2
      have OR := Lib.hid or
      clear oa or hb1
      rw [h1]
      go_wp2
      refine bodyPost_ret (v := .tuple #[.agg #[.int .i64 0, .int .i64 0, .int .i64 0], .bool false]) (by simp [results, Tryz.results209, go_sem, r0, r1, r2]) rfl ⟨by rw [HA.out, HV.out], ?_⟩
      first | exact hbw | exact bS (bS (bS hbw (by simp)) (by simp)) (by simp)
  ·have h1 := bool_ff h1
   clear hv
   go_enter Tryz.func209, Tryz.ntmps209
   go_wp2_with fail
   refine (sAddressValid_any _ _ _ _).mono ?_
   rintro e w1 ⟨rfl, hb1⟩
   obtain ⟨oa, or, hbw⟩ := two_box hb1
   have a0 := oa.cell_ 0 (v := .int .i64 s) rfl
   have a1 := oa.cell_ 1 (v := .int .i64 p) rfl
   have a2 := oa.cell_ 2 (v := .int .i64 o) rfl
   have r0 := or.cell_ 0 (v := .int .i64 0) rfl
   have r1 := or.cell_ 1 (v := .int .i64 0) rfl
   have r2 := or.cell_ 2 (v := .int .i64 0) rfl
   have f0 := or.free 0
   have f1 := or.free 1
   have f2 := or.free 2
   have OR := Lib.hid or
   clear oa or hb1
   rw [h1]
   go_wp2
   refine bodyPost_ret (v := .tuple #[.agg #[.int .i64 0, .int .i64 0, .int .i64 0], .bool false]) (by simp [results, Tryz.results209, go_sem, r0, r1, r2]) rfl ⟨by rw [HA.out, HV.out], ?_⟩
   first | exact hbw | exact bS (bS (bS hbw (by simp)) (by simp)) (by simp)
end Go.Proofs.YtnaagdmaggdbmaaGreatDoor
