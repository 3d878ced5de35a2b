set_option linter.unusedVariables false
namespace Go.Proofs.Ytebodfciiikokaa.Tr
abbrev K := Int × Int

/-- where a key comes next, from place i on -/
def nextU (tr : List K) (i : Nat) (k : K) : Nat := i + (tr.drop i).idxOf k

/-- hits: the state after i rounds -/
def hst (mv : Bool) (vic : List K → Nat → Nat) (lines : Nat) (tr : List K) : Nat → List K × Nat
  | 0 => ([], 0)
  | i + 1 =>
    let s := hst mv vic lines tr i
    match tr[i]? with
    | none => s
    | some x =>
      if x ∈ s.1 then (if mv then s.1.erase x ++ [x] else s.1, s.2 + 1)
      else ((if s.1.length = lines then s.1.eraseIdx (vic s.1 i) else s.1) ++ [x], s.2)

/-- farthest: the first place of a greatest value, after looking at n places -/
def far (f : K → Nat) (l : List K) : Nat → Nat
  | 0 => 0
  | n + 1 => match l[n]?, l[far f l n]? with
    | some a, some b => if f a > f b then n else far f l n
    | _, _ => far f l n

def vFirst : List K → Nat → Nat := fun _ _ => 0
def vFar (tr : List K) : List K → Nat → Nat := fun h i => far (nextU tr i) h h.length

def fifo (tr : List K) (lines : Nat) : Nat := (hst false vFirst lines tr tr.length).2
def lru (tr : List K) (lines : Nat) : Nat := (hst true vFirst lines tr tr.length).2
def best (tr : List K) (lines : Nat) : Nat := (hst false (vFar tr) lines tr tr.length).2

theorem far_lt (f : K → Nat) (l : List K) (hl : 0 < l.length) : ∀ n, far f l n < l.length := by
  intro n
  induction n with
  | zero => simpa [far]
  | succ n ih =>
    unfold far
    split
    · split
      · rename_i a b ha hb _
        exact (List.getElem?_eq_some_iff.1 ha).1
      · exact ih
    · exact ih

theorem far_max (f : K → Nat) (l : List K) (hl : 0 < l.length) : ∀ n, n ≤ l.length → ∀ j (hj : j < n) (hjl : j < l.length), f l[j] ≤ f (l[far f l n]'(far_lt f l hl n)) := by
  intro n
  induction n with
  | zero => intro _ j hj; omega
  | succ n ih =>
    intro hn j hj hjl
    have hnl : n < l.length := by omega
    have hf := far_lt f l hl n
    have e : far f l (n + 1) = if f l[n] > f l[far f l n] then n else far f l n := by
      conv => lhs; unfold far
      rw [List.getElem?_eq_getElem hnl, List.getElem?_eq_getElem hf]
    have key : f (l[far f l (n+1)]'(far_lt f l hl (n+1))) = if f l[n] > f l[far f l n] then f l[n] else f l[far f l n] := by
      split
      · rename_i h; rw [if_pos h] at e; simp only [e]
      · rename_i h; rw [if_neg h] at e; simp only [e]
    rw [key]
    rcases Nat.lt_or_ge j n with h | h
    · have := ih (by omega) j h hjl
      split <;> omega
    · have : j = n := by omega
      subst this
      split <;> omega

variable {mv : Bool} {vic : List K → Nat → Nat} {lines : Nat} {tr : List K}

theorem hst_succ (i : Nat) (hi : i < tr.length) : hst mv vic lines tr (i + 1) =
    if tr[i] ∈ (hst mv vic lines tr i).1 then (if mv then (hst mv vic lines tr i).1.erase tr[i] ++ [tr[i]] else (hst mv vic lines tr i).1, (hst mv vic lines tr i).2 + 1)
      else ((if (hst mv vic lines tr i).1.length = lines then (hst mv vic lines tr i).1.eraseIdx (vic (hst mv vic lines tr i).1 i) else (hst mv vic lines tr i).1) ++ [tr[i]], (hst mv vic lines tr i).2) := by
  conv => lhs; unfold hst
  simp [List.getElem?_eq_getElem hi]

theorem hst_nodup : ∀ i, (hst mv vic lines tr i).1.Nodup := by
  intro i
  induction i with
  | zero => simp [hst]
  | succ i ih =>
    rcases Nat.lt_or_ge i tr.length with hi | hi
    · rw [hst_succ i hi]
      split
      · split
        · rw [List.nodup_append]
          refine ⟨ih.erase _, by simp, ?_⟩
          intro a ha b hb
          simp only [List.mem_singleton] at hb
          subst hb
          intro e
          subst e
          exact absurd ha (by rw [ih.mem_erase_iff]; simp)
        · exact ih
      · rename_i hx
        rw [List.nodup_append]
        refine ⟨?_, by simp, ?_⟩
        · split
          · exact ih.sublist (List.eraseIdx_sublist _ _)
          · exact ih
        · intro a ha b hb
          simp only [List.mem_singleton] at hb
          subst hb
          rintro rfl
          apply hx
          split at ha
          · exact (List.eraseIdx_sublist _ _).subset ha
          · exact ha
    · unfold hst
      rw [List.getElem?_eq_none hi]
      exact ih

/-- a chosen place is one of the list -/
def Picks (vic : List K → Nat → Nat) : Prop := ∀ (h : List K) i, 0 < h.length → vic h i < h.length

theorem picks_first : Picks vFirst := fun h _ hl => by simpa [vFirst]
theorem picks_far (tr : List K) : Picks (vFar tr) := fun h i hl => far_lt _ h hl _

theorem hst_len (hv : Picks vic) (hk : 1 ≤ lines) : ∀ i, (hst mv vic lines tr i).1.length ≤ lines := by
  intro i
  induction i with
  | zero => simp [hst]
  | succ i ih =>
    rcases Nat.lt_or_ge i tr.length with hi | hi
    · rw [hst_succ i hi]
      split
      · rename_i hx
        split
        · rw [List.length_append, List.length_erase_of_mem hx]
          have : 0 < (hst mv vic lines tr i).1.length := List.length_pos_of_mem hx
          simp; omega
        · exact ih
      · split
        · rename_i hl
          rw [List.length_append, List.length_eraseIdx_of_lt (hv _ _ (by omega))]
          simp; omega
        · simp; omega
    · unfold hst
      rw [List.getElem?_eq_none hi]
      exact ih

theorem hst_hits : ∀ i, (hst mv vic lines tr i).2 ≤ i := by
  intro i
  induction i with
  | zero => simp [hst]
  | succ i ih =>
    rcases Nat.lt_or_ge i tr.length with hi | hi
    · rw [hst_succ i hi]
      split <;> simp <;> omega
    · unfold hst
      rw [List.getElem?_eq_none hi]
      simp; omega

theorem hst_mono : ∀ i, (hst mv vic lines tr i).2 ≤ (hst mv vic lines tr (i+1)).2 := by
  intro i
  rcases Nat.lt_or_ge i tr.length with hi | hi
  · rw [hst_succ i hi]
    split <;> simp
  · conv => rhs; unfold hst
    rw [List.getElem?_eq_none hi]
    simp

theorem hst_mono_le {i j : Nat} (h : i ≤ j) : (hst mv vic lines tr i).2 ≤ (hst mv vic lines tr j).2 := by
  induction h with
  | refl => exact Nat.le_refl _
  | step _ ih => exact Nat.le_trans ih (hst_mono _)

/-- only seen keys are held -/
theorem hst_seen : ∀ i, ∀ x ∈ (hst mv vic lines tr i).1, x ∈ tr.take i := by
  intro i
  induction i with
  | zero => simp [hst]
  | succ i ih =>
    rcases Nat.lt_or_ge i tr.length with hi | hi
    · rw [hst_succ i hi, List.take_succ_eq_append_getElem hi]
      intro x hx
      rw [List.mem_append]
      split at hx
      · rename_i hm
        left
        split at hx
        · simp only [List.mem_append, List.mem_singleton] at hx
          rcases hx with h | rfl
          · exact ih x (List.mem_of_mem_erase h)
          · exact ih _ hm
        · exact ih x hx
      · simp only [List.mem_append, List.mem_singleton] at hx
        rcases hx with h | rfl
        · left
          apply ih
          split at h
          · exact (List.eraseIdx_sublist _ _).subset h
          · exact h
        · right; simp
    · intro x hx
      unfold hst at hx
      rw [List.getElem?_eq_none hi] at hx
      have := ih x hx
      rw [List.take_of_length_le (by omega)]
      exact List.mem_of_mem_take this

/-! ### Belady -/
/-- how many of the list have f at most T -/
def cnt (f : K → Nat) (T : Nat) (l : List K) : Nat := l.countP (fun x => decide (f x ≤ T))

theorem cnt_append (f : K → Nat) (T : Nat) (l m : List K) : cnt f T (l ++ m) = cnt f T l + cnt f T m := by
  simp [cnt, List.countP_append]
theorem cnt_single (f : K → Nat) (T : Nat) (x : K) : cnt f T [x] = if f x ≤ T then 1 else 0 := by
  simp [cnt, List.countP_cons]
theorem cnt_cons (f : K → Nat) (T : Nat) (x : K) (l : List K) : cnt f T (x :: l) = cnt f T l + if f x ≤ T then 1 else 0 := by
  simp [cnt, List.countP_cons]
theorem cnt_erase (f : K → Nat) (T : Nat) (l : List K) (x : K) (hx : x ∈ l) : cnt f T (l.erase x) + (if f x ≤ T then 1 else 0) = cnt f T l := by
  have h : cnt f T l = cnt f T (x :: l.erase x) := (List.perm_cons_erase hx).countP_eq _
  rw [h, cnt_cons]
theorem cnt_eraseIdx (f : K → Nat) (T : Nat) : ∀ (l : List K) (i : Nat) (hi : i < l.length), cnt f T (l.eraseIdx i) + (if f l[i] ≤ T then 1 else 0) = cnt f T l
  | [], i, hi => by simp at hi
  | x :: l, 0, _ => by simp [cnt_cons]
  | x :: l, i + 1, hi => by
    have := cnt_eraseIdx f T l i (by simpa using hi)
    simp only [List.eraseIdx_cons_succ, cnt_cons, List.getElem_cons_succ]
    omega
theorem cnt_le (f : K → Nat) (T : Nat) (l : List K) : cnt f T l ≤ l.length := List.countP_le_length
theorem cnt_all (f : K → Nat) (T : Nat) (l : List K) (h : ∀ x ∈ l, f x ≤ T) : cnt f T l = l.length := by
  unfold cnt; rw [List.countP_eq_length]; intro x hx; simpa using h x hx


theorem nextU_ge (tr : List K) (i : Nat) (k : K) : i ≤ nextU tr i k := by unfold nextU; omega
theorem nextU_hit (tr : List K) (i : Nat) (hi : i < tr.length) : nextU tr i tr[i] = i := by
  unfold nextU
  rw [List.drop_eq_getElem_cons hi]
  rw [List.idxOf_cons_self]; rfl
theorem nextU_miss (tr : List K) (i : Nat) (hi : i < tr.length) (k : K) (h : k ≠ tr[i]) : nextU tr i k = nextU tr (i + 1) k := by
  unfold nextU
  rw [List.drop_eq_getElem_cons hi, List.idxOf_cons]
  have : (tr[i] == k) = false := by simpa using Ne.symm h
  rw [this]
  simp
  omega
theorem nextU_eq (tr : List K) (i : Nat) (hi : i < tr.length) (k : K) (h : nextU tr i k ≤ i) : k = tr[i] := by
  rcases Decidable.em (k = tr[i]) with h' | h'
  · exact h'
  · rw [nextU_miss tr i hi k h'] at h
    have := nextU_ge tr (i+1) k
    omega

theorem cnt_congr (f g : K → Nat) (T : Nat) (l : List K) (h : ∀ x ∈ l, f x = g x) : cnt f T l = cnt g T l := by
  unfold cnt
  apply List.countP_congr
  intro x hx
  rw [h x hx]

/-- who holds the present key has exactly one place at most i, who does not has none -/
theorem cnt_now (tr : List K) (i : Nat) (hi : i < tr.length) (l : List K) (hm : tr[i] ∈ l) : 1 ≤ cnt (nextU tr i) i l := by
  unfold cnt
  rw [Nat.succ_le_iff, List.countP_pos_iff]
  exact ⟨_, hm, by simp [nextU_hit tr i hi]⟩
theorem cnt_now_not (tr : List K) (i : Nat) (hi : i < tr.length) (l : List K) (hm : tr[i] ∉ l) : cnt (nextU tr i) i l = 0 := by
  unfold cnt
  rw [List.countP_eq_zero]
  intro x hx
  simp only [decide_eq_true_eq]
  intro h
  have := nextU_eq tr i hi x h
  subst this
  exact hm hx

/-- counting behind the present place, where the present key is not in the list -/
theorem cnt_next (tr : List K) (i T : Nat) (hi : i < tr.length) (l : List K) (hm : tr[i] ∉ l) : cnt (nextU tr (i+1)) T l = cnt (nextU tr i) T l :=
  cnt_congr _ _ _ _ fun x hx => (nextU_miss tr i hi x (by rintro rfl; exact hm hx)).symm

/-- the count behind a step at which the key was held -/
theorem cnt_hit (tr : List K) (i T : Nat) (hi : i < tr.length) (hT : i < T) (l : List K) (hn : l.Nodup) (hm : tr[i] ∈ l) (l' : List K) (hl : l'.Perm l) :
    cnt (nextU tr (i+1)) T l' + 1 = cnt (nextU tr i) T l + if nextU tr (i+1) tr[i] ≤ T then 1 else 0 := by
  have h1 : cnt (nextU tr (i+1)) T l' = cnt (nextU tr (i+1)) T l := hl.countP_eq _
  have h2 := cnt_erase (nextU tr (i+1)) T l tr[i] hm
  have h3 := cnt_erase (nextU tr i) T l tr[i] hm
  rw [cnt_next tr i T hi _ (by rw [hn.mem_erase_iff]; simp)] at h2
  rw [nextU_hit tr i hi, if_pos (by omega)] at h3
  omega

structure Dom (tr : List K) (i : Nat) (k : Nat) (A B : List K × Nat) : Prop where
  hits : A.2 ≤ B.2
  cnts : ∀ T, i ≤ T → cnt (nextU tr i) T A.1 ≤ cnt (nextU tr i) T B.1 + (B.2 - A.2)

theorem belady (hv : Picks vic) (ka kb : Nat) (ha : 1 ≤ ka) (hab : ka ≤ kb) : ∀ i, i ≤ tr.length → Dom tr i kb (hst mv vic ka tr i) (hst false (vFar tr) kb tr i) := by
  intro i
  induction i with
  | zero => intro _; exact ⟨by simp [hst], by simp [hst, cnt]⟩
  | succ i ih =>
    intro hi
    have hi' : i < tr.length := by omega
    have d := ih (by omega)
    have na := hst_nodup (mv := mv) (vic := vic) (lines := ka) (tr := tr) i
    have nb := hst_nodup (mv := false) (vic := vFar tr) (lines := kb) (tr := tr) i
    have la := hst_len (mv := mv) (tr := tr) hv ha i
    have lb := hst_len (mv := false) (tr := tr) (picks_far tr) (show 1 ≤ kb by omega) i
    have la' := hst_len (mv := mv) (tr := tr) hv ha (i+1)
    rw [hst_succ i hi', hst_succ i hi']
    rw [hst_succ i hi'] at la'
    generalize hst mv vic ka tr i = A at *
    generalize hst false (vFar tr) kb tr i = B at *
    obtain ⟨dh, dc⟩ := d
    obtain ⟨A, a⟩ := A
    obtain ⟨B, b⟩ := B
    simp only at *
    have hBstep : ∀ T, i < T → tr[i] ∉ B →
        (cnt (nextU tr i) T B = cnt (nextU tr (i+1)) T (if B.length = kb then B.eraseIdx (vFar tr B i) else B)) ∨
        (cnt (nextU tr (i+1)) T (if B.length = kb then B.eraseIdx (vFar tr B i) else B) + 1 = kb) := by
      intro T hT hB
      have hnx := cnt_next tr i T hi' B hB
      by_cases hl : B.length = kb
      · rw [if_pos hl]
        have hpos : 0 < B.length := by omega
        have hlt := far_lt (nextU tr i) B hpos B.length
        have he := cnt_eraseIdx (nextU tr (i+1)) T B _ hlt
        have hv' : vFar tr B i = far (nextU tr i) B B.length := rfl
        rw [hv']
        rw [← nextU_miss tr i hi' _ (by rintro h; exact hB (h ▸ List.getElem_mem hlt))] at he
        by_cases hF : nextU tr i B[far (nextU tr i) B B.length] ≤ T
        · have hall : cnt (nextU tr i) T B = B.length := cnt_all _ _ _ fun x hx => by
            obtain ⟨j, hj, rfl⟩ := List.getElem_of_mem hx
            have := far_max (nextU tr i) B hpos B.length (Nat.le_refl _) j hj hj
            omega
          rw [if_pos hF] at he
          right; omega
        · rw [if_neg hF] at he
          left; omega
      · rw [if_neg hl]; left; omega
    generalize (if B.length = kb then B.eraseIdx (vFar tr B i) else B) = B' at *
    by_cases hA : tr[i] ∈ A
    · rw [if_pos hA] at la' ⊢
      have pA : (if mv = true then A.erase tr[i] ++ [tr[i]] else A).Perm A := by
        split
        · exact (List.perm_append_comm).trans (List.perm_cons_erase hA).symm
        · exact List.Perm.refl _
      generalize (if mv = true then A.erase tr[i] ++ [tr[i]] else A) = A' at *
      by_cases hB : tr[i] ∈ B
      · rw [if_pos hB]
        refine ⟨by simp; omega, fun T hT => ?_⟩
        have h1 := cnt_hit tr i T hi' (by omega) A na hA _ pA
        have h2 := cnt_hit tr i T hi' (by omega) B nb hB B (List.Perm.refl _)
        have h3 := dc T (by omega)
        show cnt (nextU tr (i+1)) T A' ≤ cnt (nextU tr (i+1)) T B + (b + 1 - (a + 1))
        omega
      · rw [if_neg hB]
        have hd : a < b := by
          have := dc i (by omega)
          have h1 := cnt_now tr i hi' A hA
          have h2 := cnt_now_not tr i hi' B hB
          omega
        refine ⟨by simp; omega, fun T hT => ?_⟩
        have h1 := cnt_hit tr i T hi' (by omega) A na hA _ pA
        have h3 := dc T (by omega)
        have h4 := cnt_le (nextU tr (i+1)) T A'
        have h6 := pA.length_eq
        have h7 := cnt_le (nextU tr i) T A
        have h5 := hBstep T (by omega) hB
        show cnt (nextU tr (i+1)) T A' ≤ cnt (nextU tr (i+1)) T (B' ++ [tr[i]]) + (b - (a + 1))
        rw [cnt_append, cnt_single]
        omega
    · rw [if_neg hA] at la' ⊢
      -- whatever A strikes, its count does not rise but for the new key
      have hA1 : ∀ T, cnt (nextU tr (i+1)) T (if A.length = ka then A.eraseIdx (vic A i) else A) ≤ cnt (nextU tr i) T A := by
        intro T
        rw [← cnt_next tr i T hi' A hA]
        split
        · exact List.Sublist.countP_le (List.eraseIdx_sublist _ _)
        · exact Nat.le_refl _
      generalize (if A.length = ka then A.eraseIdx (vic A i) else A) = A' at *
      simp only [List.length_append, List.length_singleton] at la'
      by_cases hB : tr[i] ∈ B
      · rw [if_pos hB]
        refine ⟨by simp; omega, fun T hT => ?_⟩
        have h2 := cnt_hit tr i T hi' (by omega) B nb hB B (List.Perm.refl _)
        have h3 := dc T (by omega)
        have h4 := hA1 T
        show cnt (nextU tr (i+1)) T (A' ++ [tr[i]]) ≤ cnt (nextU tr (i+1)) T B + (b + 1 - a)
        rw [cnt_append, cnt_single]
        omega
      · rw [if_neg hB]
        refine ⟨by simp; omega, fun T hT => ?_⟩
        have h3 := dc T (by omega)
        have h4 := hA1 T
        have h5 := cnt_le (nextU tr (i+1)) T A'
        have h6 := hBstep T (by omega) hB
        show cnt (nextU tr (i+1)) T (A' ++ [tr[i]]) ≤ cnt (nextU tr (i+1)) T (B' ++ [tr[i]]) + (b - a)
        rw [cnt_append, cnt_single, cnt_append, cnt_single]
        omega

theorem best_best (hv : Picks vic) (ka kb : Nat) (ha : 1 ≤ ka) (hab : ka ≤ kb) : (hst mv vic ka tr tr.length).2 ≤ best tr kb :=
  (belady hv ka kb ha hab tr.length (Nat.le_refl _)).hits
theorem lru_best (ka kb : Nat) (ha : 1 ≤ ka) (hab : ka ≤ kb) : lru tr ka ≤ best tr kb := best_best picks_first ka kb ha hab
theorem fifo_best (ka kb : Nat) (ha : 1 ≤ ka) (hab : ka ≤ kb) : fifo tr ka ≤ best tr kb := best_best picks_first ka kb ha hab
theorem best_mono (ka kb : Nat) (ha : 1 ≤ ka) (hab : ka ≤ kb) : best tr ka ≤ best tr kb := best_best (picks_far tr) ka kb ha hab
end Go.Proofs.Ytebodfciiikokaa.Tr

namespace Go.Proofs.Ytebodfciiikokaa.Tr

/-! ### different keys; the stack of keys by last use -/
/-- the different keys, the first of each kept -/
def rs : List K → List K
  | [] => []
  | x :: l => x :: (rs l).erase x

theorem mem_rs_nodup (l : List K) : (rs l).Nodup ∧ ∀ x, x ∈ rs l ↔ x ∈ l := by
  induction l with
  | nil => simp [rs]
  | cons y l ih =>
    obtain ⟨hn, hm⟩ := ih
    refine ⟨?_, ?_⟩
    · rw [rs, List.nodup_cons]
      exact ⟨by rw [hn.mem_erase_iff]; simp, hn.erase _⟩
    · intro x
      rw [rs, List.mem_cons, List.mem_cons, hn.mem_erase_iff, hm]
      constructor
      · rintro (h | h)
        · exact .inl h
        · exact .inr h.2
      · rintro (h | h)
        · exact .inl h
        · by_cases e : x = y
          · exact .inl e
          · exact .inr ⟨e, h⟩

theorem rs_nodup (l : List K) : (rs l).Nodup := (mem_rs_nodup l).1
theorem mem_rs {l : List K} {x : K} : x ∈ rs l ↔ x ∈ l := (mem_rs_nodup l).2 x

/-- how many different keys -/
def nd (l : List K) : Nat := (rs l).length

theorem len_le_of_subset : ∀ {a b : List K}, a.Nodup → (∀ x ∈ a, x ∈ b) → a.length ≤ b.length := by
  intro a
  induction a with
  | nil => intro b _ _; simp
  | cons x a ih =>
    intro b hn hs
    rw [List.nodup_cons] at hn
    have hx : x ∈ b := hs x (by simp)
    have := ih (b := b.erase x) hn.2 (fun y hy => (List.mem_erase_of_ne (by rintro rfl; exact hn.1 hy)).2 (hs y (by simp [hy])))
    rw [List.length_erase_of_mem hx] at this
    have : 0 < b.length := List.length_pos_of_mem hx
    simp; omega

theorem nd_mono {a b : List K} (h : ∀ x ∈ a, x ∈ b) : nd a ≤ nd b :=
  len_le_of_subset (rs_nodup a) fun x hx => mem_rs.2 (h x (mem_rs.1 hx))
theorem nd_congr {a b : List K} (h : ∀ x, x ∈ a ↔ x ∈ b) : nd a = nd b :=
  Nat.le_antisymm (nd_mono fun x => (h x).1) (nd_mono fun x => (h x).2)
theorem nd_of_nodup {a b : List K} (hn : a.Nodup) (h : ∀ x, x ∈ a ↔ x ∈ b) : a.length = nd b :=
  Nat.le_antisymm (len_le_of_subset hn fun x hx => mem_rs.2 ((h x).1 hx)) (len_le_of_subset (rs_nodup b) fun x hx => (h x).2 (mem_rs.1 hx))
theorem nd_reverse (a : List K) : nd a.reverse = nd a := nd_congr (by simp)
theorem nd_le (a : List K) : nd a ≤ a.length := len_le_of_subset (rs_nodup a) fun x hx => mem_rs.1 hx
theorem nd_cons (x : K) (l : List K) : nd (x :: l) = nd l + if x ∈ l then 0 else 1 := by
  unfold nd
  rw [rs, List.length_cons]
  split
  · rename_i h
    have := List.length_pos_of_mem (mem_rs.2 h)
    rw [List.length_erase_of_mem (mem_rs.2 h)]
    omega
  · rename_i h
    rw [List.erase_of_not_mem (by rw [mem_rs]; exact h)]
theorem nd_snoc (x : K) (l : List K) : nd (l ++ [x]) = nd l + if x ∈ l then 0 else 1 := by
  rw [nd_congr (b := x :: l) (by intro y; simp; exact Or.comm), nd_cons]
theorem nd_nil : nd [] = 0 := rfl
theorem nd_single (x : K) : nd [x] = 1 := by simp [nd_cons, nd_nil]
theorem nd_pos {l : List K} (h : 0 < l.length) : 1 ≤ nd l := by
  cases l with
  | nil => simp at h
  | cons x l => unfold nd; rw [rs]; simp

/-! ### distances -/
def ne (x : K) (y : K) : Bool := !(y == x)
theorem tw_erase (x y : K) (h : y ≠ x) : ∀ l : List K, (l.erase y).takeWhile (ne x) = (l.takeWhile (ne x)).erase y := by
  intro l
  induction l with
  | nil => simp
  | cons a l ih =>
    by_cases e : a = y
    · subst e
      simp [List.takeWhile_cons, ne, h]
    · by_cases e2 : a = x
      · subst e2
        simp [List.erase_cons, e, List.takeWhile_cons, ne]
      · simp [List.erase_cons, e, List.takeWhile_cons, ne, e2] at ih ⊢
        exact ih
theorem tw_rs (x : K) : ∀ r : List K, (rs r).takeWhile (ne x) = rs (r.takeWhile (ne x)) := by
  intro r
  induction r with
  | nil => simp [rs]
  | cons y t ih =>
    by_cases e : y = x
    · subst e; simp [rs, ne, List.takeWhile_cons]
    · have : ne x y = true := by simp [ne, e]
      rw [rs, List.takeWhile_cons, if_pos this, List.takeWhile_cons, if_pos this, rs, tw_erase x y e, ih]

theorem idx_tw (x : K) : ∀ l : List K, l.idxOf x = (l.takeWhile (ne x)).length := by
  intro l
  induction l with
  | nil => simp
  | cons a l ih =>
    rw [List.idxOf_cons, List.takeWhile_cons]
    by_cases e : a = x
    · subst e; simp [ne]
    · have : (a == x) = false := by simpa using e
      have h2 : ne x a = true := by simp [ne, e]
      rw [this, h2]; simp [ih]

/-- the distance of a use of x behind the keys l -/
def gap (l : List K) (x : K) : Nat := nd (l.reverse.takeWhile (ne x))
theorem gap_idx (l : List K) (x : K) : gap l x = (rs l.reverse).idxOf x := by
  rw [idx_tw, tw_rs]; rfl

def dist (tr : List K) (i : Nat) : Int :=
  match tr[i]? with
  | none => -1
  | some x => if x ∈ tr.take i then (gap (tr.take i) x : Int) else -1

theorem dist_of (tr : List K) (i : Nat) (hi : i < tr.length) : dist tr i = if tr[i] ∈ tr.take i then (gap (tr.take i) tr[i] : Int) else -1 := by
  unfold dist
  rw [List.getElem?_eq_getElem hi]

/-! ### the stack theorem -/
theorem erase_take {l : List K} (hn : l.Nodup) (x : K) (k : Nat) (h : x ∈ l.take k) : (l.take k).erase x = (l.erase x).take (k - 1) := by
  induction l generalizing k with
  | nil => simp at h
  | cons a l ih =>
    cases k with
    | zero => simp at h
    | succ k =>
      rw [List.nodup_cons] at hn
      by_cases e : a = x
      · subst e; simp
      · have hne : (a == x) = false := by simpa using e
        have hm : x ∈ l.take k := by simpa [Ne.symm e] using h
        cases k with
        | zero => simp at hm
        | succ k =>
          have := ih hn.2 (k + 1) hm
          simp only [List.take_succ_cons, List.erase_cons, hne] at this ⊢
          simp at this ⊢
          exact this
theorem take_erase_not {l : List K} (x : K) (k : Nat) (h : x ∉ l.take k) : (l.erase x).take k = l.take k := by
  induction l generalizing k with
  | nil => simp
  | cons a l ih =>
    cases k with
    | zero => simp
    | succ k =>
      have e : a ≠ x := by rintro rfl; simp at h
      have hne : (a == x) = false := by simpa using e
      rw [List.erase_cons, hne]
      simp only [Bool.false_eq_true, if_false, List.take_succ_cons]
      rw [ih k (by simp at h; exact h.2)]

variable {tr : List K}

theorem erase_reverse {l : List K} (hn : l.Nodup) (x : K) : l.reverse.erase x = (l.erase x).reverse := by
  rw [List.Nodup.erase_eq_filter ((List.reverse_perm l).nodup_iff.2 hn), hn.erase_eq_filter, List.filter_reverse]

theorem lru_stack (k : Nat) (hk : 1 ≤ k) : ∀ i, i ≤ tr.length → (hst true vFirst k tr i).1 = ((rs (tr.take i).reverse).take k).reverse := by
  intro i
  induction i with
  | zero => simp [hst, rs]
  | succ i ih =>
    intro hi
    have hi' : i < tr.length := by omega
    rw [hst_succ i hi', ih (by omega), List.take_succ_eq_append_getElem hi', List.reverse_append, List.reverse_singleton, List.singleton_append, rs]
    have hn := rs_nodup (tr.take i).reverse
    generalize rs (tr.take i).reverse = S at *
    obtain ⟨k, rfl⟩ : ∃ j, k = j + 1 := ⟨k - 1, by omega⟩
    have hn' : (S.take (k+1)).Nodup := hn.sublist (List.take_sublist _ _)
    rw [List.take_succ_cons, List.reverse_cons]
    simp only [List.mem_reverse, if_true, List.length_reverse]
    split
    · rename_i hm
      simp only
      rw [erase_reverse hn', erase_take hn _ _ hm]
      simp
    · rename_i hm
      simp only
      congr 1
      have ht : (S.erase tr[i]).take k = S.take k := take_erase_not _ _ (fun h => hm (List.take_subset_take_left S (by omega) h))
      rw [ht]
      split
      · rename_i hl
        show (S.take (k+1)).reverse.eraseIdx 0 = _
        rw [List.eraseIdx_zero, List.tail_reverse]
        congr 1
        rw [List.dropLast_eq_take, hl]
        simp [List.take_take]
      · rename_i hl
        congr 1
        rw [List.length_take] at hl
        rw [List.take_of_length_le (by omega), List.take_of_length_le (by omega)]

theorem idxOf_min : ∀ (l : List K) (x : K) (j : Nat) (hj : j < l.length), l[j] = x → l.idxOf x ≤ j
  | [], _, _, hj, _ => by simp at hj
  | a :: l, x, 0, _, e => by simp at e; subst e; simp
  | a :: l, x, j + 1, hj, e => by
    rw [List.idxOf_cons]
    have := idxOf_min l x j (by simpa using hj) (by simpa using e)
    cases (a == x) <;> simp
    omega

/-- a use is a hit exactly if its distance is less than the lines -/
theorem lru_hit (k : Nat) (hk : 1 ≤ k) (i : Nat) (hi : i < tr.length) : tr[i] ∈ (hst true vFirst k tr i).1 ↔ (0 ≤ dist tr i ∧ dist tr i < k) := by
  rw [lru_stack k hk i (by omega), List.mem_reverse, dist_of tr i hi, gap_idx]
  have hm : tr[i] ∈ rs (tr.take i).reverse ↔ tr[i] ∈ tr.take i := by rw [mem_rs, List.mem_reverse]
  generalize rs (tr.take i).reverse = S at *
  split
  · rename_i h
    have hS := hm.2 h
    constructor
    · intro hh
      refine ⟨by omega, ?_⟩
      have : S.idxOf tr[i] < k := by
        obtain ⟨j, hj, e⟩ := List.getElem_of_mem hh
        rw [List.getElem_take] at e
        rw [List.length_take] at hj
        have := List.idxOf_lt_length_of_mem hS
        rcases Nat.lt_or_ge (S.idxOf tr[i]) k with h | h
        · exact h
        · exfalso
          have h4 := idxOf_min S tr[i] j (by omega) (by rw [e])
          omega
      omega
    · rintro ⟨_, h2⟩
      have hl := List.idxOf_lt_length_of_mem hS
      have he : S[S.idxOf tr[i]] = tr[i] := by simp
      have : S[S.idxOf tr[i]] ∈ S.take k := by
        rw [List.mem_take_iff_getElem]
        exact ⟨S.idxOf tr[i], by omega, rfl⟩
      rwa [he] at this
  · rename_i h
    constructor
    · intro hh; exact absurd (hm.1 (List.mem_of_mem_take hh)) h
    · rintro ⟨h1, _⟩; omega
end Go.Proofs.Ytebodfciiikokaa.Tr

namespace Go.Proofs.Ytebodfciiikokaa.Tr
variable {tr : List K} {mv : Bool} {vic : List K → Nat → Nat} {lines : Nat}

/-- how many places below n have a distance less than k -/
def near (tr : List K) (k : Nat) : Nat → Nat
  | 0 => 0
  | n + 1 => near tr k n + if 0 ≤ dist tr n ∧ dist tr n < k then 1 else 0

theorem lru_near (k : Nat) (hk : 1 ≤ k) : ∀ i, i ≤ tr.length → (hst true vFirst k tr i).2 = near tr k i := by
  intro i
  induction i with
  | zero => simp [hst, near]
  | succ i ih =>
    intro hi
    have hi' : i < tr.length := by omega
    rw [hst_succ i hi', near, ← ih (by omega)]
    have := lru_hit (tr := tr) k hk i hi'
    split
    · rename_i h; rw [if_pos (this.1 h)]
    · rename_i h; rw [if_neg (fun h' => h (this.2 h'))]; simp

theorem lru_eq_near (k : Nat) (hk : 1 ≤ k) : lru tr k = near tr k tr.length := lru_near k hk _ (Nat.le_refl _)

theorem near_mono {k k' : Nat} (h : k ≤ k') : ∀ n, near tr k n ≤ near tr k' n := by
  intro n
  induction n with
  | zero => simp [near]
  | succ n ih =>
    simp only [near]
    split <;> split <;> omega

theorem lru_mono {k k' : Nat} (hk : 1 ≤ k) (h : k ≤ k') : lru tr k ≤ lru tr k' := by
  rw [lru_eq_near k hk, lru_eq_near k' (by omega)]
  exact near_mono h _

theorem hits_le : (hst mv vic lines tr tr.length).2 ≤ tr.length := hst_hits _

theorem dist_append (t : List K) (i : Nat) (hi : i < tr.length) : dist (tr ++ t) i = dist tr i := by
  rw [dist_of _ i (by simp; omega), dist_of _ i hi, List.getElem_append_left hi, List.take_append_of_le_length (by omega)]

theorem gap_twice (a l : List K) (x : K) (h : x ∈ l) : gap (a ++ l) x = gap l x := by
  unfold gap
  congr 1
  rw [List.reverse_append, List.takeWhile_append]
  have : (l.reverse.takeWhile (ne x)).length ≠ l.reverse.length := by
    rw [← idx_tw]
    have := List.idxOf_lt_length_of_mem (List.mem_reverse.2 h)
    omega
  rw [if_neg this]

theorem dist_twice (i : Nat) (hi : i < tr.length) (h : 0 ≤ dist tr i) : dist (tr ++ tr) (tr.length + i) = dist tr i := by
  rw [dist_of _ i hi] at h ⊢
  split at h
  · rename_i hm
    rw [dist_of _ _ (by simp; omega)]
    have e : (tr ++ tr)[tr.length + i]'(by simp; omega) = tr[i] := by
      rw [List.getElem_append_right (by omega)]; simp
    rw [e, List.take_length_add_append, if_pos (List.mem_append.2 (.inr hm)), gap_twice _ _ _ hm, if_pos hm]
  · omega

theorem near_append (t : List K) (k : Nat) : ∀ n, n ≤ tr.length → near (tr ++ t) k n = near tr k n := by
  intro n
  induction n with
  | zero => simp [near]
  | succ n ih =>
    intro hn
    simp only [near]
    rw [ih (by omega), dist_append t n (by omega)]

theorem near_twice (k : Nat) : ∀ n, n ≤ tr.length → near (tr ++ tr) k tr.length + near tr k n ≤ near (tr ++ tr) k (tr.length + n) := by
  intro n
  induction n with
  | zero => intro _; simp [near]
  | succ n ih =>
    intro hn
    have := ih (by omega)
    rw [← Nat.add_assoc]
    simp only [near]
    have hd := dist_twice (tr := tr) n (by omega)
    by_cases h : 0 ≤ dist tr n ∧ dist tr n < k
    · rw [hd h.1]
      simp only [if_pos h]
      omega
    · rw [if_neg h]; omega

theorem lru_twice (k : Nat) (hk : 1 ≤ k) : 2 * lru tr k ≤ lru (tr ++ tr) k := by
  rw [lru_eq_near k hk, lru_eq_near k hk]
  have := near_twice (tr := tr) k tr.length (Nat.le_refl _)
  rw [near_append tr k tr.length (Nat.le_refl _)] at this
  rw [List.length_append]
  omega

/-! ### firsts -/
theorem nd_take_succ (i : Nat) (hi : i < tr.length) : nd (tr.take (i+1)) = nd (tr.take i) + if tr[i] ∈ tr.take i then 0 else 1 := by
  rw [List.take_succ_eq_append_getElem hi, nd_snoc]

theorem hits_firsts : ∀ i, i ≤ tr.length → (hst mv vic lines tr i).2 + nd (tr.take i) ≤ i := by
  intro i
  induction i with
  | zero => simp [hst, nd_nil]
  | succ i ih =>
    intro hi
    have hi' : i < tr.length := by omega
    rw [hst_succ i hi', nd_take_succ i hi']
    have := ih (by omega)
    have hs := hst_seen (mv := mv) (vic := vic) (lines := lines) (tr := tr) i tr[i]
    split
    · rename_i h
      rw [if_pos (hs h)]
      simp only; omega
    · simp only; split <;> omega

theorem gap_lt (l : List K) (x : K) (h : x ∈ l) : gap l x + 1 ≤ nd l := by
  rw [gap_idx, ← nd_reverse]
  exact List.idxOf_lt_length_of_mem (by rw [mem_rs, List.mem_reverse]; exact h)

theorem dist_lt_firsts (i : Nat) (hi : i < tr.length) : dist tr i < (nd (tr.take (i+1)) : Int) := by
  rw [dist_of _ i hi, nd_take_succ i hi]
  split
  · rename_i h
    have := gap_lt _ _ h
    omega
  · omega

theorem dist_neg (i : Nat) (hi : i < tr.length) : dist tr i = -1 ↔ tr[i] ∉ tr.take i := by
  rw [dist_of _ i hi]
  split
  · rename_i h
    constructor
    · intro h'; omega
    · intro h'; exact absurd h h'
  · rename_i h; simp [h]

theorem near_all (k : Nat) (hk : nd tr ≤ k) : ∀ i, i ≤ tr.length → near tr k i + nd (tr.take i) = i := by
  intro i
  induction i with
  | zero => simp [near, nd_nil]
  | succ i ih =>
    intro hi
    have hi' : i < tr.length := by omega
    rw [near, nd_take_succ i hi']
    have := ih (by omega)
    have h1 := dist_of tr i hi'
    by_cases h : tr[i] ∈ tr.take i
    · rw [if_pos h] at h1
      have h2 := gap_lt _ _ h
      have h3 : nd (tr.take i) ≤ nd tr := nd_mono fun x hx => List.mem_of_mem_take hx
      rw [if_pos h, if_pos (by omega)]
      omega
    · rw [if_neg h] at h1
      rw [if_neg h, if_neg (by omega)]
      omega

theorem lru_le_firsts (k : Nat) : lru tr k + nd tr ≤ tr.length := by
  have := hits_firsts (mv := true) (vic := vFirst) (lines := k) (tr := tr) tr.length (Nat.le_refl _)
  rwa [List.take_length] at this
theorem fifo_le_firsts (k : Nat) : fifo tr k + nd tr ≤ tr.length := by
  have := hits_firsts (mv := false) (vic := vFirst) (lines := k) (tr := tr) tr.length (Nat.le_refl _)
  rwa [List.take_length] at this
theorem best_le_firsts (k : Nat) : best tr k + nd tr ≤ tr.length := by
  have := hits_firsts (mv := false) (vic := vFar tr) (lines := k) (tr := tr) tr.length (Nat.le_refl _)
  rwa [List.take_length] at this
theorem lru_enough (k : Nat) (hk : 1 ≤ k) (h : nd tr ≤ k) : lru tr k + nd tr = tr.length := by
  rw [lru_eq_near k hk]
  have := near_all k h tr.length (Nat.le_refl _)
  rwa [List.take_length] at this
theorem best_enough (k : Nat) (hk : 1 ≤ k) (h : nd tr ≤ k) : best tr k + nd tr = tr.length := by
  have h1 := lru_enough k hk h
  have h2 := lru_best (tr := tr) k k hk (Nat.le_refl _)
  have h3 := best_le_firsts (tr := tr) k
  omega

/-! ### fifo and lru -/
theorem same_without_hits : ∀ i, i ≤ tr.length → (hst true vic lines tr i).2 = 0 → hst false vic lines tr i = hst true vic lines tr i := by
  intro i
  induction i with
  | zero => intro _ _; simp [hst]
  | succ i ih =>
    intro hi h0
    have hi' : i < tr.length := by omega
    have hm := hst_mono (mv := true) (vic := vic) (lines := lines) (tr := tr) i
    have e := ih (by omega) (by omega)
    rw [hst_succ i hi', hst_succ i hi', e]
    rw [hst_succ i hi'] at h0
    split
    · rename_i h; rw [if_pos h] at h0; simp at h0
    · rfl

theorem fifo_zero (k : Nat) (h : lru tr k = 0) : fifo tr k = 0 := by
  have := same_without_hits (vic := vFirst) (lines := k) tr.length (Nat.le_refl _) h
  unfold fifo
  rw [this]
  exact h

theorem fifo_half (k m : Nat) : fifo (tr.take m) k ≤ fifo tr k := by
  have e : ∀ i, i ≤ (tr.take m).length → hst false vFirst k (tr.take m) i = hst false vFirst k tr i := by
    intro i
    induction i with
    | zero => simp [hst]
    | succ i ih =>
      intro hi
      have hl := hi
      rw [List.length_take] at hl
      rw [hst_succ i (by omega), hst_succ i (by omega), ih (by omega), List.getElem_take]
  unfold fifo
  rw [e _ (Nat.le_refl _)]
  exact hst_mono_le (by rw [List.length_take]; omega)

/-! ### one line -/
theorem one_line {mv' : Bool} {vic' : List K → Nat → Nat} (hv : Picks vic) (hv' : Picks vic') : ∀ i, hst mv vic 1 tr i = hst mv' vic' 1 tr i := by
  intro i
  induction i with
  | zero => simp [hst]
  | succ i ih =>
    rcases Nat.lt_or_ge i tr.length with hi | hi
    · rw [hst_succ i hi, hst_succ i hi, ih]
      have hl := hst_len (mv := mv') (lines := 1) (tr := tr) hv' (Nat.le_refl _) i
      generalize hst mv' vic' 1 tr i = s at *
      obtain ⟨h, n⟩ := s
      simp only at *
      match h, hl with
      | [], _ => simp
      | [y], _ =>
        have a1 := hv [y] i (by simp)
        have a2 := hv' [y] i (by simp)
        simp at a1 a2
        by_cases e : tr[i] = y
        · subst e; simp
        · simp [e, a1, a2]
      | a :: b :: c, hl => simp at hl
    · have e : ∀ (m : Bool) (v : List K → Nat → Nat), hst m v 1 tr (i+1) = hst m v 1 tr i := by
        intro m v
        conv => lhs; unfold hst
        rw [List.getElem?_eq_none hi]
      rw [e, e, ih]
theorem fifo_one : fifo tr 1 = lru tr 1 := by unfold fifo lru; rw [one_line (mv' := true) (vic' := vFirst) picks_first picks_first]
theorem lru_one : lru tr 1 = best tr 1 := by unfold best lru; rw [one_line (mv' := false) (vic' := vFar tr) picks_first (picks_far tr)]

/-! ### neighbours -/
theorem dist_next (i : Nat) (h0 : 1 ≤ i) (hi : i < tr.length) : dist tr i = 0 ↔ tr[i] = tr[i-1] := by
  rw [dist_of _ i hi]
  have hl : (tr.take i).reverse = tr[i-1] :: (tr.take (i-1)).reverse := by
    obtain ⟨j, rfl⟩ : ∃ j, i = j + 1 := ⟨i - 1, by omega⟩
    rw [List.take_succ_eq_append_getElem (by omega)]
    simp
  have hm : tr[i] ∈ tr.take i ↔ tr[i] ∈ (tr.take i).reverse := by simp
  unfold gap
  rw [hl] at hm ⊢
  rw [List.takeWhile_cons]
  by_cases e : tr[i] = tr[i-1]
  · have : ne tr[i] tr[i-1] = false := by simp [ne, e]
    rw [if_pos (hm.2 (by rw [e]; simp)), this]
    simp [nd_nil, e]
  · have : ne tr[i] tr[i-1] = true := by simp [ne, Ne.symm e]
    rw [this]
    simp only [if_true]
    constructor
    · intro h
      split at h
      · have : 1 ≤ nd (tr[i-1] :: (tr.take (i-1)).reverse.takeWhile (ne tr[i])) := nd_pos (by simp)
        omega
      · omega
    · intro h; exact absurd h e
theorem dist_take (m i : Nat) (hi : i < m) (hl : i < tr.length) : dist (tr.take m) i = dist tr i := by
  rw [dist_of _ i (by rw [List.length_take]; omega), dist_of _ i hl, List.getElem_take, List.take_take, Nat.min_eq_left (by omega)]

/-! ### windows -/
/-- the different keys of the window that ends at place i -/
def wset (tr : List K) (win i : Nat) : Nat := nd ((tr.take (i+1)).drop (i + 1 - win))

theorem wset_one (i : Nat) (hi : i < tr.length) : wset tr 1 i = 1 := by
  unfold wset
  have : (tr.take (i+1)).drop (i + 1 - 1) = [tr[i]] := by
    rw [List.take_succ_eq_append_getElem hi, Nat.add_sub_cancel, List.drop_append, List.drop_of_length_le (by simp; omega)]
    have : i - (List.take i tr).length = 0 := by simp; omega
    rw [this]
    rfl
  rw [this, nd_single]
theorem wset_pos (win i : Nat) (hw : 1 ≤ win) (hi : i < tr.length) : 1 ≤ wset tr win i := by
  unfold wset
  exact nd_pos (by simp; omega)
theorem wset_le (win i : Nat) : wset tr win i ≤ win ∧ wset tr win i ≤ i + 1 := by
  unfold wset
  have := nd_le ((tr.take (i+1)).drop (i + 1 - win))
  simp at this
  omega
theorem wset_mono (a b i : Nat) (h : a ≤ b) : wset tr a i ≤ wset tr b i := by
  unfold wset
  apply nd_mono
  intro x hx
  have e : i + 1 - a = (i + 1 - b) + ((i + 1 - a) - (i + 1 - b)) := by omega
  rw [e, ← List.drop_drop] at hx
  exact List.mem_of_mem_drop hx
theorem wset_more (a i : Nat) : wset tr (a+1) i ≤ wset tr a i + 1 := by
  unfold wset
  rcases Nat.lt_or_ge (i + 1 - (a + 1)) (tr.take (i+1)).length with h | h
  · have : (tr.take (i+1)).drop (i + 1 - (a+1)) = (tr.take (i+1))[i + 1 - (a + 1)] :: (tr.take (i+1)).drop (i + 1 - (a+1) + 1) := List.drop_eq_getElem_cons h
    rw [this, nd_cons]
    have h2 : nd ((tr.take (i+1)).drop (i + 1 - (a+1) + 1)) ≤ nd ((tr.take (i+1)).drop (i + 1 - a)) := by
      apply nd_mono
      intro x hx
      have e : i + 1 - (a+1) + 1 = (i + 1 - a) + (i + 1 - (a+1) + 1 - (i + 1 - a)) := by omega
      rw [e, ← List.drop_drop] at hx
      exact List.mem_of_mem_drop hx
    split <;> omega
  · rw [List.drop_of_length_le h, nd_nil]; omega
theorem wset_all (b i : Nat) (hb : tr.length ≤ b) (hi : i < tr.length) : wset tr b i = nd (tr.take (i+1)) := by
  unfold wset
  rw [show i + 1 - b = 0 by omega, List.drop_zero]
theorem wset_all_mono (b i : Nat) (hb : tr.length ≤ b) (hi : i < tr.length) (h0 : 1 ≤ i) : wset tr b (i-1) ≤ wset tr b i := by
  rw [wset_all b _ hb (by omega), wset_all b _ hb hi]
  apply nd_mono
  intro x hx
  exact List.take_subset_take_left tr (by omega) hx
end Go.Proofs.Ytebodfciiikokaa.Tr

