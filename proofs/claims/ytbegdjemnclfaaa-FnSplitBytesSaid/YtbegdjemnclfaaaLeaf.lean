import Derived.Test.YtbegdjemnclfaaaProg
import Derived.Test.YtbegdjemnclfaaaMem
import Derived.Deep.QuietTactic
import Derived.BigQuiet
import Derived.KernelRfl
namespace Go.Proofs.Ytbegdjemnclfaaa
open Go.RowKit

/-! ### keys and numbers in range -/
def inR (n e : Int) : Bool := decide (0 ≤ n) && decide (n < e)

theorem within_any (n e : Int) (w : World) : Calls Try.prog 49 #[.int .i64 n, .int .i64 e] w fun r w' => r = .returned (.bool (inR n e)) ∧ w = w' := by
  by_cases h0 : 0 ≤ n
  · by_cases h1 : n < e
    · have H : Hid (inR n e = true) := by simp [Hid, inR, h0, h1]
      go_enter Try.func49, Try.ntmps49
      go_wp2
      go_ret
      exact ⟨by rw [H.out]; rfl, rfl⟩
    · have H : Hid (inR n e = false) := by simp [Hid, inR, h1]
      go_enter Try.func49, Try.ntmps49
      go_wp2
      go_ret
      exact ⟨by rw [H.out]; rfl, rfl⟩
  · have H : Hid (inR n e = false) := by simp [Hid, inR, h0]
    go_enter Try.func49, Try.ntmps49
    go_wp2
    go_ret
    exact ⟨by rw [H.out]; rfl, rfl⟩

def kval (k : Key) : Bool := inR k.1 16 && inR k.2 256

theorem keyValid_any (a b : Int) (w : World) : Calls Try.prog 54 #[.agg #[.int .i64 a, .int .i64 b]] w fun r w' => r = .returned (.bool (kval (a, b))) ∧ Below w.heap.size w w' := by
  by_cases h0 : inR a 16 = true
  · have H : Hid (kval (a, b) = inR b 256) := by simp [Hid, kval, h0]
    go_enter Try.func54, Try.ntmps54
    go_wp2_with (go_at_call 49; refine (within_any _ _ _).mono ?_; rintro e w' ⟨rfl, rfl⟩)
    go_ret
    exact ⟨by rw [H.out]; rfl, bA bR⟩
  · have h0 : inR a 16 = false := by simpa using h0
    have H : Hid (kval (a, b) = false) := by simp [Hid, kval, h0]
    go_enter Try.func54, Try.ntmps54
    go_wp2_with (go_at_call 49; refine (within_any _ _ _).mono ?_; rintro e w' ⟨rfl, rfl⟩)
    go_ret
    exact ⟨by rw [H.out]; rfl, bA bR⟩

theorem traceValid1_any (a b : Int) (w : World) : Calls Try.prog 53 #[.agg #[.int .i64 a, .int .i64 b]] w fun r w' => r = .returned (.bool (!kval (a, b))) ∧ Below w.heap.size w w' := by
  go_enter Try.func53, Try.ntmps53
  go_wp2_with fail
  refine (keyValid_any _ _ _).mono ?_
  rintro e w1 ⟨rfl, hb⟩
  go_wp2
  go_ret
  exact ⟨rfl, bT (bA bR) hb⟩

theorem key_info : (Try.prog.info? 34).map (fun i => (i.zero, i.size, i.bytes)) = some (some (.agg #[.int .i64 0, .int .i64 0]), 2, 16) := by kernel_rfl
theorem int_info : (Try.prog.info? 3).map (fun i => (i.zero, i.size, i.bytes)) = some (some (.int .i64 0), 1, 8) := by kernel_rfl
theorem ks_lo (W : World) (A : Option Addr) (n c : Nat) (lo : Int) (h0 : 0 ≤ lo) (h1 : lo ≤ n) :
    (Instr.slice 23 (.slice A n c) (some (.int .i64 lo)) none none).run Try.prog W = .ok (.slice (cutA A c lo.toNat 2) (n - lo.toNat) (c - lo.toNat)) W := by
  obtain ⟨i, hi, _, hz, _⟩ := info_parts key_info
  exact slice_lo W _ _ i 2 A n c Try.underlying23 hi hz lo h0 h1
theorem ks_hi (W : World) (A : Option Addr) (n c : Nat) (h : Int) (h0 : 0 ≤ h) (h1 : h ≤ c) :
    (Instr.slice 23 (.slice A n c) none (some (.int .i64 h)) none).run Try.prog W = .ok (.slice (cutA A c 0 2) (h.toNat - 0) (c - 0)) W := by
  obtain ⟨i, hi, _, hz, _⟩ := info_parts key_info
  exact slice_hi W _ _ i 2 A n c Try.underlying23 hi h h0 h1
theorem ks_lohi (W : World) (A : Option Addr) (n c : Nat) (lo h : Int) (h0 : 0 ≤ lo) (h2 : lo ≤ h) (h1 : h ≤ c) :
    (Instr.slice 23 (.slice A n c) (some (.int .i64 lo)) (some (.int .i64 h)) none).run Try.prog W = .ok (.slice (cutA A c lo.toNat 2) (h.toNat - lo.toNat) (c - lo.toNat)) W := by
  obtain ⟨i, hi, _, hz, _⟩ := info_parts key_info
  exact slice_lohi W _ _ i 2 A n c Try.underlying23 hi hz lo h h0 h2 h1

theorem two_of {α β : Type} {f : α → β} {l : List α} {x y : β} (h : l.map f = [x, y]) : ∃ a b, l = [a, b] ∧ f a = x ∧ f b = y := by
  match l, h with
  | [a, b], h => simp at h; exact ⟨a, b, rfl, h.1, h.2⟩

def keq (a b c d : Int) : Bool := decide (a = c) && decide (b = d)
theorem eql_key (a b c d : Int) (w : World) : (binOp .eql 34 (.agg #[.int .i64 a, .int .i64 b]) (.agg #[.int .i64 c, .int .i64 d])).run Try.prog w = .ok (.bool (keq a b c d)) w := by
  have hu : Try.prog.underlying 34 = some (.struct (Try.prog.fieldsOf 34)) := by kernel_rfl
  have hp : Try.prog.stoodInHeld 34 = false := by kernel_rfl
  have hf : (Try.prog.fieldsOf 34).toList.map (fun f => (f.name, f.type, f.offset)) = [("Space", 3, 0), ("Page", 3, 1)] := by kernel_rfl
  have h : ∀ e : Nat, (Op.equalIn (e + 2) 34 (.agg #[.int .i64 a, .int .i64 b]) (.agg #[.int .i64 c, .int .i64 d])).run Try.prog w = .ok (keq a b c d) w := by
    intro e
    rw [run_equalIn_struct w (e + 1) _ _ _ hu hp]
    obtain ⟨f, g, hl, h1, h2⟩ := two_of hf
    rw [hl]
    simp only [Prod.mk.injEq] at h1 h2
    obtain ⟨n1, t1, o1⟩ := h1
    obtain ⟨n2, t2, o2⟩ := h2
    simp [Op.eqFields, n1, t1, o1, n2, t2, o2, part, run_equalIn_int, Try.underlying3, go_sem, keq]
    by_cases e1 : a = c <;> by_cases e2 : b = d <;> simp [e1, e2]
  simp only [binOp]
  simp [Op.equal, Op.maxDepth, h 9998]
theorem neq_key (a b c d : Int) (w : World) : (binOp .neq 34 (.agg #[.int .i64 a, .int .i64 b]) (.agg #[.int .i64 c, .int .i64 d])).run Try.prog w = .ok (.bool (!keq a b c d)) w := by
  have h := eql_key a b c d w
  simp only [binOp] at h ⊢
  revert h
  generalize Op.equal 34 (.agg #[.int .i64 a, .int .i64 b]) (.agg #[.int .i64 c, .int .i64 d]) = e
  simp only [Sem.run_bind]
  cases e.run Try.prog w <;> simp [Result.andThen]
theorem keq_true {a b c d : Int} (h : (a, b) = (c, d)) : keq a b c d = true := by
  injection h with h1 h2; simp [keq, h1, h2]
theorem keq_false {a b c d : Int} (h : ¬ (a, b) = (c, d)) : keq a b c d = false := by
  simp only [keq, Bool.and_eq_false_iff, decide_eq_false_iff_not]
  by_cases e : a = c
  · right; rintro rfl; exact h (by rw [e])
  · exact .inl e

/-- the place of the first key that is not valid, or -1 -/
def badAt (l : List Key) : Int := match l.findIdx? (fun k => !kval k) with | some i => i | none => -1
theorem badAt_at {l : List Key} {k : Nat} (hk : k < l.length) (h : ∀ j (_ : j < k) (hl : j < l.length), kval l[j] = true) (hb : kval l[k] = false) : badAt l = k := by
  have : l.findIdx? (fun k => !kval k) = some k := by
    rw [List.findIdx?_eq_some_iff_getElem]
    exact ⟨hk, by simp [hb], fun j hj => by simp [h j hj (by omega)]⟩
  simp [badAt, this]
theorem badAt_none {l : List Key} (h : ∀ j (_ : j < l.length) (hl : j < l.length), kval l[j] = true) : badAt l = -1 := by
  have : l.findIdx? (fun k => !kval k) = none := by
    rw [List.findIdx?_eq_none_iff]
    intro x hx
    obtain ⟨j, hj, rfl⟩ := List.getElem_of_mem hx
    simp [h j hj hj]
  simp [badAt, this]

theorem indexFunc_any (A : Option Addr) (c : Nat) (l : List Key) (w : World) (h : Ks w.heap.size w A l) (hl : l.length ≤ 9223372036854775807) :
    Calls Try.prog 58 #[.slice A l.length c, .func (.func 53) #[] #[]] w fun r w' => r = .returned (.int .i64 (badAt l)) ∧ Below w.heap.size w w' := by
  go_enter Try.func58, Try.ntmps58
  go_wp2
  go_loopw [5, 8] (fun _ i wr => ∃ k : Nat, k ≤ l.length ∧ i = .int .i64 k ∧ Below w.heap.size w wr ∧ Hid (∀ j (_ : j < k) (hl : j < l.length), kval l[j] = true)) (fun _ i _ => l.length - (intOf i).toNat)
  case atStart => exact ⟨0, by omega, rfl, bR, fun j hj => by omega⟩
  case round =>
    obtain ⟨k, hk, rfl, hb, hall⟩ := hrel
    by_cases hlt : k < l.length
    · obtain ⟨b, o, rfl, hbb, h1, h2⟩ := (h.below hb).key hlt
      go_wp2_with fail
      refine (traceValid1_any _ _ _).mono ?_
      rintro e w1 ⟨rfl, hb1⟩
      by_cases hv : kval l[k] = true
      · have H : Hid (∀ j (_ : j < k + 1) (hl : j < l.length), kval l[j] = true) := fun j hj hl => by
          rcases Nat.lt_or_ge j k with h | h
          · exact hall.out j h hl
          · obtain rfl : j = k := by omega
            exact hv
        go_wp2
        go_roundw
        case rel => exact ⟨k + 1, by omega, by go_num, bT hb hb1, H⟩
        case measure => simp [intOf]; omega
      · have hv : kval l[k] = false := by simpa using hv
        have H : Hid (badAt l = k) := badAt_at hlt hall.out hv
        go_wp2
        go_ret
        exact ⟨by rw [H.out]; rfl, bT hb hb1⟩
    · have H : Hid (badAt l = -1) := badAt_none fun j hj hl => hall.out j (by omega) hl
      go_wp2
      go_ret
      exact ⟨by rw [H.out]; rfl, hb⟩

theorem containsFunc_any (A : Option Addr) (c : Nat) (l : List Key) (w : World) (h : Ks w.heap.size w A l) (hl : l.length ≤ 9223372036854775807) :
    Calls Try.prog 52 #[.slice A l.length c, .func (.func 53) #[] #[]] w fun r w' => r = .returned (.bool (decide (0 ≤ badAt l))) ∧ Below w.heap.size w w' := by
  go_enter Try.func52, Try.ntmps52
  go_wp2_with fail
  refine (indexFunc_any _ _ _ _ h hl).mono ?_
  rintro e w1 ⟨rfl, hb⟩
  go_wp2
  go_ret
  exact ⟨rfl, hb⟩

def tval (l : List Key) : Bool := decide (l.length ≤ 40) && l.all kval
theorem badAt_neg (l : List Key) : decide (0 ≤ badAt l) = !l.all kval := by
  by_cases h : l.all kval = true
  · rw [badAt_none fun j hj hl => by rw [List.all_eq_true] at h; exact h _ (List.getElem_mem hl), h]
    decide
  · have h' : l.all kval = false := by simpa using h
    rw [h']
    cases e : l.findIdx? (fun k => !kval k) with
    | none =>
      exfalso
      rw [List.findIdx?_eq_none_iff] at e
      apply h
      rw [List.all_eq_true]
      intro x hx
      simpa using e x hx
    | some i => simp [badAt, e]

theorem traceValid_any (A : Option Addr) (c : Nat) (l : List Key) (w : World) (h : Ks w.heap.size w A l) (hl : l.length ≤ 9223372036854775807) :
    Calls Try.prog 39 #[.slice A l.length c] w fun r w' => r = .returned (.bool (tval l)) ∧ Below w.heap.size w w' := by
  by_cases h40 : l.length ≤ 40
  · have H : Hid (tval l = !decide (0 ≤ badAt l)) := by simp [Hid, tval, badAt_neg, h40]
    go_enter Try.func39, Try.ntmps39
    go_wp2_with fail
    refine (containsFunc_any _ _ _ _ h hl).mono ?_
    rintro e w1 ⟨rfl, hb⟩
    go_wp2
    go_ret
    exact ⟨by rw [H.out]; rfl, hb⟩
  · have H : Hid (tval l = false) := by simp [Hid, tval, h40]
    go_enter Try.func39, Try.ntmps39
    go_wp2
    go_ret
    exact ⟨by rw [H.out]; rfl, bR⟩

def lval (n : Int) : Bool := decide (1 ≤ n) && decide (n ≤ 8)
end Go.Proofs.Ytbegdjemnclfaaa

