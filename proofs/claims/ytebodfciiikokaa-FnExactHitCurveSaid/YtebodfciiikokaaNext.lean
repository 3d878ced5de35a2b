import Derived.Test.YtebodfciiikokaaIdx
namespace Go.Proofs.Ytebodfciiikokaa
open Go.RowKit
/-- where a key comes next from a place on, or the length -/
def nxt (l : List Key) (i : Nat) (k : Key) : Nat := i + (l.drop i).idxOf k
theorem nxt_idx (l : List Key) (i : Nat) (k : Key) (hi : i ≤ l.length) : (nxt l i k : Int) = if 0 ≤ idx (l.drop i) k then (i : Int) + idx (l.drop i) k else (l.length : Int) := by
  unfold nxt idx
  by_cases h : k ∈ l.drop i
  · rw [if_pos h, if_pos (by omega)]; omega
  · rw [if_neg h, if_neg (by omega), List.idxOf_eq_length h, List.length_drop]; omega

theorem nextUse_any (A : Option Addr) (c : Nat) (l : List Key) (i x y : Int) (w : World) (h : Ks w.heap.size w A l) (hl : l.length ≤ 9223372036854775807) (hc : l.length ≤ c) (h0 : 0 ≤ i) (h1 : i ≤ l.length) :
    Calls Try.prog 50 #[.slice A l.length c, .int .i64 i, .agg #[.int .i64 x, .int .i64 y]] w fun r w' => r = .returned (.int .i64 (nxt l i.toNat (x, y))) ∧ Below w.heap.size w w' := by
  obtain ⟨i, rfl⟩ := Int.eq_ofNat_of_zero_le h0
  rw [Int.toNat_natCast]
  have hs := fun W => ks_lo W A l.length c i h0 h1
  rw [Int.toNat_natCast] at hs
  have hk := h.kfrom (c := c) (lo := i) (by omega) hc
  have hn := nxt_idx l i (x, y) (by omega)
  have hkk := fun W hb => index_any (cutA A c i 2) (c - i) (l.drop i) x y W (hk.now (Nat.le_refl _) hb) (by simp; omega)
  rw [List.length_drop] at hkk
  have HK := Lib.hid hkk
  have HN := Lib.hid hn
  clear hkk hn hk h
  by_cases hin : 0 ≤ idx (l.drop i) (x, y)
  · have hin2 : idx (l.drop i) (x, y) + i ≤ l.length := by
      unfold idx at hin ⊢
      split
      · rename_i hm
        have := List.idxOf_lt_length_of_mem hm
        rw [List.length_drop] at this
        omega
      · omega
    go_enter Try.func50, Try.ntmps50
    go_wp2
    have c1 := xcell (w := w.alloc (.cells #[.int .i64 x, .int .i64 y] 50)) (p := ⟨w.heap.size, 0, none⟩) (v := .int .i64 x) (by simp) (by simp)
    have c2 := xcell (w := w.alloc (.cells #[.int .i64 x, .int .i64 y] 50)) (p := ⟨w.heap.size, 1, none⟩) (v := .int .i64 y) (by simp) (by simp)
    refine wp_region_ext (by kernel_rfl) (by kernel_rfl) ?_
    repeat (go_big_quiet_step ((go_at_call 59; exact ext_call (HK.out _ (bT (bA bR) (Ext.ok _))))))
    refine wpQuiet_nil ?_
    intro _ hw'
    obtain ⟨⟨wq, hq⟩, hw''⟩ := hw'
    subst hw''
    try dsimp only
    go_wp2
    go_ret
    exact ⟨by rw [HN.out, if_pos hin]; rfl, bT (bA bR) hq⟩
  · go_enter Try.func50, Try.ntmps50
    go_wp2
    have c1 := xcell (w := w.alloc (.cells #[.int .i64 x, .int .i64 y] 50)) (p := ⟨w.heap.size, 0, none⟩) (v := .int .i64 x) (by simp) (by simp)
    have c2 := xcell (w := w.alloc (.cells #[.int .i64 x, .int .i64 y] 50)) (p := ⟨w.heap.size, 1, none⟩) (v := .int .i64 y) (by simp) (by simp)
    refine wp_region_ext (by kernel_rfl) (by kernel_rfl) ?_
    repeat (go_big_quiet_step ((go_at_call 59; exact ext_call (HK.out _ (bT (bA bR) (Ext.ok _))))))
    refine wpQuiet_nil ?_
    intro _ hw'
    obtain ⟨⟨wq, hq⟩, hw''⟩ := hw'
    subst hw''
    try dsimp only
    go_wp2
    go_ret
    exact ⟨by rw [HN.out, if_neg (by omega)]; rfl, bT (bA bR) hq⟩
theorem idx_nxt {l : List Key} {i k : Nat} {v : Key} (hi : i ≤ k) (hk : k < l.length) (h : ∀ j (_ : i ≤ j) (_ : j < k) (hl : j < l.length), l[j] ≠ v) (e : l[k] = v) : nxt l i v = k := by
  have h0 := nxt_idx l i v (by omega)
  have h1 : idx (l.drop i) v = (k - i : Nat) := idx_at (l := l.drop i) (k := k - i) (by simp; omega) (fun j hj hl => by
    rw [List.getElem_drop]; exact h _ (by omega) (by omega) (by simp at hl; omega)) (by rw [List.getElem_drop]; simpa [show i + (k - i) = k by omega] using e)
  rw [h1, if_pos (by omega)] at h0
  omega
theorem none_nxt {l : List Key} {i : Nat} {v : Key} (hi : i ≤ l.length) (h : ∀ j (_ : i ≤ j) (hl : j < l.length), l[j] ≠ v) : nxt l i v = l.length := by
  have h0 := nxt_idx l i v hi
  have h1 : idx (l.drop i) v = -1 := idx_none (l := l.drop i) (fun j hj hl => by
    rw [List.getElem_drop]; exact h _ (by omega) (by simp at hl; omega))
  rw [h1, if_neg (by omega)] at h0
  omega

/-! ### the reference's tests -/
theorem l1Space_any (n : Int) (w : World) : Calls Try.prog 61 #[.int .i64 n] w fun r w' => r = .returned (.bool (inR n 16)) ∧ w = w' := by
  by_cases h0 : 0 ≤ n
  · have H : Hid (inR n 16 = decide (n < 16)) := by simp [Hid, inR, h0]
    go_enter Try.func61, Try.ntmps61
    go_wp2
    go_ret
    exact ⟨by rw [H.out]; rfl, rfl⟩
  · have H : Hid (inR n 16 = false) := by simp [Hid, inR, h0]
    go_enter Try.func61, Try.ntmps61
    go_wp2
    go_ret
    exact ⟨by rw [H.out]; rfl, rfl⟩
theorem l1Page_any (n : Int) (w : World) : Calls Try.prog 62 #[.int .i64 n] w fun r w' => r = .returned (.bool (inR n 256)) ∧ w = w' := by
  by_cases h0 : 0 ≤ n
  · have H : Hid (inR n 256 = decide (n < 256)) := by simp [Hid, inR, h0]
    go_enter Try.func62, Try.ntmps62
    go_wp2
    go_ret
    exact ⟨by rw [H.out]; rfl, rfl⟩
  · have H : Hid (inR n 256 = false) := by simp [Hid, inR, h0]
    go_enter Try.func62, Try.ntmps62
    go_wp2
    go_ret
    exact ⟨by rw [H.out]; rfl, rfl⟩
theorem sKeyValid_any (a b : Int) (w : World) : Calls Try.prog 52 #[.agg #[.int .i64 a, .int .i64 b]] w fun r w' => r = .returned (.bool (kval (a, b))) ∧ Below w.heap.size w w' := by
  by_cases h0 : inR a 16 = true
  · have H : Hid (kval (a, b) = inR b 256) := by simp [Hid, kval, h0]
    go_enter Try.func52, Try.ntmps52
    go_wp2_with (first | (go_at_call 61; refine (l1Space_any _ _).mono ?_; rintro e w' ⟨rfl, rfl⟩) | (go_at_call 62; refine (l1Page_any _ _).mono ?_; rintro e w' ⟨rfl, rfl⟩))
    go_ret
    exact ⟨by rw [H.out]; rfl, bA bR⟩
  · have h0 : inR a 16 = false := by simpa using h0
    have H : Hid (kval (a, b) = false) := by simp [Hid, kval, h0]
    go_enter Try.func52, Try.ntmps52
    go_wp2_with (go_at_call 61; refine (l1Space_any _ _).mono ?_; rintro e w' ⟨rfl, rfl⟩)
    go_ret
    exact ⟨by rw [H.out]; rfl, bA bR⟩

theorem l9Trace_any (A : Option Addr) (c : Nat) (l : List Key) (w : World) (h : Ks w.heap.size w A l) (hl : l.length ≤ 9223372036854775807) :
    Calls Try.prog 36 #[.slice A l.length c] w fun r w' => r = .returned (.bool (tval l)) ∧ Below w.heap.size w w' := by
  go_enter Try.func36, Try.ntmps36
  go_wp2
  go_loopw [3] (fun i wr => ∃ k : Nat, k ≤ l.length ∧ i = .int .i64 k ∧ Below w.heap.size w wr ∧ Hid (∀ j (_ : j < k) (hl : j < l.length), kval l[j] = true)) (fun i _ => l.length - (intOf i).toNat)
  case atStart => exact ⟨0, by omega, rfl, bR, fun j hj => by omega⟩
  case round =>
    obtain ⟨k, hk, rfl, hb, hall⟩ := hrel
    by_cases hlt : k < l.length
    · by_cases h40 : k ≤ 40
      · obtain ⟨b, o, rfl, hbb, h1, h2⟩ := (h.below hb).key hlt
        go_wp2_with fail
        refine (sKeyValid_any _ _ _).mono ?_
        rintro e w1 ⟨rfl, hb1⟩
        by_cases hv : kval l[k] = true
        · have H : Hid (∀ j (_ : j < k + 1) (hl : j < l.length), kval l[j] = true) := fun j hj hl => by
            rcases Nat.lt_or_ge j k with h | h
            · exact hall.out j h hl
            · obtain rfl : j = k := by omega
              exact hv
          go_wp2
          go_roundw
          case rel => exact ⟨k + 1, by omega, by go_num, bT hb hb1, H⟩
          case measure => simp [intOf]; omega
        · have hv : kval l[k] = false := by simpa using hv
          have H : Hid (tval l = false) := by
            have : l.all kval = false := by
              rw [List.all_eq_false]; exact ⟨_, List.getElem_mem hlt, by simp [hv]⟩
            simp [Hid, tval, this]
          go_wp2
          go_ret
          exact ⟨by rw [H.out]; rfl, bT hb hb1⟩
      · have H : Hid (tval l = decide ((l.length : Int) ≤ 40)) := by
          have h1 : ¬ l.length ≤ 40 := by omega
          have h2 : ¬ (l.length : Int) ≤ 40 := by omega
          simp [Hid, tval, h1, h2]
        go_wp2
        go_ret
        exact ⟨by rw [H.out]; rfl, hb⟩
    · have H : Hid (tval l = decide ((l.length : Int) ≤ 40)) := by
        have h1 : l.all kval = true := by
          rw [List.all_eq_true]
          intro x hx
          obtain ⟨j, hj, rfl⟩ := List.getElem_of_mem hx
          exact hall.out j (by omega) hj
        have h2 : ((l.length : Int) ≤ 40) = (l.length ≤ 40) := propext (by omega)
        simp only [Hid, tval, h1, Bool.and_true, h2]
      go_wp2
      go_ret
      exact ⟨by rw [H.out]; rfl, hb⟩

def rval (l : List Key) (n : Int) : Bool := tval l && lval n
theorem l9Right_any (A : Option Addr) (c : Nat) (l : List Key) (n : Int) (w : World) (h : Ks w.heap.size w A l) (hl : l.length ≤ 9223372036854775807) :
    Calls Try.prog 44 #[.slice A l.length c, .int .i64 n] w fun r w' => r = .returned (.bool (rval l n)) ∧ Below w.heap.size w w' := by
  by_cases h0 : tval l = true
  · by_cases h1 : 1 ≤ n
    · have H : Hid (rval l n = decide (n ≤ 8)) := by simp [Hid, rval, h0, lval, h1]
      go_enter Try.func44, Try.ntmps44
      go_wp2_with fail
      refine (l9Trace_any _ _ _ _ h hl).mono ?_
      rintro e w1 ⟨rfl, hb⟩
      go_wp2
      go_ret
      exact ⟨by rw [H.out]; rfl, hb⟩
    · have H : Hid (rval l n = false) := by simp [Hid, rval, lval, h1]
      go_enter Try.func44, Try.ntmps44
      go_wp2_with fail
      refine (l9Trace_any _ _ _ _ h hl).mono ?_
      rintro e w1 ⟨rfl, hb⟩
      go_wp2
      go_ret
      exact ⟨by rw [H.out]; rfl, hb⟩
  · have h0 : tval l = false := by simpa using h0
    have H : Hid (rval l n = false) := by simp [Hid, rval, h0]
    go_enter Try.func44, Try.ntmps44
    go_wp2_with fail
    refine (l9Trace_any _ _ _ _ h hl).mono ?_
    rintro e w1 ⟨rfl, hb⟩
    go_wp2
    go_ret
    exact ⟨by rw [H.out]; rfl, hb⟩
end Go.Proofs.Ytebodfciiikokaa
