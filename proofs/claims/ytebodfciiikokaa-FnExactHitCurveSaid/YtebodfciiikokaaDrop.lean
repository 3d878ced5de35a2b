import Derived.Test.YtebodfciiikokaaMove
import Derived.Test.YtebodfciiikokaaNext
namespace Go.Proofs.Ytebodfciiikokaa
open Go.RowKit

set_option maxHeartbeats 1000000 in
set_option maxRecDepth 1000000 in
theorem l9Drop_any (A : Option Addr) (c : Nat) (l : List Key) (i : Int) (w : World) (h : Ks w.heap.size w A l) (hs : l.length ≤ 1048576) (hc : l.length ≤ c) (h0 : 0 ≤ i) (h1 : i < l.length) :
    Calls Try.prog 54 #[.slice A l.length c, .int .i64 i] w
      (Post2 fun v w' => w'.ownsRow w.heap.size 50 2 v (l.length - 1) (kcells (l.eraseIdx i.toNat)) ∧ Below w.heap.size w w') := by
  obtain ⟨i, rfl⟩ := Int.eq_ofNat_of_zero_le h0
  rw [Int.toNat_natCast]
  have hwr : IntKind.i64.wrap ((i : Int) + 1) = (i : Int) + 1 := IntWalk.i64_in _ (by omega)
  have hs1 := fun W => ks_hi W A l.length c i (by omega) (by omega)
  have hs2 := fun W => ks_lo W A l.length c ((i : Int) + 1) (by omega) (by omega)
  rw [Int.toNat_natCast, Nat.sub_zero, Nat.sub_zero] at hs1
  rw [show ((i : Int) + 1).toNat = i + 1 by omega] at hs2
  have hk1 := h.kcut (c := c) (lo := 0) (hi := i) (by omega) (by omega) hc
  have hk2 := h.kfrom (c := c) (lo := i + 1) (by omega) hc
  rw [List.drop_zero] at hk1
  have HK1 := Lib.hid hk1
  have HK2 := Lib.hid hk2
  have hl1 : (l.take i).length = i := by rw [List.length_take]; omega
  have hl2 : (l.drop (i + 1)).length = l.length - (i + 1) := List.length_drop
  have HL1 := Lib.hid hl1
  have HL2 := Lib.hid hl2
  clear hk1 hk2 h hl1 hl2
  obtain ⟨i0, hi0, hz0, hz1, hz2⟩ := info_parts key_info
  have hm1 : 0 + i ≤ maxLen := by simp only [maxLen]; omega
  have hm2 : 0 + i + (l.length - (i + 1)) ≤ maxLen := by simp only [maxLen]; omega
  obtain ⟨v2, w2, hrun, hown2, hg2, hbl⟩ := run_append_rd (P := Try.prog) (w.alloc (.cells #[] 50)).drew w.heap.size 23 23 50 i0 _ 2 16 Try.underlying23 hi0 hz0 hz1 hz2 rfl (by omega)
    (.slice (some ⟨w.heap.size, 0, none⟩) 0 0) 0 [] (World.ownsRow_made w #[] 0 (Nat.le_refl _) (by simp [maxLen]) rfl) w.heap.size (cutA A c 0 2) i c (kcells (l.take i)) (by have := HK1.out.below (bD (bA bR (o := .cells #[] 50))); rwa [HL1.out] at this) (kcells_one _) hm1 (by omega) (by simp)
  have hb1 : Below w.heap.size w w2 := bG (bD (bA bR)) hg2 (by intro k hk; simp [Value.ownBlock] at hk; omega)
  obtain ⟨v3, w3, hrun3, hown3, hg3, _⟩ := run_append_rd (P := Try.prog) w2 w.heap.size 23 23 50 i0 _ 2 16 Try.underlying23 hi0 hz0 hz1 hz2 rfl (by omega)
    v2 (0 + i) ([] ++ kcells (l.take i)) hown2 w.heap.size (cutA A c (i + 1) 2) (l.length - (i + 1)) (c - (i + 1)) (kcells (l.drop (i + 1))) (by have := HK2.out.below hb1; rwa [HL2.out] at this) (kcells_one _) hm2 (by omega) hb1.size
  have HO1 := Lib.hid hown2
  have HBW := Lib.hid hb1
  have HO3 := Lib.hid hown3
  have HG3 := Lib.hid hg3
  have HR1 := Lib.hid hrun
  have HR3 := Lib.hid hrun3
  clear hown3 hg3 hown2 hg2 hbl hb1 hrun hrun3
  go_enter Try.func54, Try.ntmps54
  go_wp2
  go_region_law (first
    | (refine step_append_run rfl (.tmp 5) (.tmp 8) 23 rfl _ _ _ _ (by simp [Act.eval]) (by simp [Act.eval]) HR1.out ?_)
    | (refine step_append_run rfl (.tmp 9) (.tmp 13) 23 rfl _ _ _ _ (by simp [Act.eval]) (by simp [Act.eval]) HR3.out ?_))
  all_goals
    go_wp2
    go_ret
    have HO4 := HO3.out
    rw [List.nil_append, ← kcells_append, ← List.eraseIdx_eq_take_drop_succ, show 0 + i + (l.length - (i + 1)) = l.length - 1 by omega] at HO4
    exact ⟨_, rfl, HO4, bG HBW.out HG3.out (own_block HO1.out)⟩

/-! ### the choices -/
theorem oldest_any (v : Value) (i : Int) (w : World) : Calls Try.prog 47 #[v, .int .i64 i] w fun r w' => r = .returned (.int .i64 0) ∧ w = w' := by
  go_enter Try.func47, Try.ntmps47
  go_wp2
  go_ret
  exact ⟨rfl, rfl⟩
theorem stay_any (v : Value) (i : Int) (w : World) : Calls Try.prog 48 #[v, .int .i64 i] w fun r w' => r = .returned v ∧ w = w' := by
  go_enter Try.func48, Try.ntmps48
  go_wp2
  go_ret
  exact ⟨rfl, rfl⟩

/-- the farthest, after k places -/
def fari (f : Key → Nat) (l : List Key) : Nat → Nat
  | 0 => 0
  | k + 1 => match l[k]?, l[fari f l k]? with
    | some a, some b => if f a > f b then k else fari f l k
    | _, _ => fari f l k
theorem fari_lt (f : Key → Nat) (l : List Key) (hl : 0 < l.length) : ∀ n, fari f l n < l.length := by
  intro n
  induction n with
  | zero => simpa [fari]
  | succ n ih =>
    unfold fari
    split
    · split
      · rename_i a b ha hb _
        exact (List.getElem?_eq_some_iff.1 ha).1
      · exact ih
    · exact ih
theorem fari_succ (f : Key → Nat) (l : List Key) (k : Nat) {a b : Key} (h1 : l[k]? = some a) (h2 : l[fari f l k]? = some b) : fari f l (k + 1) = if f b < f a then k else fari f l k := by
  conv => lhs; unfold fari
  rw [h1, h2]

theorem best1_any (A : Option Addr) (c : Nat) (h : List Key) (T : Option Addr) (tc : Nat) (t : List Key) (i : Int) (p : Nat) (w : World) (hh : Ks w.heap.size w A h) (ht : Ks w.heap.size w T t)
    (hl : h.length ≤ 1048576) (htl : t.length ≤ 1048576) (htc : t.length ≤ tc) (h0 : 0 ≤ i) (h1 : i ≤ t.length) (hp : w.cell? ⟨p, 0, none⟩ = some (.slice T t.length tc)) (hpl : p < w.heap.size) (hne : 0 < h.length) :
    Calls Try.prog 49 #[.slice A h.length c, .int .i64 i, .pointer (some ⟨p, 0, none⟩)] w
      fun r w' => r = .returned (.int .i64 (fari (nxt t i.toNat) h h.length)) ∧ Below w.heap.size w w' := by
  obtain ⟨i, rfl⟩ := Int.eq_ofNat_of_zero_le h0
  rw [Int.toNat_natCast]
  have ht63 : t.length ≤ 9223372036854775807 := by omega
  go_enter Try.func49, Try.ntmps49
  go_wp2
  go_loopw [6, 11] (fun b u wr => ∃ k F : Nat, k ≤ h.length ∧ u = .int .i64 k ∧ b = .int .i64 F ∧ F < h.length ∧ Hid (F = fari (nxt t i) h k) ∧ Below w.heap.size w wr) (fun _ u _ => h.length - (intOf u).toNat)
  case atStart => exact ⟨0, 0, by omega, rfl, rfl, hne, rfl, bR⟩
  case round =>
    obtain ⟨k, F, hk, rfl, rfl, hFl, hF, hb⟩ := hrel
    by_cases hlt : k < h.length
    · obtain ⟨b, o, x, y, rfl, hbb, c1, c2, e1⟩ := (hh.below hb).key2 hlt
      obtain ⟨b', o', x2, y2, e', _, d1, d2, e2⟩ := (hh.below hb).key2 hFl
      injection e' with e'
      injection e' with e3 e4
      subst e3 e4
      have hp' := (hb.cell (p := ⟨p, 0, none⟩) hpl).trans hp
      have hsz := hb.size
      have hs : Hid (fari (nxt t i) h (k + 1) = if nxt t i (x2, y2) < nxt t i (x, y) then k else F) := by
        rw [hF.out] at e2 ⊢; exact fari_succ _ _ _ e1 e2
      have K1 := fun W (hw : Below wr.heap.size wr W) => nextUse_any T tc t i x y W (ht.now (Nat.le_refl _) (bT hb hw)) ht63 htc h0 h1
      have K2 := fun W (hw : Below wr.heap.size wr W) => nextUse_any T tc t i x2 y2 W (ht.now (Nat.le_refl _) (bT hb hw)) ht63 htc h0 h1
      rw [Int.toNat_natCast] at K1 K2
      generalize nxt t i (x, y) = N1 at hs K1
      generalize nxt t i (x2, y2) = N2 at hs K2
      have HK1 := Lib.hid K1
      have HK2 := Lib.hid K2
      clear K1 K2 e1 e2 hh ht hp
      by_cases hgt : N2 < N1
      · have HS : Hid (k = fari (nxt t i) h (k + 1)) := by show _ = _; rw [hs.out, if_pos hgt]
        go_wp2
        have q1 := xcell (w := wr.alloc (.cells #[.int .i64 x, .int .i64 y] 50)) (p := ⟨wr.heap.size, 0, none⟩) (v := .int .i64 x) (by simp) (by simp)
        have q2 := xcell (w := wr.alloc (.cells #[.int .i64 x, .int .i64 y] 50)) (p := ⟨wr.heap.size, 1, none⟩) (v := .int .i64 y) (by simp) (by simp)
        have q3 := xcell (w := wr.alloc (.cells #[.int .i64 x, .int .i64 y] 50)) (p := ⟨p, 0, none⟩) (v := .slice T t.length tc) (((bA bR).cell (p := ⟨p, 0, none⟩) (by simp; omega)).trans hp') (by simp; omega)
        have q4 := xcell (w := wr.alloc (.cells #[.int .i64 x, .int .i64 y] 50)) (p := ⟨b, o + F * 2, none⟩) (v := .int .i64 x2) (((bA bR).cell (p := ⟨b, o + F * 2, none⟩) (by simp; omega)).trans d1) (by simp; omega)
        have q5 := xcell (w := wr.alloc (.cells #[.int .i64 x, .int .i64 y] 50)) (p := ⟨b, o + F * 2 + 1, none⟩) (v := .int .i64 y2) (((bA bR).cell (p := ⟨b, o + F * 2 + 1, none⟩) (by simp; omega)).trans d2) (by simp; omega)
        refine wp_region_ext (by kernel_rfl) (by kernel_rfl) ?_
        repeat (go_big_quiet_step ((first | (go_at_call_of 50 x; exact ext_call (HK1.out _ (bT (bA bR) (Ext.ok _)))) | (go_at_call_of 50 x2; exact ext_call (HK2.out _ (bT (bA bR) (Ext.ok _)))))))
        refine wpQuiet_nil ?_
        intro _ hw'
        obtain ⟨⟨wq, hq⟩, hw''⟩ := hw'
        subst hw''
        try dsimp only
        go_wp2
        go_roundw
        case rel => exact ⟨k + 1, k, by omega, by go_num, rfl, by assumption, HS, bT (bT hb (bA bR)) hq⟩
        case measure => simp [intOf]; omega
      · have HS : Hid (F = fari (nxt t i) h (k + 1)) := by show _ = _; rw [hs.out, if_neg hgt]
        go_wp2
        have q1 := xcell (w := wr.alloc (.cells #[.int .i64 x, .int .i64 y] 50)) (p := ⟨wr.heap.size, 0, none⟩) (v := .int .i64 x) (by simp) (by simp)
        have q2 := xcell (w := wr.alloc (.cells #[.int .i64 x, .int .i64 y] 50)) (p := ⟨wr.heap.size, 1, none⟩) (v := .int .i64 y) (by simp) (by simp)
        have q3 := xcell (w := wr.alloc (.cells #[.int .i64 x, .int .i64 y] 50)) (p := ⟨p, 0, none⟩) (v := .slice T t.length tc) (((bA bR).cell (p := ⟨p, 0, none⟩) (by simp; omega)).trans hp') (by simp; omega)
        have q4 := xcell (w := wr.alloc (.cells #[.int .i64 x, .int .i64 y] 50)) (p := ⟨b, o + F * 2, none⟩) (v := .int .i64 x2) (((bA bR).cell (p := ⟨b, o + F * 2, none⟩) (by simp; omega)).trans d1) (by simp; omega)
        have q5 := xcell (w := wr.alloc (.cells #[.int .i64 x, .int .i64 y] 50)) (p := ⟨b, o + F * 2 + 1, none⟩) (v := .int .i64 y2) (((bA bR).cell (p := ⟨b, o + F * 2 + 1, none⟩) (by simp; omega)).trans d2) (by simp; omega)
        refine wp_region_ext (by kernel_rfl) (by kernel_rfl) ?_
        repeat (go_big_quiet_step ((first | (go_at_call_of 50 x; exact ext_call (HK1.out _ (bT (bA bR) (Ext.ok _)))) | (go_at_call_of 50 x2; exact ext_call (HK2.out _ (bT (bA bR) (Ext.ok _)))))))
        refine wpQuiet_nil ?_
        intro _ hw'
        obtain ⟨⟨wq, hq⟩, hw''⟩ := hw'
        subst hw''
        try dsimp only
        go_wp2
        go_roundw
        case rel => exact ⟨k + 1, F, by omega, by go_num, rfl, by assumption, HS, bT (bT hb (bA bR)) hq⟩
        case measure => simp [intOf]; omega
    · have HS : Hid (fari (nxt t i) h h.length = F) := by show _ = _; rw [hF.out, show k = h.length by omega]
      go_wp2
      go_ret
      exact ⟨by rw [HS.out]; rfl, hb⟩
end Go.Proofs.Ytebodfciiikokaa
