import Derived.Test.YtebodfciiikokaaOwn
import Derived.Test.YtebodfciiikokaaLeaf
import Derived.StillTailTactics
namespace Go.Proofs.Ytebodfciiikokaa
open Go.RowKit

def Post2 (P : Value → World → Prop) (e : Ending) (w' : World) : Prop := ∃ v, e = .returned v ∧ P v w'

theorem kcells_one (l : List Key) : ∀ u ∈ kcells l, u.oneCell' = true := by
  intro u hu
  simp only [kcells, List.mem_flatMap, List.mem_cons, List.not_mem_nil, or_false] at hu
  obtain ⟨k, _, rfl | rfl⟩ := hu <;> rfl
theorem kcells_erase (l : List Key) (i : Nat) : kcells (l.eraseIdx i) = (kcells l).take (i * 2) ++ kcells (l.drop (i + 1)) := by
  rw [List.eraseIdx_eq_take_drop_succ, kcells_append, kcells_take]

/-- a row of the call's own, laid open -/
theorem own_open {w : World} {base g c n : Nat} {e : TypeId} {sz : Nat} {xs : List Value} (h : w.ownsRow base e sz (.slice (some ⟨g, 0, none⟩) n c) n xs) (_ : 0 < n) :
    base ≤ g ∧ n ≤ c ∧ c ≤ maxLen ∧ ∃ cur, Own w g e cur ∧ cur.size = c * sz ∧ cur.toList.take (n * sz) = xs := by
  rcases h.2 with ⟨h0, _⟩ | ⟨g', cap, cur, e1, hb, hg, hc, hm, hs, ht⟩
  · cases h0
  · injection e1 with e1 _ e2
    injection e1 with e1
    injection e1 with e1
    subst e1 e2
    exact ⟨hb, hc, hm, cur, hg, hs, ht⟩
theorem own_shut {w : World} {base g c n : Nat} {e : TypeId} {sz : Nat} {xs : List Value} {cur : Array Value} (hb : base ≤ g) (hc : n ≤ c) (hm : c ≤ maxLen) (ho : Own w g e cur) (hs : cur.size = c * sz)
    (ht : cur.toList.take (n * sz) = xs) : w.ownsRow base e sz (.slice (some ⟨g, 0, none⟩) n c) n xs :=
  ⟨by rw [← ht, List.length_take, Array.length_toList, hs, Nat.min_eq_left (Nat.mul_le_mul_right _ hc)], .inr ⟨g, c, cur, rfl, hb, ho, hc, hm, hs, ht⟩⟩
theorem grown_setRow {a w : World} {g : Nat} (h : a.grownBy w (some g)) (cs : Array Value) : a.grownBy (w.setRow g cs) (some g) :=
  ⟨h.os, h.tape, h.output, by simpa using h.size, fun k hk hne => (setRow_other w g k cs (by rintro rfl; exact hne rfl)).trans (h.block k hk hne)⟩
theorem Own.row {w : World} {g : Nat} {t : TypeId} {cs : Array Value} (h : Own w g t cs) (cs' : Array Value) : Own (w.setRow g cs') g t cs' := setRow_heap w g cs cs' t (0, 0) h

theorem delete_any (base g c : Nat) (l : List Key) (i : Int) (w : World) (hown : w.ownsRow base 50 2 (.slice (some ⟨g, 0, none⟩) l.length c) l.length (kcells l))
    (h0 : 0 ≤ i) (h1 : i < l.length) :
    Calls Try.prog 60 #[.slice (some ⟨g, 0, none⟩) l.length c, .int .i64 i, .int .i64 (i + 1)] w
      (Post2 fun v w' => v = .slice (some ⟨g, 0, none⟩) (l.length - 1) c ∧ w'.ownsRow base 50 2 v (l.length - 1) (kcells (l.eraseIdx i.toNat)) ∧ w.grownBy w' (some g)) := by
  obtain ⟨i, rfl⟩ := Int.eq_ofNat_of_zero_le h0
  rw [Int.toNat_natCast]
  obtain ⟨A, c', e1, hlc, hcm, hrd⟩ := own_rd hown
  injection e1 with e1 _ e2
  subst e2
  have HA := Lib.hid e1.symm
  have hc63 : c ≤ 9223372036854775807 := by simp only [maxLen] at hcm; omega
  have HR := Lib.hid hrd
  have HO := Lib.hid hown
  clear hrd hown e1
  have hne : ((i : Int) == (i : Int) + 1) = false := by simp; omega
  go_enter Try.func60, Try.ntmps60
  go_wp2
  have hs1 : ∀ W, (Instr.slice 23 (.slice (some ⟨g, 0, none⟩) l.length c) none (some (.int .i64 i)) none).run Try.prog W = .ok (.slice (some ⟨g, 0, none⟩) i c) W := fun W => by
    have h := ks_hi W (some ⟨g, 0, none⟩) l.length c i (by omega) (by omega)
    rw [Int.toNat_natCast, Nat.sub_zero, Nat.sub_zero] at h
    rw [h]
    have e : cutA (some ⟨g, 0, none⟩) c 0 2 = some ⟨g, 0, none⟩ := by unfold cutA; rw [if_neg (by omega)]; rfl
    rw [e]
  obtain ⟨ad, had⟩ : ∃ ad, cutA (some ⟨g, 0, none⟩) c (i + 1) 2 = some ad := by unfold cutA; split; exact ⟨_, rfl⟩; exact ⟨_, rfl⟩
  have hs2 : ∀ W, (Instr.slice 23 (.slice (some ⟨g, 0, none⟩) l.length c) (some (.int .i64 ((i : Int) + 1))) none none).run Try.prog W = .ok (.slice (some ad) (l.length - (i + 1)) (c - (i + 1))) W := fun W => by
    have h := ks_lo W (some ⟨g, 0, none⟩) l.length c ((i : Int) + 1) (by omega) (by omega)
    rw [show ((i : Int) + 1).toNat = i + 1 by omega, had] at h
    exact h
  have HAD := Lib.hid had
  clear had
  go_still_tail 6, (by kernel_rfl)
  obtain ⟨hbg, hlc', hcm', cur, hcur, hsz, htk⟩ := own_open HO.out (by omega)
  obtain ⟨i0, hi0, hz0, hz1, hz2⟩ := info_parts key_info
  have hrun := run_append_room (P := Try.prog) w.drew 23 23 50 i0 Try.underlying23 hi0 g i c cur hcur ad (l.length - (i + 1)) (c - (i + 1)) (kcells (l.drop (i + 1)))
    (by rw [kcells_length, List.length_drop, hz1]) (by
      intro j u hu
      have hk := (HR.out.kfrom (c := c) (lo := i + 1) (by omega) hlc)
      have hpos : 0 < (l.drop (i + 1)).length := by
        rcases Nat.eq_zero_or_pos (l.drop (i + 1)).length with h | h
        · rw [List.length_eq_zero_iff.1 h] at hu; cases hu
        · exact h
      obtain ⟨b, o, e1, hbb, hcc⟩ := hk.at_ hpos
      have e3 : A = some ⟨g, 0, none⟩ := by
        have := own_rd HO.out
        obtain ⟨A', c', e1, _⟩ := this
        exact HA.out
      rw [e3, HAD.out] at e1
      injection e1 with e1
      rw [e1, add_lit_]
      exact hcc j u hu) (kcells_one _) (by omega) (by rw [kcells_length, List.length_drop, hz1, hsz]; omega)
  rw [hz1, show i + (l.length - (i + 1)) = l.length - 1 by omega] at hrun
  generalize hcs1 : (cur.toList.take (i * 2) ++ kcells (l.drop (i + 1)) ++ cur.toList.drop (i * 2 + (kcells (l.drop (i + 1))).length)).toArray = cur1 at hrun
  have hs1' : cur1.size = c * 2 := by
    rw [← hcs1]
    simp only [List.size_toArray, List.length_append, List.length_take, List.length_drop, Array.length_toList, kcells_length, hsz]
    omega
  have ht1 : cur1.toList.take ((l.length - 1) * 2) = kcells (l.eraseIdx i) := by
    rw [← hcs1, kcells_erase, ← htk, List.take_take, Nat.min_eq_left (by omega)]
    rw [List.toList_toArray, List.take_append_of_le_length (by simp [kcells_length]; omega)]
    rw [List.take_of_length_le (by simp [kcells_length]; omega)]
  have ho1 : Own (w.drew.setRow g cur1) g 50 cur1 := Own.row (w := w.drew) hcur cur1
  have hg1 : w.grownBy (w.drew.setRow g cur1) (some g) := grown_setRow (a := w) (w := w.drew) ⟨rfl, rfl, rfl, Nat.le_refl _, fun _ _ _ => rfl⟩ cur1
  clear hcs1 hcur htk hsz hs1 hs2
  generalize w.drew.setRow g cur1 = w1 at hrun ho1 hg1
  obtain ⟨m, hm⟩ : ∃ m, m = l.length - 1 := ⟨_, rfl⟩
  rw [← hm] at hrun ht1
  have hml : m < l.length := by omega
  have hml2 : l.length ≤ m + 1 := by omega
  have hs3 : ∀ W, (Instr.slice 23 (.slice (some ⟨g, 0, none⟩) m c) (some (.int .i64 (m : Int))) (some (.int .i64 (l.length : Int))) none).run Try.prog W = .ok (.slice (some ⟨g, m * 2, none⟩) 1 (c - m)) W := fun W => by
    have h := ks_lohi W (some ⟨g, 0, none⟩) m c m l.length (by omega) (by omega) (by omega)
    rw [Int.toNat_natCast, Int.toNat_natCast] at h
    rw [h]
    have e : cutA (some ⟨g, 0, none⟩) c m 2 = some ⟨g, m * 2, none⟩ := by unfold cutA; rw [if_neg (by omega), Option.map_some, add_lit_, Nat.zero_add]
    rw [e, show l.length - m = 1 by omega]
  obtain ⟨w2, hrun2, hw2⟩ := run_clear_rd (P := Try.prog) w1 23 0 50 i0 (.agg #[.int .i64 0, .int .i64 0]) Try.underlying23 hi0 hz0 (by
    intro u hu
    simp [Value.cells] at hu
    subst hu
    rfl) (some ⟨g, m * 2, none⟩) 1 (c - m) (fun _ => ⟨g, m * 2, cur1, rfl, ho1, by rw [hs1']; show m * 2 + 1 * 2 ≤ _; omega⟩)
  have hfin : w2.ownsRow base 50 2 (.slice (some ⟨g, 0, none⟩) m c) m (kcells (l.eraseIdx i)) ∧ w.grownBy w2 (some g) := by
    rcases hw2 with ⟨h, _⟩ | ⟨g', o', cur', e1, ho', rfl⟩
    · omega
    · injection e1 with e1
      injection e1 with e1 e2
      subst e1 e2
      have : cur' = cur1 := by
        unfold Own at ho' ho1
        rw [ho'] at ho1
        injection ho1 with ho1
        injection ho1
      subst this
      refine ⟨own_shut hbg (by omega) hcm' (Own.row ho' _) ?_ ?_, grown_setRow hg1 _⟩
      · rw [List.size_toArray]
        simp only [List.length_append, List.length_take, List.length_drop, Array.length_toList, zeroCells_one, hs1']
        show min (m * 2) (c * 2) + 1 * 2 + (c * 2 - (m * 2 + 1 * 2)) = c * 2
        omega
      · rw [List.toList_toArray, List.append_assoc, List.take_append_of_le_length (by simp only [List.length_take, Array.length_toList, hs1']; omega), List.take_take, Nat.min_self]
        exact ht1
  have HF := Lib.hid hfin
  have HM := Lib.hid hm
  clear hfin hm hw2 ho1 hg1 ht1 hs1' hml2
  refine wpList_append_run _ rfl (.tmp 22) (.tmp 25) 23 rfl _ _ _ _ rfl rfl hrun ?_
  clear hrun
  go_wp2
  go_ret
  rw [← HM.out]
  exact ⟨_, rfl, rfl, HF.out.1, HF.out.2⟩

/-! ### append of one key -/
theorem run_append_key (base : Nat) (W : World) (v : Value) (n : Nat) (l : List Key) (x y : Int) (hown : W.ownsRow base 50 2 v n (kcells l)) (hn : l.length = n) (hs : n ≤ 1048576) (hb : base ≤ W.heap.size) :
    ∃ v' w', (Builtin.append_ #[23, 23] 23 #[v, .slice (some ⟨W.heap.size, 0, none⟩) 1 1]).run Try.prog (W.alloc (.cells #[.int .i64 x, .int .i64 y] 50)) = .ok v' w' ∧
      w'.ownsRow base 50 2 v' (n + 1) (kcells (l ++ [(x, y)])) ∧ (W.alloc (.cells #[.int .i64 x, .int .i64 y] 50)).grownBy w' v.ownBlock ∧ (v'.ownBlock = v.ownBlock ∨ v'.ownBlock = some (W.heap.size + 1)) := by
  obtain ⟨i0, hi0, hz0, hz1, hz2⟩ := info_parts key_info
  have hr : Rd (W.alloc (.cells #[.int .i64 x, .int .i64 y] 50)).heap.size (W.alloc (.cells #[.int .i64 x, .int .i64 y] 50)) 2 (some ⟨W.heap.size, 0, none⟩) 1 (kcells [(x, y)]) :=
    ⟨rfl, fun _ => ⟨W.heap.size, 0, rfl, by simp, fun j u hu => by
      rw [Nat.zero_add, (Own.new_ W _ _).cell j]
      simpa [kcells] using hu⟩⟩
  have hm : n + 1 ≤ maxLen := by simp only [maxLen]; omega
  obtain ⟨v', w', h1, h2, h3, h4⟩ := run_append_rd (P := Try.prog) (W.alloc (.cells #[.int .i64 x, .int .i64 y] 50)) base 23 23 50 i0 _ 2 16 Try.underlying23 hi0 hz0 hz1 hz2 rfl (by omega)
    v n (kcells l) (hown.alloc _) _ _ 1 1 _ hr (kcells_one _) hm (by omega) (Nat.le_trans hb (by simp))
  exact ⟨v', w', h1, by rw [kcells_append]; exact h2, h3, by simpa using h4⟩
end Go.Proofs.Ytebodfciiikokaa
