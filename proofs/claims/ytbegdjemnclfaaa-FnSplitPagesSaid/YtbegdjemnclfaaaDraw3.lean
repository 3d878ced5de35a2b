import Derived.Test.YtbegdjemnclfaaaDraw2
namespace Go.Proofs.Ytbegdjemnclfaaa
open Go.RowKit

theorem own_far {w w' : World} {base : Nat} {e : TypeId} {sz : Nat} {v : Value} {n g : Nat} {xs : List Value} (h : w.ownsRow base e sz v n xs) (hg : w.grownBy w' (some g)) (hlt : g < base) : w'.ownsRow base e sz v n xs :=
  h.kept hg (.inr (fun e => by have := (h.lt g e).1; omega))

def Drawn (B : Nat) (w : World) (g p : Nat) (e : Ending) (w' : World) : Prop :=
  ∃ (v : Value) (l : List Key) (p' : Nat), e = .returned v ∧ w'.ownsRow w.heap.size 34 2 v l.length (kcells l) ∧ l.length ≤ 31 ∧ p' ≤ p + 100 ∧ Rdr B w' g p' ∧ w.grownBy w' (some g)

set_option maxHeartbeats 1000000 in
theorem l9Draw_any (B g p : Nat) (w : World) (h : Rdr B w g p) (hp : p ≤ 1000) :
    Calls Try.prog 37 #[.pointer (some ⟨g, 0, none⟩)] w (Drawn B w g p) := by
  have hgl := rdr_lt h
  go_enter Try.func37, Try.ntmps37
  go_wp2_with fail
  refine (pick_any B g p 5 _ (rdr_alloc h (.cells #[] 34)) (by omega) (by omega)).mono ?_
  rintro e w1 ⟨r1, rfl, hr0, hr1, hrd1, hg1⟩
  have hr5 : r1 < 5 := hr1 (by omega)
  have hG1 : w.grownBy w1 (some g) := gT (gA gR) hg1
  have hO1 : w1.ownsRow w.heap.size 34 2 (.slice (some ⟨w.heap.size, 0, none⟩) 0 0) 0 (kcells []) := own_far (World.ownsRow_made w #[] 0 (Nat.le_refl _) (by simp [maxLen]) rfl) hg1 hgl
  have HG1 := Lib.hid hG1
  have HO1 := Lib.hid hO1
  have HRD1 := Lib.hid hrd1
  clear hr1 hG1 hO1 hrd1 hg1 h
  go_wp2_with fail
  refine (num_any B g (p + 1) w1.heap.size [12, 8, 20, 5, 30, 0] _ (rdr_alloc HRD1.out _) (Own.new_ w1 3 #[.int .i64 12, .int .i64 8, .int .i64 20, .int .i64 5, .int .i64 30, .int .i64 0]) (by have := rdr_lt HRD1.out; omega) (by omega) (by simp) (by simp)).mono ?_
  rintro e w2 ⟨z, rfl, hz, hrd2, hg2⟩
  have hz30 : 0 ≤ z ∧ z ≤ 30 := by simp at hz; omega
  obtain ⟨zn, rfl⟩ := Int.eq_ofNat_of_zero_le hz30.1
  have HG2 := Lib.hid (gT (gA HG1.out) hg2)
  have HO2 := Lib.hid (own_far (HO1.out.alloc _) hg2 hgl)
  have HRD2 := Lib.hid hrd2
  clear hz hrd2 hg2
  go_wp2
  go_loopw [3, 5] (fun out i wr => ∃ (j q : Nat) (l : List Key), i = .int .i64 j ∧ l.length + j ≤ 30 ∧ q + 2 * j ≤ p + 62 ∧ wr.ownsRow w.heap.size 34 2 out l.length (kcells l) ∧ Rdr B wr g q ∧ w.grownBy wr (some g)) (fun _ i _ => (intOf i).toNat)
  case atStart => exact ⟨zn, p + 1 + 1, [], rfl, by simp; omega, by omega, HO2.out, HRD2.out, HG2.out⟩
  case round =>
    obtain ⟨j, q, l, rfl, hlj, hqj, hown, hrd, hg⟩ := hrel
    have HO := Lib.hid hown
    have HR := Lib.hid hrd
    have HG := Lib.hid hg
    clear hown hrd hg
    by_cases hj : 0 < j
    · go_wp2_with fail
      refine (pick_any B g q 2 wr HR.out (by omega) (by omega)).mono ?_
      rintro e w3 ⟨x, rfl, hx0, hx1, hrd3, hg3⟩
      have HG3 := Lib.hid (gT HG.out hg3)
      have HO3 := Lib.hid (own_far HO.out hg3 hgl)
      have HR3 := Lib.hid hrd3
      clear hx1 hrd3 hg3
      go_wp2_with fail
      refine (pick_any B g (q + 1) (2 + r1) w3 HR3.out (by omega) (by omega)).mono ?_
      rintro e w4 ⟨y, rfl, hy0, hy1, hrd4, hg4⟩
      have HG4 := Lib.hid (gT HG3.out hg4)
      have HO4 := Lib.hid (own_far HO3.out hg4 hgl)
      have HR4 := Lib.hid hrd4
      clear hy1 hrd4 hg4
      obtain ⟨v5, w5, hrun, hown5, hg5, hbl⟩ := run_append_key w.heap.size w4 _ l.length l x y HO4.out rfl (by omega) HG4.out.size
      have HRUN := Lib.hid hrun
      have hR5 : Rdr B w5 g (q + 1 + 1) := by
        rcases h9 : Value.ownBlock _ with _ | k
        · rw [h9] at hg5; exact rdr_grown (rdr_alloc HR4.out _) hg5
        · rw [h9] at hg5; exact rdr_grownb (rdr_alloc HR4.out _) hg5 (Nat.lt_of_lt_of_le hgl (own_block HO4.out k h9))
      have hG5 : w.grownBy w5 (some g) := by
        refine ⟨hg5.os.trans HG4.out.os, hg5.tape.trans HG4.out.tape, hg5.output.trans HG4.out.output, Nat.le_trans HG4.out.size (Nat.le_trans (by simp) hg5.size), fun i hi hne => ?_⟩
        have hlt := Nat.lt_of_lt_of_le hi HG4.out.size
        have := (hg5.block i (by simp; omega) (fun e => by have := own_block HO4.out i e.symm; omega)).trans (Below.heap_alloc w4 _ i hlt)
        exact this.trans (HG4.out.block i hi hne)
      rw [show l.length + 1 = (l ++ [(x, y)]).length by simp] at hown5
      have HO5 := Lib.hid hown5
      have HR5 := Lib.hid hR5
      have HG5 := Lib.hid hG5
      clear hown5 hR5 hG5 hg5 hrun hbl
      go_wp2_with (at_builtin; refine wpList_append_run _ rfl (.tmp 17) (.tmp 24) 23 rfl _ _ _ _ rfl rfl HRUN.out ?_)
      go_roundw
      case rel => exact ⟨j - 1, q + 1 + 1, l ++ [(x, y)], by rw [show ((j - 1 : Nat) : Int) = (j : Int) - 1 by omega], by simp; omega, by omega, HO5.out, HR5.out, HG5.out⟩
      case measure => simp [intOf]; omega
    · go_wp2_with fail
      refine (pick_any B g q 24 wr HR.out (by omega) (by omega)).mono ?_
      rintro e w3 ⟨x, rfl, hx0, hx1, hrd3, hg3⟩
      have HG3 := Lib.hid (gT HG.out hg3)
      have HO3 := Lib.hid (own_far HO.out hg3 hgl)
      have HR3 := Lib.hid hrd3
      clear hx1 hrd3 hg3
      by_cases hx : x = 0
      · subst hx
        obtain ⟨v5, w5, hrun, hown5, hg5, hbl⟩ := run_append_key w.heap.size w3 _ l.length l 0 256 HO3.out rfl (by omega) HG3.out.size
        have HRUN := Lib.hid hrun
        have hR5 : Rdr B w5 g (q + 1) := by
          rcases h9 : Value.ownBlock _ with _ | k
          · rw [h9] at hg5; exact rdr_grown (rdr_alloc HR3.out _) hg5
          · rw [h9] at hg5; exact rdr_grownb (rdr_alloc HR3.out _) hg5 (Nat.lt_of_lt_of_le hgl (own_block HO3.out k h9))
        have hG5 : w.grownBy w5 (some g) := by
          refine ⟨hg5.os.trans HG3.out.os, hg5.tape.trans HG3.out.tape, hg5.output.trans HG3.out.output, Nat.le_trans HG3.out.size (Nat.le_trans (by simp) hg5.size), fun i hi hne => ?_⟩
          have hlt := Nat.lt_of_lt_of_le hi HG3.out.size
          have := (hg5.block i (by simp; omega) (fun e => by have := own_block HO3.out i e.symm; omega)).trans (Below.heap_alloc w3 _ i hlt)
          exact this.trans (HG3.out.block i hi hne)
        rw [show l.length + 1 = (l ++ [((0 : Int), (256 : Int))]).length by simp] at hown5
        have HO5 := Lib.hid hown5
        have HR5 := Lib.hid hR5
        have HG5 := Lib.hid hG5
        clear hown5 hR5 hG5 hg5 hrun hbl
        go_wp2_with (at_builtin; refine wpList_append_run _ rfl (.tmp 29) (.tmp 31) 23 rfl _ _ _ _ rfl rfl HRUN.out ?_)
        go_ret
        exact ⟨_, _, q + 1, rfl, HO5.out, by simp; omega, by omega, HR5.out, HG5.out⟩
      · have hq : (x == 0) = false := by simpa using hx
        clear hx
        go_wp2
        go_ret
        exact ⟨_, l, q + 1, rfl, HO3.out, by omega, by omega, HR3.out, HG3.out⟩
end Go.Proofs.Ytbegdjemnclfaaa
