import Derived.Test.YtbegdjemnclfaaaInts
import Derived.Deep.SlicePairs
namespace Go.Proofs.Ytbegdjemnclfaaa
open Go.RowKit

/-! ### what the exact laws do beside the call -/
/-- which block may be written -/
def rowOf (n : Nat) (A : Option Addr) : Option Nat := if n = 0 then none else A.map (·.block)
theorem Mine.row {B : Nat} {w : World} {A : Option Addr} {l : List Int} (h : Mine B w A l) : ∀ k, rowOf l.length A = some k → B ≤ k := by
  intro k hk
  unfold rowOf at hk
  split at hk
  · cases hk
  · obtain ⟨g, cs, rfl, hb, _⟩ := h.own (by omega)
    simp at hk
    omega
section
variable {w0 w w' : World} {g : Nat} {t : TypeId} {cs : Array Value}
theorem gRx (w : World) (r : Option Nat) : w.grownBy w r := World.grownBy.refl w r
theorem gSx (h : w0.grownBy w (some g)) (i : Nat) (u : Value) : w0.grownBy (w.setCell ⟨g, i, none⟩ u) (some g) :=
  ⟨h.os, h.tape, h.output, by simpa using h.size, fun k hk hne => (Below.heap_setCell w _ u k (by rintro rfl; exact hne rfl)).trans (h.block k hk hne)⟩
theorem gDx {r : Option Nat} (h : w0.grownBy w r) {n : Nat} : w0.grownBy (w.drewN n) r := ⟨h.os, h.tape, h.output, h.size, h.block⟩
theorem Own.grownx (h : Own w g t cs) {r : Option Nat} (hg : w.grownBy w' r) (hne : some g ≠ r) : Own w' g t cs := (hg.block g h.lt hne).trans h
end

theorem szKeyS_small (A : Option Addr) (n c : Nat) (w : World) (hn : n ≤ 1048576) :
    Calls Try.prog 19 #[.slice A n c, .int .i64 1048576] w fun r w' => r = .returned (.int .i64 (1048576 - (n : Int))) ∧ w = w' := by
  have hq : ¬ (1048576 : Int) - n < 0 := by omega
  go_enter Try.func19, Try.ntmps19
  go_wp2
  go_ret
  exact ⟨rfl, rfl⟩
theorem szKeyS_big (A : Option Addr) (n c : Nat) (w : World) (hn : n ≤ 9223372036854775807) (h : ¬ n ≤ 1048576) :
    Calls Try.prog 19 #[.slice A n c, .int .i64 1048576] w fun r w' => r = .returned (.int .i64 (-1)) ∧ w = w' := by
  have hq : (1048576 : Int) - n < 0 := by omega
  go_enter Try.func19, Try.ntmps19
  go_wp2
  go_ret
  exact ⟨rfl, rfl⟩
theorem toKey_any (x y : Int) (w : World) : Calls Try.prog 43 #[.agg #[.int .i64 x, .int .i64 y]] w fun r w' => r = .returned (.agg #[.int .i64 x, .int .i64 y]) ∧ Below w.heap.size w w' := by
  go_enter Try.func43, Try.ntmps43
  go_wp2

  refine bodyPost_ret (v := .agg #[.int .i64 x, .int .i64 y]) (by simp [results, Try.results43, go_sem]) rfl ⟨rfl, ?_⟩
  repeat first | exact bR | refine bS ?_ (by simp) | refine bA ?_
theorem make_keys (n : Nat) (hn : n ≤ 1048576) : ∃ cs : Array Value, cs.size = n * 2 ∧ ∀ w : World, (Instr.makeSlice 23 (.int .i64 (n : Int)) (.int .i64 (n : Int))).run Try.prog w = .ok (.slice (some ⟨w.heap.size, 0, none⟩) n n) (w.alloc (.cells cs 34)) := by
  refine ⟨madeCells #[.int .i64 0, .int .i64 0] (n * 2), by simp [madeCells], fun w => ?_⟩
  obtain ⟨i0, hi0, hz0, hz1, hz2⟩ := info_parts key_info
  have hb : (i0.bytes : Int) * ((n : Nat) : Int) ≤ 281474976710656 := by rw [hz2]; omega
  have hr := run_make (P := Try.prog) w 23 34 i0 _ Try.underlying23 hi0 hz0 .i64 .i64 n n (by omega) (by omega) hb (by omega)
  simp only [Int.toNat_natCast, hz1] at hr
  exact hr
/-- a block of keys of the call's own -/
def KOwn (w : World) (g : Nat) (l : List Key) : Prop := ∃ cs, Own w g 34 cs ∧ cs.size = l.length * 2 ∧ ∀ j, j < l.length * 2 → cs[j]? = (kcells l)[j]?
theorem KOwn.ks {w : World} {g : Nat} {l : List Key} (h : KOwn w g l) : Ks w.heap.size w (some ⟨g, 0, none⟩) l := by
  obtain ⟨cs, h1, h2, h3⟩ := h
  refine ⟨kcells_length l, fun _ => ⟨g, 0, rfl, h1.lt, fun j u hu => ?_⟩⟩
  obtain ⟨hj, _⟩ := List.getElem?_eq_some_iff.1 hu
  rw [kcells_length] at hj
  rw [Nat.zero_add, h1.cell, h3 j hj, hu]
theorem KOwn.below {w w' : World} {g : Nat} {l : List Key} (h : KOwn w g l) (hb : Below w.heap.size w w') : KOwn w' g l :=
  let ⟨cs, h1, h2, h3⟩ := h; ⟨cs, h1.below hb, h2, h3⟩
theorem KOwn.ksb {w w' : World} {g : Nat} {l : List Key} (h : KOwn w g l) (hb : Below w.heap.size w w') : Ks w'.heap.size w' (some ⟨g, 0, none⟩) l := (h.below hb).ks
theorem Mine.below {B : Nat} {w w' : World} {A : Option Addr} {l : List Int} (h : Mine B w A l) (hb : Below w.heap.size w w') : Mine B w' A l :=
  ⟨h.is.now (Nat.le_refl _) hb, fun hl => let ⟨g, cs, e, hg, ho, hs⟩ := h.own hl; ⟨g, cs, e, hg, ho.below hb, hs⟩⟩
theorem Mine.grown {B k : Nat} {w w' : World} {A : Option Addr} {l : List Int} (h : Mine B w A l) (hg : w.grownBy w' (some k)) (hk : k < B) : Mine B w' A l := by
  refine ⟨⟨h.is.len, fun hn => ?_⟩, fun hl => ?_⟩
  · obtain ⟨g, cs, rfl, hbg, ho, _⟩ := h.own hn
    obtain ⟨b, o, e, hb, hc⟩ := h.is.at_ hn
    injection e with e
    injection e with e1 e2
    subst e1 e2
    have := hg.size
    exact ⟨g, 0, rfl, by omega, fun j u hu => (World.cell?_of_block (a := ⟨g, 0 + j, none⟩) (hg.block g hb (by simp; omega))).trans (hc j u hu)⟩
  · obtain ⟨g, cs, e, hbg, ho, hs⟩ := h.own hl
    exact ⟨g, cs, e, hbg, ho.grownx hg (by simp; omega), hs⟩
theorem kcells_at {l : List Key} {k : Nat} {x y : Int} (e : l[k]? = some (x, y)) : (kcells l)[k * 2]? = some (.int .i64 x) ∧ (kcells l)[k * 2 + 1]? = some (.int .i64 y) := by
  obtain ⟨h, e⟩ := List.getElem?_eq_some_iff.1 e
  have := kcells_get l k h
  rw [e] at this
  exact this
theorem toKeyS_any (A : Option Addr) (c : Nat) (l : List Key) (w : World) (h : Ks w.heap.size w A l) (hl : l.length ≤ 1048576) :
    Calls Try.prog 20 #[.slice A l.length c] w fun r w' => r = .returned (.slice (some ⟨w.heap.size, 0, none⟩) l.length l.length) ∧ KOwn w' w.heap.size l ∧ Below w.heap.size w w' := by
  obtain ⟨C0, hC0, hmk⟩ := make_keys l.length hl
  go_enter Try.func20, Try.ntmps20
  go_wp2
  go_loopw [4] (fun u wr => ∃ (k : Nat) (cs : Array Value), k ≤ l.length ∧ u = .int .i64 k ∧ cs.size = l.length * 2 ∧ Hid (∀ j, j < k * 2 → cs[j]? = (kcells l)[j]?) ∧ Own wr w.heap.size 34 cs ∧ Below w.heap.size w wr) (fun u _ => l.length - (intOf u).toNat)
  case atStart => exact ⟨0, _, by omega, rfl, hC0, (fun j hj => absurd hj (by omega)), Own.new_ _ _ _, bA bR⟩
  case round =>
    obtain ⟨k, cs, hk, rfl, hcs, hc, hown, hb⟩ := hrel
    by_cases hlt : k < l.length
    · obtain ⟨b, o, x, y, rfl, hbb, c1, c2, e1⟩ := (h.below hb).key2 hlt
      have E1 := Lib.hid e1
      have HOWN := Lib.hid hown
      have HCS := Lib.hid hcs
      clear e1 hown hcs
      go_wp2_with fail
      refine (toKey_any _ _ _).mono ?_
      rintro e w2 ⟨rfl, hb2⟩
      have hown := HOWN.out.below hb2
      obtain ⟨v0, hcc⟩ : ∃ v, w2.cell? ⟨w.heap.size, k * 2, none⟩ = some v := ⟨_, (hown.cell _).trans (Array.getElem?_eq_getElem (by have := HCS.out; omega))⟩
      obtain ⟨v1, hcd⟩ : ∃ v, w2.cell? ⟨w.heap.size, k * 2 + 1, none⟩ = some v := ⟨_, (hown.cell _).trans (Array.getElem?_eq_getElem (by have := HCS.out; omega))⟩
      have hff := hown.free (k * 2)
      have hfg := hown.free (k * 2 + 1)
      have HFIN := Lib.hid ((hown.set_ (k * 2) (.int .i64 x)).set_ (k * 2 + 1) (.int .i64 y))
      clear hown
      go_wp2
      go_roundw
      case rel =>
        refine ⟨k + 1, _, by omega, by go_num, ?_, ?_, HFIN.out, bS (bS (bT hb hb2) (Nat.le_refl _)) (Nat.le_refl _)⟩
        · simp only [Array.size_setIfInBounds]; exact HCS.out
        · intro j hj
          obtain ⟨q1, q2⟩ := kcells_at E1.out
          rw [Array.getElem?_setIfInBounds, Array.getElem?_setIfInBounds]
          have := HCS.out
          simp only [Array.size_setIfInBounds]
          by_cases h1 : k * 2 + 1 = j
          · subst h1
            rw [if_pos rfl, if_pos (by omega), q2]
          · rw [if_neg h1]
            by_cases h2 : k * 2 = j
            · subst h2
              rw [if_pos rfl, if_pos (by omega), q1]
            · rw [if_neg h2]
              exact hc.out j (by omega)
      case measure => simp [intOf]; omega
    · obtain rfl : k = l.length := by omega
      go_wp2
      go_ret
      exact ⟨rfl, ⟨_, hown, hcs, hc.out⟩, hb⟩
theorem eqKey_same (x y : Int) (w : World) : Calls Try.prog 44 #[.agg #[.int .i64 x, .int .i64 y], .agg #[.int .i64 x, .int .i64 y]] w fun r w' => r = .returned (.bool true) ∧ Below w.heap.size w w' := by
  go_enter Try.func44, Try.ntmps44
  go_wp2
  go_ret
  exact ⟨rfl, bA (bA bR)⟩
theorem eqKeyS_same (A A' : Option Addr) (c c' : Nat) (l : List Key) (w : World) (h : Ks w.heap.size w A l) (h' : Ks w.heap.size w A' l) (hl : l.length ≤ 9223372036854775807) :
    Calls Try.prog 22 #[.slice A l.length c, .slice A' l.length c'] w fun r w' => r = .returned (.bool true) ∧ Below w.heap.size w w' := by
  go_enter Try.func22, Try.ntmps22
  go_wp2
  go_loopw [5] (fun i wr => ∃ k : Nat, k ≤ l.length ∧ i = .int .i64 k ∧ Below w.heap.size w wr) (fun i _ => l.length - (intOf i).toNat)
  case atStart => exact ⟨0, by omega, rfl, bR⟩
  case round =>
    obtain ⟨k, hk, rfl, hb⟩ := hrel
    by_cases hlt : k < l.length
    · obtain ⟨b, o, x, y, rfl, hbb, c1, c2, e1⟩ := (h.now (Nat.le_refl _) hb).key2 hlt
      obtain ⟨b', o', x', y', rfl, hbb', d1, d2, e2⟩ := (h'.now (Nat.le_refl _) hb).key2 hlt
      rw [e1] at e2
      injection e2 with e2
      injection e2 with e2 e3
      subst e2 e3
      clear e1
      go_wp2
      have q1 := xcell (w := wr) c1 (by simp; omega)
      have q2 := xcell (w := wr) c2 (by simp; omega)
      have q3 := xcell (w := wr) d1 (by simp; omega)
      have q4 := xcell (w := wr) d2 (by simp; omega)
      refine wp_region_ext (by kernel_rfl) (by kernel_rfl) ?_
      repeat (go_big_quiet_step ((go_at_call 44; exact ext_call (eqKey_same _ _ _))))
      refine wpQuiet_nil ?_
      intro _ hw'
      obtain ⟨⟨wq, hq⟩, hw''⟩ := hw'
      subst hw''
      try dsimp only
      go_wp2
      go_roundw
      case rel => exact ⟨k + 1, by omega, by go_num, bT hb hq⟩
      case measure => simp [intOf]; omega
    · go_wp2
      go_ret
      exact ⟨rfl, hb⟩
theorem markKeyS_any (g : Nat) (c : Nat) (l : List Key) (w : World) (h : KOwn w g l) (hl : l.length ≤ 1048576) :
    Calls Try.prog 23 #[.slice (some ⟨g, 0, none⟩) l.length c, .int .i64 1] w fun r w' => r = .returned (.int .i64 (1 + 2 * (l.length : Int))) ∧ w.grownBy w' (some g) := by
  obtain ⟨cs0, ho0, hs0, _⟩ := h
  go_enter Try.func23, Try.ntmps23
  go_wp2
  go_loopw [1, 5] (fun m u wr => ∃ (k : Nat) (cs : Array Value), k ≤ l.length ∧ u = .int .i64 k ∧ m = .int .i64 (1 + 2 * (k : Int)) ∧ cs.size = l.length * 2 ∧ Own wr g 34 cs ∧ w.grownBy wr (some g)) (fun _ u _ => l.length - (intOf u).toNat)
  case atStart => exact ⟨0, _, by omega, rfl, rfl, hs0, ho0, gRx _ _⟩
  case round =>
    obtain ⟨k, cs, hk, rfl, rfl, hcs, hown, hg⟩ := hrel
    by_cases hlt : k < l.length
    · obtain ⟨v0, hcc⟩ : ∃ v, wr.cell? ⟨g, k * 2, none⟩ = some v := ⟨_, (hown.cell _).trans (Array.getElem?_eq_getElem (by omega))⟩
      obtain ⟨v1, hcd⟩ : ∃ v, wr.cell? ⟨g, k * 2 + 1, none⟩ = some v := ⟨_, (hown.cell _).trans (Array.getElem?_eq_getElem (by omega))⟩
      have hff := hown.free (k * 2)
      have hfg := hown.free (k * 2 + 1)
      have HFIN := Lib.hid ((hown.set_ (k * 2) (.int .i64 (1 + 2 * (k : Int)))).set_ (k * 2 + 1) (.int .i64 (1 + 2 * (k : Int) + 1)))
      have HCS := Lib.hid hcs
      clear hown hcs
      go_wp2
      go_roundw
      case rel => exact ⟨k + 1, _, by omega, by go_num, by go_num, by simp only [Array.size_setIfInBounds]; exact HCS.out, HFIN.out, gSx (gSx hg _ _) _ _⟩
      case measure => simp [intOf]; omega
    · obtain rfl : k = l.length := by omega
      go_wp2
      go_ret
      exact ⟨rfl, hg⟩
/-- the marks -/
structure Marked (w : World) (A : Option Addr) (n : Nat) : Prop where
  own : 0 < n → ∃ g cs, A = some ⟨g, 0, none⟩ ∧ Own w g 3 cs ∧ n ≤ cs.size ∧ ∀ i, i < n → cs[i]? = some (.int .i64 (1 + (i : Int)))
theorem Marked.now {w w' : World} {A : Option Addr} {n : Nat} (h : Marked w A n) (hb : Below w.heap.size w w') : Marked w' A n :=
  ⟨fun hn => let ⟨g, cs, e, ho, hs, hc⟩ := h.own hn; ⟨g, cs, e, ho.below hb, hs, hc⟩⟩
theorem markIntS_any (B : Nat) (A : Option Addr) (c : Nat) (l : List Int) (w : World) (h : Mine B w A l) (hl : l.length ≤ 1048576) :
    Calls Try.prog 24 #[.slice A l.length c, .int .i64 1] w fun r w' => r = .returned (.int .i64 (1 + (l.length : Int))) ∧ Marked w' A l.length ∧ w.grownBy w' (rowOf l.length A) := by
  by_cases h0 : l.length = 0
  · rw [h0]
    go_enter Try.func24, Try.ntmps24
    go_wp2
    go_loopw [1, 5] (fun m u wr => m = .int .i64 1 ∧ u = .int .i64 0 ∧ w = wr) (fun _ _ _ => 0)
    case atStart => exact ⟨rfl, rfl, rfl⟩
    case round =>
      obtain ⟨rfl, rfl, rfl⟩ := hrel
      go_wp2
      go_ret
      exact ⟨rfl, ⟨fun h => absurd h (by omega)⟩, gRx _ _⟩
  · obtain ⟨g, cs0, rfl, hbg, ho0, hs0⟩ := h.own (by omega)
    have hrow : rowOf l.length (some ⟨g, 0, none⟩) = some g := by unfold rowOf; rw [if_neg h0]; rfl
    rw [hrow]
    clear hrow h0 h
    go_enter Try.func24, Try.ntmps24
    go_wp2
    go_loopw [1, 5] (fun m u wr => ∃ (k : Nat) (cs : Array Value), k ≤ l.length ∧ u = .int .i64 k ∧ m = .int .i64 (1 + (k : Int)) ∧ l.length ≤ cs.size ∧ Hid (∀ i, i < k → cs[i]? = some (.int .i64 (1 + (i : Int)))) ∧ Own wr g 3 cs ∧ w.grownBy wr (some g)) (fun _ u _ => l.length - (intOf u).toNat)
    case atStart => exact ⟨0, _, by omega, rfl, rfl, hs0, (fun i hi => absurd hi (by omega)), ho0, gRx _ _⟩
    case round =>
      obtain ⟨k, cs, hk, rfl, rfl, hcs, hc, hown, hg⟩ := hrel
      by_cases hlt : k < l.length
      · obtain ⟨v0, hcc⟩ : ∃ v, wr.cell? ⟨g, k, none⟩ = some v := ⟨_, (hown.cell _).trans (Array.getElem?_eq_getElem (by omega))⟩
        have hff := hown.free k
        have HFIN := Lib.hid (hown.set_ k (.int .i64 (1 + (k : Int))))
        have HCS := Lib.hid hcs
        clear hown hcs
        go_wp2
        go_roundw
        case rel =>
          refine ⟨k + 1, _, by omega, by go_num, by go_num, by simp only [Array.size_setIfInBounds]; exact HCS.out, ?_, HFIN.out, gSx hg _ _⟩
          intro i hi
          rw [Array.getElem?_setIfInBounds]
          by_cases hik : k = i
          · subst hik
            rw [if_pos rfl, if_pos (by have := HCS.out; omega)]
          · rw [if_neg hik]
            exact hc.out i (by omega)
        case measure => simp [intOf]; omega
      · obtain rfl : k = l.length := by omega
        go_wp2
        go_ret
        exact ⟨rfl, ⟨fun _ => ⟨g, cs, rfl, hown, hcs, hc.out⟩⟩, hg⟩
theorem heldIntS_any (A : Option Addr) (n c : Nat) (w : World) (h : Marked w A n) (hl : n ≤ 1048576) :
    Calls Try.prog 25 #[.slice A n c, .int .i64 1] w fun r w' => r = .returned (.int .i64 (1 + (n : Int))) ∧ Below w.heap.size w w' := by
  go_enter Try.func25, Try.ntmps25
  go_wp2
  go_loopw [1, 5] (fun m u wr => ∃ k : Nat, k ≤ n ∧ u = .int .i64 k ∧ m = .int .i64 (1 + (k : Int)) ∧ Below w.heap.size w wr) (fun _ u _ => n - (intOf u).toNat)
  case atStart => exact ⟨0, by omega, rfl, rfl, bR⟩
  case round =>
    obtain ⟨k, hk, rfl, rfl, hb⟩ := hrel
    by_cases hlt : k < n
    · obtain ⟨g, cs, rfl, ho, hs, hc⟩ := (h.now hb).own (by omega)
      have hcc := (ho.cell k).trans (hc k hlt)
      have hq : ((1 : Int) + k == 1 + k) = true := by rw [beq_iff_eq]
      clear ho
      go_wp2
      go_roundw
      case rel => exact ⟨k + 1, by omega, by go_num, by go_num, hb⟩
      case measure => simp [intOf]; omega
    · obtain rfl : k = n := by omega
      go_wp2
      go_ret
      exact ⟨rfl, hb⟩
/-- keys, cell by cell -/
theorem keys_of (w : World) (b o : Nat) : ∀ n : Nat, (∀ i, i < n → ∃ x y : Int, w.cell? ⟨b, o + i * 2, none⟩ = some (.int .i64 x) ∧ w.cell? ⟨b, o + i * 2 + 1, none⟩ = some (.int .i64 y)) →
    ∃ l : List Key, l.length = n ∧ ∀ j u, (kcells l)[j]? = some u → w.cell? ⟨b, o + j, none⟩ = some u := by
  intro n
  induction n with
  | zero => exact fun _ => ⟨[], rfl, fun j u h => by simp [kcells] at h⟩
  | succ n ih =>
    intro h
    obtain ⟨l, hl, hc⟩ := ih fun i hi => h i (by omega)
    obtain ⟨x, y, h1, h2⟩ := h n (by omega)
    refine ⟨l ++ [(x, y)], by simp [hl], fun j u hu => ?_⟩
    rw [kcells_append, List.getElem?_append] at hu
    split at hu
    · exact hc j u hu
    · rename_i hj
      rw [kcells_length, hl] at hj hu
      obtain ⟨d, rfl⟩ : ∃ d, j = n * 2 + d := ⟨j - n * 2, by omega⟩
      rw [Nat.add_sub_cancel_left] at hu
      match d, hu with
      | 0, hu => simp [kcells] at hu; rw [← hu]; exact h1
      | 1, hu => simp [kcells] at hu; rw [← hu]; exact h2
      | d + 2, hu => simp [kcells] at hu
/-! ### keys that came in -/
theorem Rd.nil_of_ {B : Nat} {w : World} (A : Option Addr) : Ks B w A [] := ⟨by simp [kcells], fun h => absurd h (by simp)⟩
open Go.ChangeShapes Go.WideShapes Go.Deep in
theorem open_keys {H : Type} {enc : TypeId × Value → H} {w : World} {fuel : Nat} {a : Option Addr} {len cap : Nat} {x : DataW H × List MemPlace}
    (h : DataW.trod enc Try.prog w 0 (fun _ => true) true fuel 35 [.slice a len cap] = some x) :
    ∃ l : List Key, l.length = len ∧ len ≤ cap ∧ cap ≤ maxLen ∧ Ks w.heap.size w a l := by
  rcases open_slice_pairs Try.underlying35 Try.underlying69 (by kernel_rfl) rfl rfl (by kernel_rfl) (by kernel_rfl) h with ⟨hcs, _⟩ | ⟨ad, l', c', m, n, V0, V1, D0, D1, P0, P1, hcs, _, hl, hm, hmm, _, hc⟩
  · simp at hcs
    obtain ⟨rfl, rfl, rfl⟩ := hcs
    exact ⟨[], rfl, Nat.le_refl _, by simp [maxLen], Rd.nil_⟩
  · simp at hcs
    obtain ⟨rfl, rfl, rfl⟩ := hcs
    have hcells : ∀ i, i < len → ∃ x y : Int, w.cell? (ad.add (i * 2)) = some (.int .i64 x) ∧ w.cell? (ad.add (i * 2 + 1)) = some (.int .i64 y) := by
      intro i hi
      obtain ⟨h1, h2, h3, h4⟩ := hc i (by rw [hmm]; simp; omega)
      obtain ⟨x, e1, _, _⟩ := DataW.trod_int Try.underlying3 h3
      obtain ⟨y, e2, _, _⟩ := DataW.trod_int Try.underlying3 h4
      simp at e1 e2
      exact ⟨x, y, e1 ▸ h1, e2 ▸ h2⟩
    rcases Nat.eq_zero_or_pos len with h0 | h0
    · subst h0
      exact ⟨[], rfl, hl, hm, Rd.nil_of_ _⟩
    · obtain ⟨b, o, s⟩ := ad
      have hs : s = none := by
        obtain ⟨x, y, h1, _⟩ := hcells 0 h0
        simpa [Addr.add] using World.cell?_spot h1
      subst hs
      simp only [add_lit_] at hcells
      obtain ⟨l, hll, hlc⟩ := keys_of w b o len hcells
      refine ⟨l, hll, hl, hm, kcells_length l, fun _ => ⟨b, o, rfl, ?_, hlc⟩⟩
      obtain ⟨x, y, h1, _⟩ := hcells 0 h0
      exact World.block_lt_of_cell? w _ h1
end Go.Proofs.Ytbegdjemnclfaaa
