import Derived.Test.YtbegdjemnclfaaaSplit
import Derived.Test.YtbegdjemnclfaaaExact
namespace Go.Proofs.Ytbegdjemnclfaaa
open Go.RowKit

theorem three_of {α β : Type} {f : α → β} {l : List α} {x y z : β} (h : l.map f = [x, y, z]) : ∃ a b c, l = [a, b, c] ∧ f a = x ∧ f b = y ∧ f c = z := by
  match l, h with
  | [a, b, c], h => simp at h; exact ⟨a, b, c, rfl, h.1, h.2.1, h.2.2⟩
theorem eql_piece (a b c : Int) (w : World) : (binOp .eql 54 (.agg #[.int .i64 a, .int .i64 b, .int .i64 c]) (.agg #[.int .i64 a, .int .i64 b, .int .i64 c])).run Try.prog w = .ok (.bool true) w := by
  have hu : Try.prog.underlying 54 = some (.struct (Try.prog.fieldsOf 54)) := by kernel_rfl
  have hp : Try.prog.stoodInHeld 54 = false := by kernel_rfl
  have hf : (Try.prog.fieldsOf 54).toList.map (fun f => (f.name, f.type, f.offset)) = [("Page", 3, 0), ("Offset", 3, 1), ("Count", 3, 2)] := by kernel_rfl
  have h : ∀ e : Nat, (Op.equalIn (e + 2) 54 (.agg #[.int .i64 a, .int .i64 b, .int .i64 c]) (.agg #[.int .i64 a, .int .i64 b, .int .i64 c])).run Try.prog w = .ok true w := by
    intro e
    rw [run_equalIn_struct w (e + 1) _ _ _ hu hp]
    obtain ⟨f, g, k, hl, h1, h2, h3⟩ := three_of hf
    rw [hl]
    simp only [Prod.mk.injEq] at h1 h2 h3
    obtain ⟨n1, t1, o1⟩ := h1
    obtain ⟨n2, t2, o2⟩ := h2
    obtain ⟨n3, t3, o3⟩ := h3
    simp [Op.eqFields, n1, t1, o1, n2, t2, o2, n3, t3, o3, part, run_equalIn_int, Try.underlying3, go_sem]
  simp only [binOp]
  simp [Op.equal, Op.maxDepth, h 9998]
theorem neq_piece (a b c : Int) (w : World) : (binOp .neq 54 (.agg #[.int .i64 a, .int .i64 b, .int .i64 c]) (.agg #[.int .i64 a, .int .i64 b, .int .i64 c])).run Try.prog w = .ok (.bool false) w := by
  have h := eql_piece a b c w
  simp only [binOp] at h ⊢
  revert h
  generalize Op.equal 54 (.agg #[.int .i64 a, .int .i64 b, .int .i64 c]) (.agg #[.int .i64 a, .int .i64 b, .int .i64 c]) = e
  simp only [Sem.run_bind]
  cases e.run Try.prog w <;> simp [Result.andThen]

/-- one piece of a row, cell by cell -/
theorem Rd.piece {B : Nat} {w : World} {A : Option Addr} {l : List (Int × Int × Int)} (h : Rs pieceE B w A l) {k : Nat} {x y z : Int} (hk : l[k]? = some (x, y, z)) :
    ∃ b o, A = some ⟨b, o, none⟩ ∧ b < B ∧ w.cell? ⟨b, o + k * 3, none⟩ = some (.int .i64 x) ∧ w.cell? ⟨b, o + k * 3 + 1, none⟩ = some (.int .i64 y) ∧ w.cell? ⟨b, o + k * 3 + 2, none⟩ = some (.int .i64 z) := by
  obtain ⟨b, o, e, hb, hc⟩ := h.el hk
  exact ⟨b, o, e, hb, hc 0 _ rfl, hc 1 _ rfl, hc 2 _ rfl⟩
theorem get_some3 {l : List (Int × Int × Int)} {k : Nat} (h : k < l.length) : ∃ x y z, l[k]? = some (x, y, z) := ⟨_, _, _, List.getElem?_eq_getElem h⟩

set_option maxHeartbeats 1000000 in
theorem ipPieces_same (A A' : Option Addr) (c c' : Nat) (l : List (Int × Int × Int)) (w : World) (h : Rs pieceE w.heap.size w A l) (h' : Rs pieceE w.heap.size w A' l) (hl : l.length ≤ 9223372036854775807) :
    Calls Try.prog 29 #[.slice A l.length c, .slice A' l.length c'] w fun r w' => r = .returned (.bool true) ∧ Below w.heap.size w w' := by
  go_enter Try.func29, Try.ntmps29
  go_wp2
  go_loopw [5] (fun i wr => ∃ k : Nat, k ≤ l.length ∧ i = .int .i64 k ∧ Below w.heap.size w wr) (fun i _ => l.length - (intOf i).toNat)
  case atStart => exact ⟨0, by omega, rfl, bR⟩
  case round =>
    obtain ⟨k, hk, rfl, hb⟩ := hrel
    by_cases hlt : k < l.length
    · obtain ⟨x, y, z, e1⟩ := get_some3 hlt
      obtain ⟨b, o, rfl, hbb, c1, c2, c3⟩ := (h.below hb).piece e1
      obtain ⟨b', o', rfl, hbb', d1, d2, d3⟩ := (h'.below hb).piece e1
      have hn := fun W => neq_piece x y z W
      clear e1
      go_wp2
      go_quiet (fail)
      go_wp2
      go_roundw
      case rel => exact ⟨k + 1, by omega, by go_num, bDN hb⟩
      case measure => simp [intOf]; omega
    · go_wp2
      go_ret
      exact ⟨rfl, hb⟩
theorem eqPiece_same (x y z : Int) (w : World) : Calls Try.prog 50 #[.agg #[.int .i64 x, .int .i64 y, .int .i64 z], .agg #[.int .i64 x, .int .i64 y, .int .i64 z]] w fun r w' => r = .returned (.bool true) ∧ Below w.heap.size w w' := by
  go_enter Try.func50, Try.ntmps50
  go_wp2
  go_ret
  exact ⟨rfl, bA (bA bR)⟩
theorem eqPieceS_same (A A' : Option Addr) (c c' : Nat) (l : List (Int × Int × Int)) (w : World) (h : Rs pieceE w.heap.size w A l) (h' : Rs pieceE w.heap.size w A' l) (hl : l.length ≤ 9223372036854775807) :
    Calls Try.prog 33 #[.slice A l.length c, .slice A' l.length c'] w fun r w' => r = .returned (.bool true) ∧ Below w.heap.size w w' := by
  go_enter Try.func33, Try.ntmps33
  go_wp2
  go_loopw [5] (fun i wr => ∃ k : Nat, k ≤ l.length ∧ i = .int .i64 k ∧ Below w.heap.size w wr) (fun i _ => l.length - (intOf i).toNat)
  case atStart => exact ⟨0, by omega, rfl, bR⟩
  case round =>
    obtain ⟨k, hk, rfl, hb⟩ := hrel
    by_cases hlt : k < l.length
    · obtain ⟨x, y, z, e1⟩ := get_some3 hlt
      obtain ⟨b, o, rfl, hbb, c1, c2, c3⟩ := (h.now (Nat.le_refl _) hb).piece e1
      obtain ⟨b', o', rfl, hbb', d1, d2, d3⟩ := (h'.now (Nat.le_refl _) hb).piece e1
      clear e1
      go_wp2
      have q1 := xcell (w := wr) c1 (by simp; omega)
      have q2 := xcell (w := wr) c2 (by simp; omega)
      have q3 := xcell (w := wr) c3 (by simp; omega)
      have q4 := xcell (w := wr) d1 (by simp; omega)
      have q5 := xcell (w := wr) d2 (by simp; omega)
      have q6 := xcell (w := wr) d3 (by simp; omega)
      refine wp_region_ext (by kernel_rfl) (by kernel_rfl) ?_
      repeat (go_big_quiet_step ((go_at_call 50; exact ext_call (eqPiece_same _ _ _ _))))
      refine wpQuiet_nil ?_
      intro _ hw'
      obtain ⟨⟨wq, hq⟩, hw''⟩ := hw'
      subst hw''
      try dsimp only
      go_wp2
      go_roundw
      case rel => exact ⟨k + 1, by omega, by go_num, bT hb hq⟩
      case measure => simp [intOf]; omega
    · go_wp2
      go_ret
      exact ⟨rfl, hb⟩
/-- the marks of pieces -/
structure Marked3 (w : World) (A : Option Addr) (n : Nat) : Prop where
  own : 0 < n → ∃ g cs, A = some ⟨g, 0, none⟩ ∧ Own w g 54 cs ∧ n * 3 ≤ cs.size ∧ ∀ i, i < n * 3 → cs[i]? = some (.int .i64 (1 + (i : Int)))
theorem Marked3.now {w w' : World} {A : Option Addr} {n : Nat} (h : Marked3 w A n) (hb : Below w.heap.size w w') : Marked3 w' A n :=
  ⟨fun hn => let ⟨g, cs, e, ho, hs, hc⟩ := h.own hn; ⟨g, cs, e, ho.below hb, hs, hc⟩⟩
theorem set3_at {cs : Array Value} {k n : Nat} {x y z : Value} (hs : n * 3 ≤ cs.size) (hk : k < n) (f : Nat → Value) (hx : x = f (k * 3)) (hy : y = f (k * 3 + 1)) (hz : z = f (k * 3 + 2)) (h : ∀ i, i < k * 3 → cs[i]? = some (f i)) :
    ∀ i, i < (k + 1) * 3 → (((cs.setIfInBounds (k * 3) x).setIfInBounds (k * 3 + 1) y).setIfInBounds (k * 3 + 2) z)[i]? = some (f i) := by
  intro i hi
  rw [Array.getElem?_setIfInBounds, Array.getElem?_setIfInBounds, Array.getElem?_setIfInBounds]
  simp only [Array.size_setIfInBounds]
  by_cases h2 : k * 3 + 2 = i
  · subst h2; rw [if_pos rfl, if_pos (by omega), hz]
  · rw [if_neg h2]
    by_cases h1 : k * 3 + 1 = i
    · subst h1; rw [if_pos rfl, if_pos (by omega), hy]
    · rw [if_neg h1]
      by_cases h0 : k * 3 = i
      · subst h0; rw [if_pos rfl, if_pos (by omega), hx]
      · rw [if_neg h0]; exact h i (by omega)
set_option maxHeartbeats 1000000 in
theorem markPieceS_any (B : Nat) (A : Option Addr) (c : Nat) (l : List (Int × Int × Int)) (w : World) (h : MineE pieceE 54 B w A l) (hl : l.length ≤ 1048576) :
    Calls Try.prog 34 #[.slice A l.length c, .int .i64 1] w fun r w' => r = .returned (.int .i64 (1 + 3 * (l.length : Int))) ∧ Marked3 w' A l.length ∧ w.grownBy w' (rowOf l.length A) := by
  by_cases h0 : l.length = 0
  · rw [h0]
    go_enter Try.func34, Try.ntmps34
    go_wp2
    go_loopw [1, 5] (fun m u wr => m = .int .i64 1 ∧ u = .int .i64 0 ∧ w = wr) (fun _ _ _ => 0)
    case atStart => exact ⟨rfl, rfl, rfl⟩
    case round =>
      obtain ⟨rfl, rfl, rfl⟩ := hrel
      go_wp2
      go_ret
      exact ⟨rfl, ⟨fun h => absurd h (by omega)⟩, gRx _ _⟩
  · obtain ⟨g, cs0, rfl, hbg, ho0, hs0⟩ := h.own (by omega)
    have hrow : rowOf l.length (some ⟨g, 0, none⟩) = some g := by unfold rowOf; rw [if_neg h0]; rfl
    rw [hrow]
    replace hs0 : l.length * 3 ≤ cs0.size := hs0
    clear hrow h0 h
    go_enter Try.func34, Try.ntmps34
    go_wp2
    go_loopw [1, 5] (fun m u wr => ∃ (k : Nat) (cs : Array Value), k ≤ l.length ∧ u = .int .i64 k ∧ m = .int .i64 (1 + 3 * (k : Int)) ∧ l.length * 3 ≤ cs.size ∧ Hid (∀ i, i < k * 3 → cs[i]? = some (.int .i64 (1 + (i : Int)))) ∧ Own wr g 54 cs ∧ w.grownBy wr (some g)) (fun _ u _ => l.length - (intOf u).toNat)
    case atStart => exact ⟨0, _, by omega, rfl, rfl, hs0, (fun i hi => absurd hi (by omega)), ho0, gRx _ _⟩
    case round =>
      obtain ⟨k, cs, hk, rfl, rfl, hcs, hc, hown, hg⟩ := hrel
      by_cases hlt : k < l.length
      · obtain ⟨v0, hcc⟩ : ∃ v, wr.cell? ⟨g, k * 3, none⟩ = some v := ⟨_, (hown.cell _).trans (Array.getElem?_eq_getElem (by omega))⟩
        obtain ⟨v1, hcd⟩ : ∃ v, wr.cell? ⟨g, k * 3 + 1, none⟩ = some v := ⟨_, (hown.cell _).trans (Array.getElem?_eq_getElem (by omega))⟩
        obtain ⟨v2, hce⟩ : ∃ v, wr.cell? ⟨g, k * 3 + 2, none⟩ = some v := ⟨_, (hown.cell _).trans (Array.getElem?_eq_getElem (by omega))⟩
        have hff := hown.free (k * 3)
        have hfg := hown.free (k * 3 + 1)
        have hfh := hown.free (k * 3 + 2)
        have HFIN := Lib.hid (((hown.set_ (k * 3) (.int .i64 (1 + 3 * (k : Int)))).set_ (k * 3 + 1) (.int .i64 (1 + 3 * (k : Int) + 1))).set_ (k * 3 + 2) (.int .i64 (1 + 3 * (k : Int) + 1 + 1)))
        have HNEW := Lib.hid (set3_at hcs hlt (fun i => .int .i64 (1 + (i : Int))) (x := .int .i64 (1 + 3 * (k : Int))) (y := .int .i64 (1 + 3 * (k : Int) + 1)) (z := .int .i64 (1 + 3 * (k : Int) + 1 + 1)) (by simp; omega) (by simp; omega) (by simp; omega) hc.out)
        have HCS := Lib.hid hcs
        clear hown hcs
        go_wp2
        go_roundw
        case rel => exact ⟨k + 1, _, by omega, by go_num, by go_num, by simp only [Array.size_setIfInBounds]; exact HCS.out, HNEW.out, HFIN.out, gSx (gSx (gSx hg _ _) _ _) _ _⟩
        case measure => simp [intOf]; omega
      · obtain rfl : k = l.length := by omega
        go_wp2
        go_ret
        exact ⟨rfl, ⟨fun _ => ⟨g, cs, rfl, hown, hcs, hc.out⟩⟩, hg⟩
set_option maxHeartbeats 1000000 in
theorem heldPieceS_any (A : Option Addr) (n c : Nat) (w : World) (h : Marked3 w A n) (hl : n ≤ 1048576) :
    Calls Try.prog 35 #[.slice A n c, .int .i64 1] w fun r w' => r = .returned (.int .i64 (1 + 3 * (n : Int))) ∧ Below w.heap.size w w' := by
  go_enter Try.func35, Try.ntmps35
  go_wp2
  go_loopw [1, 5] (fun m u wr => ∃ k : Nat, k ≤ n ∧ u = .int .i64 k ∧ m = .int .i64 (1 + 3 * (k : Int)) ∧ Below w.heap.size w wr) (fun _ u _ => n - (intOf u).toNat)
  case atStart => exact ⟨0, by omega, rfl, rfl, bR⟩
  case round =>
    obtain ⟨k, hk, rfl, rfl, hb⟩ := hrel
    by_cases hlt : k < n
    · obtain ⟨g, cs, rfl, ho, hs, hc⟩ := (h.now hb).own (by omega)
      have h0 := (ho.cell (k * 3)).trans (hc (k * 3) (by omega))
      have h1 := (ho.cell (k * 3 + 1)).trans (hc (k * 3 + 1) (by omega))
      have h2 := (ho.cell (k * 3 + 2)).trans (hc (k * 3 + 2) (by omega))
      rw [show (1 : Int) + ((k * 3 : Nat) : Int) = 1 + 3 * (k : Int) by omega] at h0
      rw [show (1 : Int) + ((k * 3 + 1 : Nat) : Int) = 1 + 3 * (k : Int) + 1 by omega] at h1
      rw [show (1 : Int) + ((k * 3 + 2 : Nat) : Int) = 1 + 3 * (k : Int) + 1 + 1 by omega] at h2
      clear ho
      go_wp2
      go_roundw
      case rel => exact ⟨k + 1, by omega, by go_num, by go_num, hb⟩
      case measure => simp [intOf]; omega
    · obtain rfl : k = n := by omega
      go_wp2
      go_ret
      exact ⟨rfl, hb⟩
theorem toAddress_any (x y z : Int) (w : World) : Calls Try.prog 32 #[.agg #[.int .i64 x, .int .i64 y, .int .i64 z]] w fun r w' => r = .returned (.agg #[.int .i64 x, .int .i64 y, .int .i64 z]) ∧ Below w.heap.size w w' := by
  go_enter Try.func32, Try.ntmps32
  go_wp2
  refine bodyPost_ret (v := .agg #[.int .i64 x, .int .i64 y, .int .i64 z]) (by simp [results, Try.results32, go_sem]) rfl ⟨rfl, ?_⟩
  repeat first | exact bR | refine bS ?_ (by simp) | refine bA ?_
theorem MineE.row {B : Nat} {w : World} {A : Option Addr} {l : List (Int × Int × Int)} (h : MineE pieceE 54 B w A l) : ∀ k, rowOf l.length A = some k → B ≤ k := by
  intro k hk
  unfold rowOf at hk
  split at hk
  · cases hk
  · obtain ⟨g, cs, rfl, hb, _⟩ := h.own (by omega)
    simp at hk
    omega
/-- one piece, in numbers -/
theorem pc_facts {s p o b : Int} {i : Nat} (h : pval s p o b = true) (hi : i < pcn p o b) :
    ∃ Y Z : Int, pc p o b i = (p + i, Y, Z) ∧ 0 ≤ Y ∧ Y < 64 ∧ 1 ≤ Z ∧ Y + Z ≤ 64 ∧ (0 < i → Y = 0) ∧ (i + 1 < pcn p o b → Y + Z = 64) ∧ pcur p o i = (p + i) * 64 + Y ∧ (¬ i + 1 < pcn p o b → pcur p o i + Z = p * 64 + o + b) := by
  obtain ⟨h1, h2, h3⟩ := pval_iff.1 h
  obtain ⟨_, ⟨h6, h7⟩, h8, h9⟩ := aval_iff.1 h1
  obtain ⟨q1, q2, q3⟩ := pcn_le h
  have hc : pcur p o i = if i = 0 then p * 64 + o else (p + i) * 64 := rfl
  refine ⟨_, _, rfl, ?_⟩
  by_cases h0 : i = 0
  · subst h0
    rw [if_pos rfl] at hc
    rw [hc]
    refine ⟨by omega, by omega, by omega, by omega, by omega, by omega, by omega, by omega⟩
  · rw [if_neg h0] at hc
    rw [hc]
    refine ⟨by omega, by omega, by omega, by omega, by omega, by omega, by omega, by omega⟩
def psum (p o b : Int) (i : Nat) : Int := if i < pcn p o b then pcur p o i - (p * 64 + o) else b
theorem psum_zero {s p o b : Int} (h : pval s p o b = true) : psum p o b 0 = 0 := by
  obtain ⟨q1, q2, q3⟩ := pcn_le h
  unfold psum
  rw [if_pos (by omega)]
  simp [pcur]
theorem psum_end (p o b : Int) : psum p o b (pcn p o b) = b := by
  unfold psum
  rw [if_neg (by omega)]
theorem psum_succ {s p o b : Int} {i : Nat} {Y Z : Int} (h : pval s p o b = true) (hi : i < pcn p o b) (e : pc p o b i = (p + i, Y, Z)) :
    psum p o b (i + 1) = psum p o b i + Z ∧ 0 ≤ psum p o b i ∧ psum p o b i < 16384 ∧ p * 64 + o + psum p o b i = (p + i) * 64 + Y ∧ p * 64 + o + psum p o b i < 16384 := by
  obtain ⟨h1, h2, h3⟩ := pval_iff.1 h
  obtain ⟨_, ⟨h6, h7⟩, h8, h9⟩ := aval_iff.1 h1
  obtain ⟨q1, q2, q3⟩ := pcn_le h
  obtain ⟨Y', Z', e', f1, f2, f3, f4, f5, f6, f7, f8⟩ := pc_facts h hi
  rw [e] at e'
  injection e' with _ e'
  injection e' with e1 e2
  subst e1 e2
  have hc : pcur p o i = if i = 0 then p * 64 + o else (p + i) * 64 := rfl
  have hc1 : pcur p o (i + 1) = (p + (i + 1 : Nat)) * 64 := by simp [pcur]
  unfold psum
  rw [if_pos hi]
  by_cases hi1 : i + 1 < pcn p o b
  · rw [if_pos hi1, hc1, f7]
    have := f6 hi1
    split at hc <;> refine ⟨by omega, by omega, by omega, by omega, by omega⟩
  · rw [if_neg hi1]
    have := f8 hi1
    split at hc <;> refine ⟨by omega, by omega, by omega, by omega, by omega⟩
end Go.Proofs.Ytbegdjemnclfaaa
