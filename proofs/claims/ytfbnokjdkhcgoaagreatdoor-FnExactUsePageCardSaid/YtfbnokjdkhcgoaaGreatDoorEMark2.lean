/- A part of the proofs of this seat: Mark2. -/
import Derived.Test.YtfbnokjdkhcgoaaGreatDoorEPpS
set_option linter.unusedVariables false
set_option linter.unusedSimpArgs false
set_option maxRecDepth 1000000
namespace Go.Proofs.YtfbnokjdkhcgoaaGreatDoor
open Go.RowKit
theorem make_Frame (n : Nat) (hn : n ≤ 1048576) : ∃ cs : Array Value, cs.size = n * 5 ∧ ∀ w : World, (Instr.makeSlice 24 (.int .i64 (n : Int)) (.int .i64 (n : Int))).run Tryz.prog w = .ok (.slice (some ⟨w.heap.size, 0, none⟩) n n) (w.alloc (.cells cs 80)) := by
 refine ⟨madeCells #[.bool false, .int .i64 0, .int .i64 0, .int .i64 0, .int .i64 0] (n * 5), by simp [madeCells], fun w => ?_⟩
 obtain ⟨i0, hi0, hz0, hz1, hz2⟩ := info_parts fr_info
 have hb : (i0.bytes : Int) * ((n : Nat) : Int) ≤ 281474976710656 := by rw [hz2]; omega
 have hr := run_make (P := Tryz.prog) w 24 80 i0 _ Tryz.underlying24 hi0 hz0 .i64 .i64 n n (by omega) (by omega) hb (by omega)
 simp only [Int.toNat_natCast, hz1] at hr
 exact hr
set_option maxHeartbeats 1000000 in
theorem toFrameS_any (A : Option Addr) (c : Nat) (l : List (Fr)) (w : World) (h : Rs frE w.heap.size w A l) (hl : l.length ≤ 1048576) :
  Calls Tryz.prog 175 #[.slice A l.length c] w fun r w' => r = .returned (.slice (some ⟨w.heap.size, 0, none⟩) l.length l.length) ∧ EOwn frE 80 w' w.heap.size l ∧ Below w.heap.size w w' := by
 obtain ⟨C0, hC0, hmk⟩ := make_Frame l.length hl
 go_enter Tryz.func175, Tryz.ntmps175
 go_wp2
 go_loopw [4] (fun u wr => ∃ (k : Nat) (cs : Array Value), k ≤ l.length ∧ u = .int .i64 k ∧ cs.size = l.length * 5 ∧ Hid (∀ j, j < k * frE.sz → cs[j]? = (frE.cells l)[j]?) ∧ Own wr w.heap.size 80 cs ∧ Below w.heap.size w wr) (fun u _ => l.length - (intOf u).toNat)
 case atStart => exact ⟨0, _, by omega, rfl, hC0, (fun j hj => absurd hj (by omega)), Own.new_ _ _ _, bA bR⟩
 case round =>
  obtain ⟨k, cs, hk, rfl, hcs, hc, hown, hb⟩ := hrel
  by_cases hlt : k < l.length
  ·obtain ⟨a, ea⟩ : ∃ a, l[k]? = some a := ⟨_, List.getElem?_eq_getElem hlt⟩
   obtain ⟨b, o, rfl, hbb, d0, d1, d2, d3, d4⟩ := (h.below hb).fr ea
   have EA := Hd ea
   have HOWN := Hd hown
   have HCS := Hd hcs
   clear ea hown hcs
   go_wp2_with fail
   refine (toFrame_any a _).mono ?_
   rintro e w2 ⟨rfl, hb2⟩
   have hown := HOWN.out.below hb2
   obtain ⟨v0, hc0⟩ : ∃ v, w2.cell? ⟨w.heap.size, k * 5, none⟩ = some v := ⟨_, (hown.cell _).trans (Array.getElem?_eq_getElem (by have := HCS.out; omega))⟩
   have hf0 := hown.free (k * 5)
   obtain ⟨v1, hc1⟩ : ∃ v, w2.cell? ⟨w.heap.size, k * 5 + 1, none⟩ = some v := ⟨_, (hown.cell _).trans (Array.getElem?_eq_getElem (by have := HCS.out; omega))⟩
   have hf1 := hown.free (k * 5 + 1)
   obtain ⟨v2, hc2⟩ : ∃ v, w2.cell? ⟨w.heap.size, k * 5 + 2, none⟩ = some v := ⟨_, (hown.cell _).trans (Array.getElem?_eq_getElem (by have := HCS.out; omega))⟩
   have hf2 := hown.free (k * 5 + 2)
   obtain ⟨v3, hc3⟩ : ∃ v, w2.cell? ⟨w.heap.size, k * 5 + 3, none⟩ = some v := ⟨_, (hown.cell _).trans (Array.getElem?_eq_getElem (by have := HCS.out; omega))⟩
   have hf3 := hown.free (k * 5 + 3)
   obtain ⟨v4, hc4⟩ : ∃ v, w2.cell? ⟨w.heap.size, k * 5 + 4, none⟩ = some v := ⟨_, (hown.cell _).trans (Array.getElem?_eq_getElem (by have := HCS.out; omega))⟩
   have hf4 := hown.free (k * 5 + 4)
   have HFIN := Hd (((((hown.set_ (k * 5) (.bool a.used)).set_ (k * 5 + 1) (.int .i64 a.s)).set_ (k * 5 + 2) (.int .i64 a.p)).set_ (k * 5 + 3) (.int .i64 a.r)).set_ (k * 5 + 4) (.int .i64 a.n))
   have HFILL := Hd (fill_at (E := frE) (l := l) (k := k) (a := a) (cs := cs) (cs' := (((((cs.setIfInBounds (k * 5) (.bool a.used)).setIfInBounds (k * 5 + 1) (.int .i64 a.s)).setIfInBounds (k * 5 + 2) (.int .i64 a.p)).setIfInBounds (k * 5 + 3) (.int .i64 a.r)).setIfInBounds (k * 5 + 4) (.int .i64 a.n))) EA.out (by simp) (fun j u hu => by
     have hsz := HCS.out
     match j, hu with
      | 0, hu => simp [frE] at hu; subst hu; simp [frE, Array.getElem?_setIfInBounds]; omega
      | 1, hu => simp [frE] at hu; subst hu; simp [frE, Array.getElem?_setIfInBounds]; omega
      | 2, hu => simp [frE] at hu; subst hu; simp [frE, Array.getElem?_setIfInBounds]; omega
      | 3, hu => simp [frE] at hu; subst hu; simp [frE, Array.getElem?_setIfInBounds]; omega
      | 4, hu => simp [frE] at hu; subst hu; simp [frE, Array.getElem?_setIfInBounds]; omega
      | j + 5, hu => simp [frE] at hu)
    (fun i hi => by simp only [frE] at hi; simp only [Array.getElem?_setIfInBounds]; repeat rw [if_neg (by omega)]) hc.out)
   clear hown
   go_wp2
   go_roundw
   case rel => exact ⟨k + 1, _, by omega, by go_num, (by simp only [Array.size_setIfInBounds]; exact HCS.out), HFILL.out, HFIN.out, bS (bS (bS (bS (bS (bT hb hb2) (Nat.le_refl _)) (Nat.le_refl _)) (Nat.le_refl _)) (Nat.le_refl _)) (Nat.le_refl _)⟩
   case measure => simp [intOf]; omega
  ·obtain rfl : k = l.length := by omega
   go_wp2
   go_ret
   exact ⟨rfl, ⟨⟨_, hown, hcs, hc.out⟩⟩, hb⟩
theorem make_Line (n : Nat) (hn : n ≤ 1048576) : ∃ cs : Array Value, cs.size = n * 6 ∧ ∀ w : World, (Instr.makeSlice 27 (.int .i64 (n : Int)) (.int .i64 (n : Int))).run Tryz.prog w = .ok (.slice (some ⟨w.heap.size, 0, none⟩) n n) (w.alloc (.cells cs 50)) := by
 refine ⟨madeCells #[.bool false, .int .i64 0, .int .i64 0, .int .i64 0, .int .i64 0, .bool false] (n * 6), by simp [madeCells], fun w => ?_⟩
 obtain ⟨i0, hi0, hz0, hz1, hz2⟩ := info_parts ln_info
 have hb : (i0.bytes : Int) * ((n : Nat) : Int) ≤ 281474976710656 := by rw [hz2]; omega
 have hr := run_make (P := Tryz.prog) w 27 50 i0 _ Tryz.underlying27 hi0 hz0 .i64 .i64 n n (by omega) (by omega) hb (by omega)
 simp only [Int.toNat_natCast, hz1] at hr
 exact hr
set_option maxHeartbeats 1000000 in
theorem toLineS_any (A : Option Addr) (c : Nat) (l : List (Ln)) (w : World) (h : Rs lnE w.heap.size w A l) (hl : l.length ≤ 1048576) :
  Calls Tryz.prog 176 #[.slice A l.length c] w fun r w' => r = .returned (.slice (some ⟨w.heap.size, 0, none⟩) l.length l.length) ∧ EOwn lnE 50 w' w.heap.size l ∧ Below w.heap.size w w' := by
 obtain ⟨C0, hC0, hmk⟩ := make_Line l.length hl
 go_enter Tryz.func176, Tryz.ntmps176
 go_wp2
 go_loopw [4] (fun u wr => ∃ (k : Nat) (cs : Array Value), k ≤ l.length ∧ u = .int .i64 k ∧ cs.size = l.length * 6 ∧ Hid (∀ j, j < k * lnE.sz → cs[j]? = (lnE.cells l)[j]?) ∧ Own wr w.heap.size 50 cs ∧ Below w.heap.size w wr) (fun u _ => l.length - (intOf u).toNat)
 case atStart => exact ⟨0, _, by omega, rfl, hC0, (fun j hj => absurd hj (by omega)), Own.new_ _ _ _, bA bR⟩
 case round =>
  obtain ⟨k, cs, hk, rfl, hcs, hc, hown, hb⟩ := hrel
  by_cases hlt : k < l.length
  ·obtain ⟨a, ea⟩ : ∃ a, l[k]? = some a := ⟨_, List.getElem?_eq_getElem hlt⟩
   obtain ⟨b, o, rfl, hbb, d0, d1, d2, d3, d4, d5⟩ := (h.below hb).ln ea
   have EA := Hd ea
   have HOWN := Hd hown
   have HCS := Hd hcs
   clear ea hown hcs
   go_wp2_with fail
   refine (toLine_any a _).mono ?_
   rintro e w2 ⟨rfl, hb2⟩
   have hown := HOWN.out.below hb2
   obtain ⟨v0, hc0⟩ : ∃ v, w2.cell? ⟨w.heap.size, k * 6, none⟩ = some v := ⟨_, (hown.cell _).trans (Array.getElem?_eq_getElem (by have := HCS.out; omega))⟩
   have hf0 := hown.free (k * 6)
   obtain ⟨v1, hc1⟩ : ∃ v, w2.cell? ⟨w.heap.size, k * 6 + 1, none⟩ = some v := ⟨_, (hown.cell _).trans (Array.getElem?_eq_getElem (by have := HCS.out; omega))⟩
   have hf1 := hown.free (k * 6 + 1)
   obtain ⟨v2, hc2⟩ : ∃ v, w2.cell? ⟨w.heap.size, k * 6 + 2, none⟩ = some v := ⟨_, (hown.cell _).trans (Array.getElem?_eq_getElem (by have := HCS.out; omega))⟩
   have hf2 := hown.free (k * 6 + 2)
   obtain ⟨v3, hc3⟩ : ∃ v, w2.cell? ⟨w.heap.size, k * 6 + 3, none⟩ = some v := ⟨_, (hown.cell _).trans (Array.getElem?_eq_getElem (by have := HCS.out; omega))⟩
   have hf3 := hown.free (k * 6 + 3)
   obtain ⟨v4, hc4⟩ : ∃ v, w2.cell? ⟨w.heap.size, k * 6 + 4, none⟩ = some v := ⟨_, (hown.cell _).trans (Array.getElem?_eq_getElem (by have := HCS.out; omega))⟩
   have hf4 := hown.free (k * 6 + 4)
   obtain ⟨v5, hc5⟩ : ∃ v, w2.cell? ⟨w.heap.size, k * 6 + 5, none⟩ = some v := ⟨_, (hown.cell _).trans (Array.getElem?_eq_getElem (by have := HCS.out; omega))⟩
   have hf5 := hown.free (k * 6 + 5)
   have HFIN := Hd ((((((hown.set_ (k * 6) (.bool a.v)).set_ (k * 6 + 1) (.int .i64 a.t)).set_ (k * 6 + 2) (.int .i64 a.p)).set_ (k * 6 + 3) (.int .i64 a.f)).set_ (k * 6 + 4) (.int .i64 a.r)).set_ (k * 6 + 5) (.bool a.w))
   have HFILL := Hd (fill_at (E := lnE) (l := l) (k := k) (a := a) (cs := cs) (cs' := ((((((cs.setIfInBounds (k * 6) (.bool a.v)).setIfInBounds (k * 6 + 1) (.int .i64 a.t)).setIfInBounds (k * 6 + 2) (.int .i64 a.p)).setIfInBounds (k * 6 + 3) (.int .i64 a.f)).setIfInBounds (k * 6 + 4) (.int .i64 a.r)).setIfInBounds (k * 6 + 5) (.bool a.w))) EA.out (by simp) (fun j u hu => by
     have hsz := HCS.out
     match j, hu with
      | 0, hu => simp [lnE] at hu; subst hu; simp [lnE, Array.getElem?_setIfInBounds]; omega
      | 1, hu => simp [lnE] at hu; subst hu; simp [lnE, Array.getElem?_setIfInBounds]; omega
      | 2, hu => simp [lnE] at hu; subst hu; simp [lnE, Array.getElem?_setIfInBounds]; omega
      | 3, hu => simp [lnE] at hu; subst hu; simp [lnE, Array.getElem?_setIfInBounds]; omega
      | 4, hu => simp [lnE] at hu; subst hu; simp [lnE, Array.getElem?_setIfInBounds]; omega
      | 5, hu => simp [lnE] at hu; subst hu; simp [lnE, Array.getElem?_setIfInBounds]; omega
      | j + 6, hu => simp [lnE] at hu)
    (fun i hi => by simp only [lnE] at hi; simp only [Array.getElem?_setIfInBounds]; repeat rw [if_neg (by omega)]) hc.out)
   clear hown
   go_wp2
   go_roundw
   case rel => exact ⟨k + 1, _, by omega, by go_num, (by simp only [Array.size_setIfInBounds]; exact HCS.out), HFILL.out, HFIN.out, bS (bS (bS (bS (bS (bS (bT hb hb2) (Nat.le_refl _)) (Nat.le_refl _)) (Nat.le_refl _)) (Nat.le_refl _)) (Nat.le_refl _)) (Nat.le_refl _)⟩
   case measure => simp [intOf]; omega
  ·obtain rfl : k = l.length := by omega
   go_wp2
   go_ret
   exact ⟨rfl, ⟨⟨_, hown, hcs, hc.out⟩⟩, hb⟩
theorem make_Own (n : Nat) (hn : n ≤ 1048576) : ∃ cs : Array Value, cs.size = n * 2 ∧ ∀ w : World, (Instr.makeSlice 30 (.int .i64 (n : Int)) (.int .i64 (n : Int))).run Tryz.prog w = .ok (.slice (some ⟨w.heap.size, 0, none⟩) n n) (w.alloc (.cells cs 186)) := by
 refine ⟨madeCells #[.int .i64 0, .int .i64 0] (n * 2), by simp [madeCells], fun w => ?_⟩
 obtain ⟨i0, hi0, hz0, hz1, hz2⟩ := info_parts ow_info
 have hb : (i0.bytes : Int) * ((n : Nat) : Int) ≤ 281474976710656 := by rw [hz2]; omega
 have hr := run_make (P := Tryz.prog) w 30 186 i0 _ Tryz.underlying30 hi0 hz0 .i64 .i64 n n (by omega) (by omega) hb (by omega)
 simp only [Int.toNat_natCast, hz1] at hr
 exact hr
set_option maxHeartbeats 1000000 in
theorem toOwnS_any (A : Option Addr) (c : Nat) (l : List (Int × Int)) (w : World) (h : Rs owE w.heap.size w A l) (hl : l.length ≤ 1048576) :
  Calls Tryz.prog 177 #[.slice A l.length c] w fun r w' => r = .returned (.slice (some ⟨w.heap.size, 0, none⟩) l.length l.length) ∧ EOwn owE 186 w' w.heap.size l ∧ Below w.heap.size w w' := by
 obtain ⟨C0, hC0, hmk⟩ := make_Own l.length hl
 go_enter Tryz.func177, Tryz.ntmps177
 go_wp2
 go_loopw [4] (fun u wr => ∃ (k : Nat) (cs : Array Value), k ≤ l.length ∧ u = .int .i64 k ∧ cs.size = l.length * 2 ∧ Hid (∀ j, j < k * owE.sz → cs[j]? = (owE.cells l)[j]?) ∧ Own wr w.heap.size 186 cs ∧ Below w.heap.size w wr) (fun u _ => l.length - (intOf u).toNat)
 case atStart => exact ⟨0, _, by omega, rfl, hC0, (fun j hj => absurd hj (by omega)), Own.new_ _ _ _, bA bR⟩
 case round =>
  obtain ⟨k, cs, hk, rfl, hcs, hc, hown, hb⟩ := hrel
  by_cases hlt : k < l.length
  ·obtain ⟨a, ea⟩ : ∃ a, l[k]? = some a := ⟨_, List.getElem?_eq_getElem hlt⟩
   obtain ⟨b, o, rfl, hbb, d0, d1⟩ := (h.below hb).ow ea
   have EA := Hd ea
   have HOWN := Hd hown
   have HCS := Hd hcs
   clear ea hown hcs
   go_wp2_with fail
   refine (toOwn_any a _).mono ?_
   rintro e w2 ⟨rfl, hb2⟩
   have hown := HOWN.out.below hb2
   obtain ⟨v0, hc0⟩ : ∃ v, w2.cell? ⟨w.heap.size, k * 2, none⟩ = some v := ⟨_, (hown.cell _).trans (Array.getElem?_eq_getElem (by have := HCS.out; omega))⟩
   have hf0 := hown.free (k * 2)
   obtain ⟨v1, hc1⟩ : ∃ v, w2.cell? ⟨w.heap.size, k * 2 + 1, none⟩ = some v := ⟨_, (hown.cell _).trans (Array.getElem?_eq_getElem (by have := HCS.out; omega))⟩
   have hf1 := hown.free (k * 2 + 1)
   have HFIN := Hd ((hown.set_ (k * 2) (.int .i64 a.1)).set_ (k * 2 + 1) (.int .i64 a.2))
   have HFILL := Hd (fill_at (E := owE) (l := l) (k := k) (a := a) (cs := cs) (cs' := ((cs.setIfInBounds (k * 2) (.int .i64 a.1)).setIfInBounds (k * 2 + 1) (.int .i64 a.2))) EA.out (by simp) (fun j u hu => by
     have hsz := HCS.out
     match j, hu with
      | 0, hu => simp [owE] at hu; subst hu; simp [owE, Array.getElem?_setIfInBounds]; omega
      | 1, hu => simp [owE] at hu; subst hu; simp [owE, Array.getElem?_setIfInBounds]; omega
      | j + 2, hu => simp [owE] at hu)
    (fun i hi => by simp only [owE] at hi; simp only [Array.getElem?_setIfInBounds]; repeat rw [if_neg (by omega)]) hc.out)
   clear hown
   go_wp2
   go_roundw
   case rel => exact ⟨k + 1, _, by omega, by go_num, (by simp only [Array.size_setIfInBounds]; exact HCS.out), HFILL.out, HFIN.out, bS (bS (bT hb hb2) (Nat.le_refl _)) (Nat.le_refl _)⟩
   case measure => simp [intOf]; omega
  ·obtain rfl : k = l.length := by omega
   go_wp2
   go_ret
   exact ⟨rfl, ⟨⟨_, hown, hcs, hc.out⟩⟩, hb⟩
theorem make_Int (n : Nat) (hn : n ≤ 1048576) : ∃ cs : Array Value, cs.size = n * 1 ∧ ∀ w : World, (Instr.makeSlice 23 (.int .i64 (n : Int)) (.int .i64 (n : Int))).run Tryz.prog w = .ok (.slice (some ⟨w.heap.size, 0, none⟩) n n) (w.alloc (.cells cs 3)) := by
 refine ⟨madeCells #[.int .i64 0] (n * 1), by simp [madeCells], fun w => ?_⟩
 obtain ⟨i0, hi0, hz0, hz1, hz2⟩ := info_parts int_info2
 have hb : (i0.bytes : Int) * ((n : Nat) : Int) ≤ 281474976710656 := by rw [hz2]; omega
 have hr := run_make (P := Tryz.prog) w 23 3 i0 _ Tryz.underlying23 hi0 hz0 .i64 .i64 n n (by omega) (by omega) hb (by omega)
 simp only [Int.toNat_natCast, hz1] at hr
 exact hr
set_option maxHeartbeats 1000000 in
theorem toIntS_any (A : Option Addr) (c : Nat) (l : List (Int)) (w : World) (h : Rs intE w.heap.size w A l) (hl : l.length ≤ 1048576) :
  Calls Tryz.prog 23 #[.slice A l.length c] w fun r w' => r = .returned (.slice (some ⟨w.heap.size, 0, none⟩) l.length l.length) ∧ EOwn intE 3 w' w.heap.size l ∧ Below w.heap.size w w' := by
 obtain ⟨C0, hC0, hmk⟩ := make_Int l.length hl
 go_enter Tryz.func23, Tryz.ntmps23
 go_wp2
 go_loopw [4] (fun u wr => ∃ (k : Nat) (cs : Array Value), k ≤ l.length ∧ u = .int .i64 k ∧ cs.size = l.length * 1 ∧ Hid (∀ j, j < k * intE.sz → cs[j]? = (intE.cells l)[j]?) ∧ Own wr w.heap.size 3 cs ∧ Below w.heap.size w wr) (fun u _ => l.length - (intOf u).toNat)
 case atStart => exact ⟨0, _, by omega, rfl, hC0, (fun j hj => absurd hj (by omega)), Own.new_ _ _ _, bA bR⟩
 case round =>
  obtain ⟨k, cs, hk, rfl, hcs, hc, hown, hb⟩ := hrel
  by_cases hlt : k < l.length
  ·obtain ⟨a, ea⟩ : ∃ a, l[k]? = some a := ⟨_, List.getElem?_eq_getElem hlt⟩
   obtain ⟨b, o, rfl, hbb, d0⟩ := (h.below hb).i1 ea
   have EA := Hd ea
   have HOWN := Hd hown
   have HCS := Hd hcs
   clear ea hown hcs
   obtain ⟨w2, hb2, rfl⟩ : ∃ w2, Below wr.heap.size wr w2 ∧ w2 = wr := ⟨wr, bR, rfl⟩
   have hown := HOWN.out.below hb2
   obtain ⟨v0, hc0⟩ : ∃ v, w2.cell? ⟨w.heap.size, k, none⟩ = some v := ⟨_, (hown.cell _).trans (Array.getElem?_eq_getElem (by have := HCS.out; omega))⟩
   have hf0 := hown.free (k)
   have HFIN := Hd (hown.set_ (k) (.int .i64 a))
   have HFILL := Hd (fill_at (E := intE) (l := l) (k := k) (a := a) (cs := cs) (cs' := (cs.setIfInBounds (k) (.int .i64 a))) EA.out (by simp) (fun j u hu => by
     have hsz := HCS.out
     match j, hu with
      | 0, hu => simp [intE] at hu; subst hu; simp [intE, Array.getElem?_setIfInBounds]; omega
      | j + 1, hu => simp [intE] at hu)
    (fun i hi => by simp only [intE] at hi; simp only [Array.getElem?_setIfInBounds]; repeat rw [if_neg (by omega)]) hc.out)
   clear hown
   go_wp2
   go_roundw
   case rel => exact ⟨k + 1, _, by omega, by go_num, (by simp only [Array.size_setIfInBounds]; exact HCS.out), HFILL.out, HFIN.out, bS (bT hb hb2) (Nat.le_refl _)⟩
   case measure => simp [intOf]; omega
  ·obtain rfl : k = l.length := by omega
   go_wp2
   go_ret
   exact ⟨rfl, ⟨⟨_, hown, hcs, hc.out⟩⟩, hb⟩
end Go.Proofs.YtfbnokjdkhcgoaaGreatDoor
