/- A part of the proofs of this seat: VicP, VicS. -/
import Derived.Deep.LoopGhost
import Derived.Test.YtnaagdmaggdbmaaGreatDoorQKeep
import Derived.Test.YtnaagdmaggdbmaaGreatDoorQDrpI
set_option linter.unusedVariables false
set_option linter.unusedSimpArgs false
namespace Go.Proofs.YtnaagdmaggdbmaaGreatDoor
open Go.RowKit
theorem vf_step {ls : List Ln} {k a : Nat} {x : Ln} (e : ls[a]? = some x) (h : x.w = true) : vicFrom ls (k + 1) a = vicFrom ls k ((a + 1) % ls.length) := by
 rw [vicFrom, e]
 simp only [h, if_true]
theorem vf_stop {ls : List Ln} {k a : Nat} {x : Ln} (e : ls[a]? = some x) (h : x.w = false) : vicFrom ls (k + 1) a = a := by
 rw [vicFrom, e]
 simp [h]
def VSt (c : Ca) (j a : Nat) : Prop := a = (c.hand.toNat + j) % c.ls.length ∧ j ≤ c.ls.length ∧ vicFrom c.ls c.ls.length c.hand.toNat = vicFrom c.ls (c.ls.length - j) a ∧ ∀ i, i < j → ∃ x : Ln, c.ls[(c.hand.toNat + i) % c.ls.length]? = some x ∧ x.w = true
theorem vst_zero {c : Ca} (h : CV c) : VSt c 0 c.hand.toNat := by
 obtain ⟨h1, h2⟩ := inR_iff.1 h.hand
 exact ⟨by rw [Nat.add_zero, Nat.mod_eq_of_lt (by omega)], Nat.zero_le _, rfl, fun i hi => absurd hi (by omega)⟩
theorem vst_lt {c : Ca} (h : CV c) {j a : Nat} (hs : VSt c j a) : j < c.ls.length := by
 obtain ⟨_, h2, _, h4⟩ := hs
 rcases Nat.lt_or_ge j c.ls.length with hlt | hge
 ·exact hlt
 ·exfalso
  obtain ⟨i, x, e, hw⟩ := h.loose
  have hi := (List.getElem?_eq_some_iff.1 e).1
  have hn : 0 < c.ls.length := by omega
  let q := (i + c.ls.length * (c.hand.toNat + 1) - c.hand.toNat) % c.ls.length
  have hle : c.hand.toNat ≤ c.ls.length * (c.hand.toNat + 1) := Nat.le_trans (Nat.le_succ _) (Nat.le_mul_of_pos_left _ hn)
  have hq : q < c.ls.length := Nat.mod_lt _ hn
  have hqi : (c.hand.toNat + q) % c.ls.length = i := by
   show (c.hand.toNat + (i + c.ls.length * (c.hand.toNat + 1) - c.hand.toNat) % c.ls.length) % c.ls.length = i
   rw [Nat.add_mod_mod, show c.hand.toNat + (i + c.ls.length * (c.hand.toNat + 1) - c.hand.toNat) = i + c.ls.length * (c.hand.toNat + 1) by omega, Nat.add_mul_mod_self_left, Nat.mod_eq_of_lt hi]
  obtain ⟨y, e2, hy⟩ := h4 q (by omega)
  rw [hqi, e] at e2
  injection e2 with e2
  rw [← e2, hw] at hy
  cases hy
theorem vst_in {c : Ca} (h : CV c) {j a : Nat} (hs : VSt c j a) : a < c.ls.length := by
 rw [hs.1]
 exact Nat.mod_lt _ (by have := h.sz; omega)
theorem vst_step {c : Ca} (h : CV c) {j a : Nat} {x : Ln} (hs : VSt c j a) (e : c.ls[a]? = some x) (hw : x.w = true) : VSt c (j + 1) ((a + 1) % c.ls.length) := by
 have hj := vst_lt h hs
 obtain ⟨h1, h2, h3, h4⟩ := hs
 refine ⟨by rw [h1, Nat.mod_add_mod, Nat.add_assoc], hj, ?_, fun i hi => ?_⟩
 ·rw [h3, show c.ls.length - j = (c.ls.length - (j + 1)) + 1 by omega]
  exact vf_step e hw
 ·rcases Nat.lt_or_ge i j with hlt | hge
  ·exact h4 i hlt
  ·obtain rfl : i = j := by omega
   exact ⟨x, by rw [← h1]; exact e, hw⟩
theorem vst_stop {c : Ca} (h : CV c) {j a : Nat} {x : Ln} (hs : VSt c j a) (e : c.ls[a]? = some x) (hw : x.w = false) : vicFrom c.ls c.ls.length c.hand.toNat = a := by
 have hj := vst_lt h hs
 rw [hs.2.2.1, show c.ls.length - j = (c.ls.length - (j + 1)) + 1 by omega]
 exact vf_stop e hw
theorem vic_free {c : Ca} {k : Nat} {x : Ln} (e : c.ls[k]? = some x) (h : ∀ (j : Nat) (y : Ln), j < k → c.ls[j]? = some y → y.v = true) (hx : x.v = false) : vic c = k := by
 have : c.ls.findIdx? (fun x => !x.v) = some k := by
  rw [List.findIdx?_eq_some_iff_getElem]
  obtain ⟨hlt, he⟩ := List.getElem?_eq_some_iff.1 e
  refine ⟨hlt, by rw [he, hx]; rfl, fun j hj => ?_⟩
  rw [h j c.ls[j] hj (List.getElem?_eq_getElem (by omega))]
  decide
 unfold vic
 rw [this]
theorem vic_full {c : Ca} (h : ∀ (j : Nat) (y : Ln), j < c.ls.length → c.ls[j]? = some y → y.v = true) : vic c = vicFrom c.ls c.ls.length c.hand.toNat := by
 have : c.ls.findIdx? (fun x => !x.v) = none := by
  rw [List.findIdx?_eq_none_iff]
  intro x hx
  obtain ⟨j, hj, e⟩ := List.getElem_of_mem hx
  rw [h j x hj (by rw [List.getElem?_eq_getElem hj, e])]
  rfl
 unfold vic
 rw [this]
theorem vf_in {ls : List Ln} (hn : 0 < ls.length) : ∀ {k a : Nat}, a < ls.length → vicFrom ls k a < ls.length
  | 0, a, h => h
  | k + 1, a, h => by
    cases e : ls[a]? with
    | none => rw [vicFrom, e]; exact h
    | some x =>
      cases hw : x.w with
      | true => rw [vf_step e hw]; exact vf_in hn (Nat.mod_lt _ hn)
      | false => rw [vf_stop e hw]; exact h
theorem vic_in {c : Ca} (h : CV c) : vic c < c.ls.length := by
 unfold vic
 cases e : c.ls.findIdx? (fun x => !x.v) with
 | some i => exact (List.findIdx?_eq_some_iff_getElem.1 e).1
 | none =>
  obtain ⟨h1, h2⟩ := inR_iff.1 h.hand
  exact vf_in (by have := h.sz; omega) (by omega)
theorem CV.fill {c : Ca} (h : CV c) {x : Ln} (hx : lnok x = true) (hw : x.w = false) (hc : ∀ (i : Nat) (y : Ln), c.ls[i]? = some y → clash x y = false) : CV (filC c x) := by
 have hv := vic_in h
 have hn := h.sz
 refine ⟨by simpa [filC] using hn, ?_, fun i y hi => ?_, fun i j y z hij hi hj => ?_, ⟨vic c, x, by simp only [filC]; rw [List.getElem?_set, if_pos rfl, if_pos hv], hw⟩⟩
 ·simp only [filC, List.length_set]
  cases e : c.ls[vic c]? with
  | none => exact h.hand
  | some y =>
   simp only
   split
   ·exact inR_iff.2 ⟨Int.emod_nonneg _ (by omega), Int.emod_lt_of_pos _ (by omega)⟩
   ·exact h.hand
 ·simp only [filC] at hi
  rw [List.getElem?_set] at hi
  split at hi
  ·injection hi with hi
   rw [← hi]; exact hx
  ·exact h.ok i y hi
 ·simp only [filC] at hi hj
  rw [List.getElem?_set] at hi hj
  split at hi
  ·rename_i h1
   injection hi with hi
   rw [if_neg (by omega)] at hj
   rw [← hi]; exact hc j z hj
  ·split at hj
   ·injection hj with hj
    rw [← hj, clash_symm]; exact hc i y hi
   ·exact h.cl i j y z hij hi hj
end Go.Proofs.YtnaagdmaggdbmaaGreatDoor
namespace Go.Proofs.YtnaagdmaggdbmaaGreatDoor
open Go.RowKit
set_option maxRecDepth 1000000
def alw (r n : Int) : Bool := inR r 8 && inR n 8 && decide (r.toNat &&& n.toNat = n.toNat)
theorem bits_and {r n : Int} (h1 : inR r 8 = true) (h2 : inR n 8 = true) : bits BinOp.and IntKind.i64 r n = ((r.toNat &&& n.toNat : Nat) : Int) := by
 obtain ⟨a0, a1⟩ := inR_iff.1 h1
 obtain ⟨b0, b1⟩ := inR_iff.1 h2
 have hr : r = 0 ∨ r = 1 ∨ r = 2 ∨ r = 3 ∨ r = 4 ∨ r = 5 ∨ r = 6 ∨ r = 7 := by omega
 have hn : n = 0 ∨ n = 1 ∨ n = 2 ∨ n = 3 ∨ n = 4 ∨ n = 5 ∨ n = 6 ∨ n = 7 := by omega
 rcases hr with rfl | rfl | rfl | rfl | rfl | rfl | rfl | rfl <;> rcases hn with rfl | rfl | rfl | rfl | rfl | rfl | rfl | rfl <;> rfl
theorem sAllows_any (r n : Int) (w : World) : Calls Tryz.prog 146 #[.int .i64 r, .int .i64 n] w fun e w' => e = .returned (.bool (alw r n)) ∧ w = w' := by
 cases h1 : inR r 8 with
 | false =>
  have H : Hid (alw r n = false) := by show _ = _; unfold alw; rw [h1]; rfl
  go_enter Tryz.func146, Tryz.ntmps146
  go_wp2_with fail
  refine (sRightsValid_any _ _).mono ?_
  rintro e w' ⟨rfl, rfl⟩
  rw [h1]
  go_wp2
  go_ret
  exact ⟨by rw [H.out]; rfl, rfl⟩
 | true =>
  cases h2 : inR n 8 with
  | false =>
   have H : Hid (alw r n = false) := by show _ = _; unfold alw; rw [h2, Bool.and_false]; rfl
   go_enter Tryz.func146, Tryz.ntmps146
   go_wp2_with fail
   refine (sRightsValid_any _ _).mono ?_
   rintro e w' ⟨rfl, rfl⟩
   rw [h1]
   go_wp2_with fail
   refine (sRightsValid_any _ _).mono ?_
   rintro e w' ⟨rfl, rfl⟩
   rw [h2]
   go_wp2
   go_ret
   exact ⟨by rw [H.out]; rfl, rfl⟩
  | true =>
   have H : Hid (alw r n = decide (r.toNat &&& n.toNat = n.toNat)) := by show _ = _; unfold alw; rw [h1, h2]; rfl
   go_enter Tryz.func146, Tryz.ntmps146
   go_wp2_with fail
   refine (sRightsValid_any _ _).mono ?_
   rintro e w' ⟨rfl, rfl⟩
   rw [h1]
   go_wp2_with fail
   refine (sRightsValid_any _ _).mono ?_
   rintro e w' ⟨rfl, rfl⟩
   rw [h2]
   have HBT := Lib.hid (bits_and h1 h2)
   go_wp2
   go_ret
   refine ⟨?_, rfl⟩
   rw [H.out]
   show Ending.returned (.bool (bits BinOp.and IntKind.i64 r n == n)) = _
   rw [HBT.out]
   congr 2
   obtain ⟨a0, a1⟩ := inR_iff.1 h2
   rw [Bool.eq_iff_iff, beq_iff_eq, decide_eq_true_eq]
   constructor
   ·intro h; omega
   ·intro h; omega
set_option maxHeartbeats 2000000 in
theorem l4Victim_any (vl : Value) (c : Ca) (w : World) (hT : SlR lnE w vl c.ls) (hv : cav c = true) :
  Calls Tryz.prog 212 #[.agg #[vl, .int .i64 c.hand]] w fun r w' => r = .returned (.int .i64 (vic c)) ∧ Below w.heap.size w w' := by
 have hcv := cav_CV.1 hv
 obtain ⟨A, cc, rfl, hbc, hbm, hL⟩ := hT
 have hfm2 : c.ls.length ≤ 8 := hcv.sz.2
 have HL := Lib.hid hL
 have hbx := Own.new_ w 29 #[.slice A c.ls.length cc, .int .i64 c.hand]
 have hbz : Below w.heap.size w (w.alloc (.cells #[.slice A c.ls.length cc, .int .i64 c.hand] 29)) := bA bR
 generalize hW : w.alloc (.cells #[.slice A c.ls.length cc, .int .i64 c.hand] 29) = W0 at hbx hbz
 have q0 := hbx.cell_ 0 (v := .slice A c.ls.length cc) rfl
 have q1 := hbx.cell_ 1 (v := .int .i64 c.hand) rfl
 have HBX := Lib.hid hbx
 clear hL hbx
 clear q0 q1
 go_enter Tryz.func212, Tryz.ntmps212
 go_wp2
 go_loopw [3] (fun u wr => ∃ k : Nat, k ≤ c.ls.length ∧ u = .int .i64 k ∧ Hid (∀ (j : Nat) (q : Ln), j < k → c.ls[j]? = some q → q.v = true) ∧ Own wr w.heap.size 29 #[.slice A c.ls.length cc, .int .i64 c.hand] ∧ Below w.heap.size w wr) (fun u _ => c.ls.length - (intOf u).toNat)
 case atStart => exact ⟨0, by omega, rfl, (fun j q h => absurd h (by omega)), HBX.out, hbz⟩
 case round =>
  obtain ⟨k, hk, rfl, hacc, hbox, hbi⟩ := hrel
  have q0 := hbox.cell_ 0 (v := .slice A c.ls.length cc) rfl
  have q1 := hbox.cell_ 1 (v := .int .i64 c.hand) rfl
  by_cases hlt : k < c.ls.length
  ·obtain ⟨o, eo⟩ : ∃ o, c.ls[k]? = some o := ⟨_, List.getElem?_eq_getElem hlt⟩
   obtain ⟨b, ob, rfl, hbb, d0, d1, d2, d3, d4, d5⟩ := (HL.out.below hbi).ln eo
   have HBOX := Lib.hid hbox
   have EO := Lib.hid eo
   clear hbox eo d1 d2 d3 d4 d5
   cases ht : o.v with
   | false =>
    rw [ht] at d0
    have H := Lib.hid (vic_free EO.out hacc.out ht)
    go_wp2
    go_ret
    exact ⟨by rw [H.out]; rfl, hbi⟩
   | true =>
    rw [ht] at d0
    have HACC : Hid (∀ (j : Nat) (q : Ln), j < k + 1 → c.ls[j]? = some q → q.v = true) := by
     intro j q hj e
     rcases Nat.lt_or_ge j k with h | h
     ·exact hacc.out j q h e
     ·obtain rfl : j = k := by omega
      have := EO.out
      rw [e] at this
      injection this with this
      rw [this]; exact ht
    go_wp2
    go_roundw
    case rel => exact ⟨k + 1, by omega, by go_num, HACC, HBOX.out, hbi⟩
    case measure => simp [intOf]; omega
  ·obtain rfl : k = c.ls.length := by omega
   have HVI := Lib.hid (vic_full hacc.out)
   have HBOX := Lib.hid hbox
   have HBI := Lib.hid hbi
   have HCV := Lib.hid hcv
   clear hacc
   have hwr := hbi
   obtain ⟨w6, rfl⟩ : ∃ w6, w6 = wr := ⟨_, rfl⟩
   obtain ⟨hh0, hh1⟩ := inR_iff.1 hcv.hand
   have hhn : (c.hand.toNat : Int) = c.hand := Int.toNat_of_nonneg hh0
   go_wp2
   clear q0 q1 hbox hbi
   go_loopg [4] (c.ls.length + 1) (fun g u wi => ∃ (j a : Nat), g = c.ls.length + 1 - j ∧ u = .int .i64 a ∧ Hid (VSt c j a) ∧ Own wi w.heap.size 29 #[.slice A c.ls.length cc, .int .i64 c.hand] ∧ Below w.heap.size w wi)
   case atStart => exact ⟨0, c.hand.toNat, by simp, by rw [hhn], vst_zero HCV.out, HBOX.out, HBI.out⟩
   case round =>
    obtain ⟨j, a, rfl, rfl, hst, hbox, hbi⟩ := hrel
    have hj := vst_lt HCV.out hst.out
    have ha := vst_in HCV.out hst.out
    obtain ⟨x, ex⟩ : ∃ x, c.ls[a]? = some x := ⟨_, List.getElem?_eq_getElem ha⟩
    obtain ⟨b, ob, rfl, hbb, d0, d1, d2, d3, d4, d5⟩ := (HL.out.below hbi).ln ex
    have q0 := hbox.cell_ 0 (v := .slice (some ⟨b, ob, none⟩) c.ls.length cc) rfl
    have HBOXI := Lib.hid hbox
    have EX := Lib.hid ex
    clear hbox d0 d1 d2 d3 d4 ex hwr
    cases hw : x.w with
    | false =>
     rw [hw] at d5
     have H : Hid (vic c = a) := by show _ = _; rw [HVI.out]; exact vst_stop HCV.out hst.out EX.out hw
     go_wp2
     go_ret
     exact ⟨by rw [H.out]; rfl, hbi⟩
    | true =>
     rw [hw] at d5
     have HST := Lib.hid (vst_step HCV.out hst.out EX.out hw)
     clear hst
     go_wp2
     go_roundg (c.ls.length + 1 - (j + 1))
     case measure => omega
     case rel => exact ⟨j + 1, (a + 1) % c.ls.length, rfl, by simp, HST, HBOXI.out, hbi⟩
end Go.Proofs.YtnaagdmaggdbmaaGreatDoor
