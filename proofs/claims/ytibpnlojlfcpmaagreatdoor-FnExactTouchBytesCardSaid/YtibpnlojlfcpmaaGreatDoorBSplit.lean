/- A part of the proofs of this seat: Split. -/
import Derived.Test.YtibpnlojlfcpmaaGreatDoorBAddr
set_option linter.unusedVariables false
set_option linter.unusedSimpArgs false
set_option maxRecDepth 1000000
namespace Go.Proofs.YtibpnlojlfcpmaaGreatDoor
open Go.RowKit
def pval (s p o b : Int) : Bool := aval s p o && decide (1 ≤ b) && decide (b ≤ 16384 - p * 64 - o)
def pfst (s p o b : Int) : Int := if pval s p o b = true then p else 0
def plst (s p o b : Int) : Int := if pval s p o b = true then (p * 64 + o + b - 1) / 64 else 0
theorem pval_iff {s p o b : Int} : pval s p o b = true ↔ aval s p o = true ∧ 1 ≤ b ∧ b ≤ 16384 - p * 64 - o := by
 unfold pval
 rw [Bool.and_eq_true, Bool.and_eq_true, decide_eq_true_eq, decide_eq_true_eq, and_assoc]
set_option maxHeartbeats 1000000 in
theorem PagesOf_any (s p o b : Int) (w : World) : Calls Tryz.prog 189 #[.agg #[.int .i64 s, .int .i64 p, .int .i64 o], .int .i64 b] w
  fun r w' => r = .returned (.tuple #[.int .i64 (pfst s p o b), .int .i64 (plst s p o b), .bool (pval s p o b)]) ∧ Below w.heap.size w w' := by
 by_cases hv : pval s p o b = true
 ·obtain ⟨h1, h2, h3⟩ := pval_iff.1 hv
  obtain ⟨_, ⟨h6, h7⟩, h8, h9⟩ := aval_iff.1 h1
  have HV : Hid (pval s p o b = true) := hv
  have HF : Hid (pfst s p o b = p) := if_pos hv
  have HL : Hid (plst s p o b = (p * 64 + o + b - 1) / 64) := if_pos hv
  have k1 : IntKind.i64.wrap (p * 64) = p * 64 := IntWalk.i64_in _ (by omega)
  have k2 : IntKind.i64.wrap (p * 64 + o) = p * 64 + o := IntWalk.i64_in _ (by omega)
  have k3 : IntKind.i64.wrap (p * 64 + o + b) = p * 64 + o + b := IntWalk.i64_in _ (by omega)
  have k4 : IntKind.i64.wrap (p * 64 + o + b - 1) = p * 64 + o + b - 1 := IntWalk.i64_in _ (by omega)
  have k5 : IntKind.i64.wrap (16384 - p * 64) = 16384 - p * 64 := IntWalk.i64_in _ (by omega)
  have k6 : IntKind.i64.wrap (16384 - p * 64 - o) = 16384 - p * 64 - o := IntWalk.i64_in _ (by omega)
  have g1 : ¬ b < 1 := by omega
  have g2 : ¬ 16384 - p * 64 - o < b := by omega
  clear hv
  go_enter Tryz.func189, Tryz.ntmps189
  go_wp2_with fail
  refine (AddressValid_any _ _ _ _).mono ?_
  rintro e w1 ⟨rfl, hb1⟩
  obtain ⟨oa, hbw⟩ := one_box hb1
  have a0 := oa.cell_ 0 (v := .int .i64 s) rfl
  have a1 := oa.cell_ 1 (v := .int .i64 p) rfl
  have a2 := oa.cell_ 2 (v := .int .i64 o) rfl
  clear oa hb1
  rw [h1]
  go_wp2
  go_quiet (fail)
  go_wp2
  go_ret3
  exact ⟨by rw [HF.out, HL.out, HV.out]; rfl, bDN hbw⟩
 ·have hv := bool_ff hv
  have HV : Hid (pval s p o b = false) := hv
  have HF : Hid (pfst s p o b = 0) := by show _ = _; unfold pfst; rw [hv]; rfl
  have HL : Hid (plst s p o b = 0) := by show _ = _; unfold plst; rw [hv]; rfl
  by_cases h1 : aval s p o = true
  ·obtain ⟨_, ⟨h6, h7⟩, h8, h9⟩ := aval_iff.1 h1
   by_cases g1 : b < 1
   ·clear hv
    go_enter Tryz.func189, Tryz.ntmps189
    go_wp2_with fail
    refine (AddressValid_any _ _ _ _).mono ?_
    rintro e w1 ⟨rfl, hb1⟩
    obtain ⟨oa, hbw⟩ := one_box hb1
    clear oa hb1
    rw [h1]
    go_wp2
    go_ret3
    exact ⟨by rw [HF.out, HL.out, HV.out]; rfl, hbw⟩
   ·have g2 : 16384 - p * 64 - o < b := by
     rcases Int.lt_or_le (16384 - p * 64 - o) b with h | h
     ·exact h
     ·rw [pval_iff.2 ⟨h1, by omega, h⟩] at hv; cases hv
    have k1 : IntKind.i64.wrap (p * 64) = p * 64 := IntWalk.i64_in _ (by omega)
    have k5 : IntKind.i64.wrap (16384 - p * 64) = 16384 - p * 64 := IntWalk.i64_in _ (by omega)
    have k6 : IntKind.i64.wrap (16384 - p * 64 - o) = 16384 - p * 64 - o := IntWalk.i64_in _ (by omega)
    clear hv
    go_enter Tryz.func189, Tryz.ntmps189
    go_wp2_with fail
    refine (AddressValid_any _ _ _ _).mono ?_
    rintro e w1 ⟨rfl, hb1⟩
    obtain ⟨oa, hbw⟩ := one_box hb1
    have a1 := oa.cell_ 1 (v := .int .i64 p) rfl
    have a2 := oa.cell_ 2 (v := .int .i64 o) rfl
    clear oa hb1
    rw [h1]
    go_wp2
    go_ret3
    exact ⟨by rw [HF.out, HL.out, HV.out]; rfl, hbw⟩
  ·have h1 := bool_ff h1
   clear hv
   go_enter Tryz.func189, Tryz.ntmps189
   go_wp2_with fail
   refine (AddressValid_any _ _ _ _).mono ?_
   rintro e w1 ⟨rfl, hb1⟩
   obtain ⟨oa, hbw⟩ := one_box hb1
   clear oa hb1
   rw [h1]
   go_wp2
   go_ret3
   exact ⟨by rw [HF.out, HL.out, HV.out]; rfl, hbw⟩
set_option maxHeartbeats 1000000 in
theorem sPagesOf_any (s p o b : Int) (w : World) : Calls Tryz.prog 187 #[.agg #[.int .i64 s, .int .i64 p, .int .i64 o], .int .i64 b] w
  fun r w' => r = .returned (.tuple #[.int .i64 (pfst s p o b), .int .i64 (plst s p o b), .bool (pval s p o b)]) ∧ Below w.heap.size w w' := by
 by_cases g1 : b < 1
 ·have hv : pval s p o b = false := bool_ff fun h => by have := pval_iff.1 h; omega
  have HV : Hid (pval s p o b = false) := hv
  have HF : Hid (pfst s p o b = 0) := by show _ = _; unfold pfst; rw [hv]; rfl
  have HL : Hid (plst s p o b = 0) := by show _ = _; unfold plst; rw [hv]; rfl
  clear hv
  go_enter Tryz.func187, Tryz.ntmps187
  go_wp2
  go_ret3
  exact ⟨by rw [HF.out, HL.out, HV.out]; rfl, by repeat first | exact bR | refine bA ?_⟩
 ·by_cases g2 : 16384 < b
  ·have hv : pval s p o b = false := bool_ff fun h => by
    have h' := pval_iff.1 h
    have := aval_iff.1 h'.1
    omega
   have HV : Hid (pval s p o b = false) := hv
   have HF : Hid (pfst s p o b = 0) := by show _ = _; unfold pfst; rw [hv]; rfl
   have HL : Hid (plst s p o b = 0) := by show _ = _; unfold plst; rw [hv]; rfl
   clear hv
   go_enter Tryz.func187, Tryz.ntmps187
   go_wp2
   go_ret3
   exact ⟨by rw [HF.out, HL.out, HV.out]; rfl, by repeat first | exact bR | refine bA ?_⟩
  ·have k1 : IntKind.i64.wrap (b - 1) = b - 1 := IntWalk.i64_in _ (by omega)
   have K := sMoveAddress_any s p o (b - 1)
   have HVM : Hid (mvv s p o (b - 1) = pval s p o b) := by
    show _ = _
    rw [Bool.eq_iff_iff, mvv_iff, pval_iff]
    constructor
    ·rintro ⟨h1, h2, h3⟩
     exact ⟨h1, by omega, by omega⟩
    ·rintro ⟨h1, h2, h3⟩
     have := aval_iff.1 h1
     exact ⟨h1, by omega, by omega⟩
   by_cases hv : pval s p o b = true
   ·have HV : Hid (pval s p o b = true) := hv
    have HF : Hid (pfst s p o b = p) := if_pos hv
    have HL : Hid (plst s p o b = (p * 64 + o + b - 1) / 64) := if_pos hv
    have hA : mvA s p o (b - 1) = #[.int .i64 s, .int .i64 ((p * 64 + o + b - 1) / 64), .int .i64 ((p * 64 + o + b - 1) % 64)] := by
     unfold mvA
     rw [if_pos (HVM.out.trans hv), show p * 64 + o + (b - 1) = p * 64 + o + b - 1 by omega]
    rw [hA, HVM.out, hv] at K
    have HK := Hd K
    clear K hA hv
    go_enter Tryz.func187, Tryz.ntmps187
    go_wp2_with fail
    refine (HK.out _).mono ?_
    rintro e w1 ⟨rfl, hb1⟩
    obtain ⟨oa, hbw⟩ := one_box hb1
    have a1 := oa.cell_ 1 (v := .int .i64 p) rfl
    have hal := oa.lt
    clear oa hb1
    go_wp2
    go_quiet (fail)
    go_wp2
    go_ret3
    exact ⟨by rw [HF.out, HL.out, HV.out]; rfl, bDN (bA hbw)⟩
   ·have hv := bool_ff hv
    have HV : Hid (pval s p o b = false) := hv
    have HF : Hid (pfst s p o b = 0) := by show _ = _; unfold pfst; rw [hv]; rfl
    have HL : Hid (plst s p o b = 0) := by show _ = _; unfold plst; rw [hv]; rfl
    have hA : mvA s p o (b - 1) = #[.int .i64 0, .int .i64 0, .int .i64 0] := by
     unfold mvA
     rw [HVM.out.trans hv]
     rfl
    rw [hA, HVM.out, hv] at K
    have HK := Hd K
    clear K hA hv
    go_enter Tryz.func187, Tryz.ntmps187
    go_wp2_with fail
    refine (HK.out _).mono ?_
    rintro e w1 ⟨rfl, hb1⟩
    obtain ⟨oa, hbw⟩ := one_box hb1
    clear oa hb1
    go_wp2
    go_ret3
    exact ⟨by rw [HF.out, HL.out, HV.out]; rfl, bA hbw⟩
def pieceE : Enc (Int × Int × Int) where
 sz := 3
 cs := fun a => [.int .i64 a.1, .int .i64 a.2.1, .int .i64 a.2.2]
 len := fun _ => rfl
 one := fun a u hu => by
  simp at hu
  rcases hu with rfl | rfl | rfl <;> rfl
 pos := by decide
theorem piece_info : (Tryz.prog.info? 153).map (fun i => (i.zero, i.size, i.bytes)) = some (some (.agg #[.int .i64 0, .int .i64 0, .int .i64 0]), 3, 24) := by kernel_rfl
theorem run_append_piece (base : Nat) (W : World) (v : Value) (n : Nat) (l : List (Int × Int × Int)) (x y z : Int) (hown : W.ownsRow base 153 3 v n (pieceE.cells l)) (hn : l.length = n) (hs : n ≤ 1048576) (hb : base ≤ W.heap.size) :
  ∃ v' w', (Builtin.append_ #[146, 146] 146 #[v, .slice (some ⟨W.heap.size, 0, none⟩) 1 1]).run Tryz.prog (W.alloc (.cells #[.int .i64 x, .int .i64 y, .int .i64 z] 153)) = .ok v' w' ∧
   w'.ownsRow base 153 3 v' (n + 1) (pieceE.cells (l ++ [(x, y, z)])) ∧ (W.alloc (.cells #[.int .i64 x, .int .i64 y, .int .i64 z] 153)).grownBy w' v.ownBlock ∧ (v'.ownBlock = v.ownBlock ∨ v'.ownBlock = some (W.heap.size + 1)) := by
 obtain ⟨i0, hi0, hz0, hz1, hz2⟩ := info_parts piece_info
 exact run_append_el pieceE 146 153 i0 _ 24 Tryz.underlying146 hi0 hz0 hz1 hz2 rfl (by omega) base W v n l (x, y, z) hown hn hs hb
def pcur (p o : Int) (i : Nat) : Int := if i = 0 then p * 64 + o else (p + i) * 64
def pc (p o b : Int) (i : Nat) : Int × Int × Int := (p + i, pcur p o i - (p + i) * 64, min (p * 64 + o + b) ((p + i + 1) * 64) - pcur p o i)
def pcn (p o b : Int) : Nat := ((p * 64 + o + b - 1) / 64 - p + 1).toNat
def pcs (p o b : Int) : List (Int × Int × Int) := (List.range (pcn p o b)).map (pc p o b)
def pcv (s p o b : Int) : List (Int × Int × Int) := if pval s p o b = true then pcs p o b else []
theorem pcs_length (p o b : Int) : (pcs p o b).length = pcn p o b := by simp [pcs]
theorem pcs_get (p o b : Int) (i : Nat) (h : i < pcn p o b) : (pcs p o b)[i]? = some (pc p o b i) := by simp [pcs, h]
theorem pcs_take (p o b : Int) (i : Nat) (h : i < pcn p o b) : (pcs p o b).take (i + 1) = (pcs p o b).take i ++ [pc p o b i] := by
 rw [List.take_add_one, pcs_get p o b i h]; rfl
theorem pcn_le {s p o b : Int} (h : pval s p o b = true) : pcn p o b ≤ 256 ∧ 1 ≤ pcn p o b ∧ ((p * 64 + o + b - 1) / 64 = p + (pcn p o b : Int) - 1) := by
 obtain ⟨h1, h2, h3⟩ := pval_iff.1 h
 obtain ⟨_, ⟨h6, h7⟩, h8, h9⟩ := aval_iff.1 h1
 unfold pcn
 omega
theorem clipPiece_any (A : Option Addr) (n c : Nat) (w : World) (hn : n ≤ c) : Calls Tryz.prog 190 #[.slice A n c] w fun r w' => r = .returned (.slice A n n) ∧ w = w' := by
 obtain ⟨i0, hi0, _⟩ := info_parts piece_info
 have hs := fun W => slice_max (P := Tryz.prog) W 146 153 i0 A n c Tryz.underlying146 hi0 hn
 go_enter Tryz.func190, Tryz.ntmps190
 go_wp2
 go_ret
 exact ⟨rfl, rfl⟩
structure PSt (p o b : Int) (i : Nat) (L O : Int) : Prop where
 o_ : O = pcur p o i - (p + i) * 64
 o0 : 0 ≤ O
 o1 : O < 64
 l_ : i < pcn p o b → L = p * 64 + o + b - pcur p o i ∧ 1 ≤ L
theorem pst_zero {s p o b : Int} (h : pval s p o b = true) : PSt p o b 0 b o := by
 obtain ⟨h1, h2, h3⟩ := pval_iff.1 h
 obtain ⟨_, ⟨h6, h7⟩, h8, h9⟩ := aval_iff.1 h1
 refine ⟨?_, h8, h9, fun _ => ⟨?_, h2⟩⟩ <;> simp [pcur] <;> omega
theorem pst_succ {s p o b : Int} {i : Nat} {L O L' : Int} (h : pval s p o b = true) (hp : PSt p o b i L O) (hi : i < pcn p o b) (hL : L' = L - min L (64 - O)) : PSt p o b (i + 1) L' 0 ∧ pc p o b i = (p + i, O, min L (64 - O)) := by
 obtain ⟨h1, h2, h3⟩ := pval_iff.1 h
 obtain ⟨_, ⟨h6, h7⟩, h8, h9⟩ := aval_iff.1 h1
 obtain ⟨q1, q2, q3⟩ := pcn_le h
 obtain ⟨p1, p2⟩ := hp.l_ hi
 have p0 := hp.o_
 have e : pcur p o (i + 1) = (p + (i + 1 : Nat)) * 64 := by simp [pcur]
 refine ⟨⟨by rw [e]; omega, by omega, by omega, fun hi' => ?_⟩, ?_⟩
 ·rw [e]; omega
 ·unfold pc
  rw [p0]
  congr 2
  omega
set_option maxRecDepth 100000 in
set_option maxHeartbeats 1000000 in
theorem SplitBytes_mine (s p o b : Int) (w : World) : Calls Tryz.prog 121 #[.agg #[.int .i64 s, .int .i64 p, .int .i64 o], .int .i64 b] w
  fun r w' => ∃ A c, r = .returned (.tuple #[.slice A (pcv s p o b).length c, .bool (pval s p o b)]) ∧ (pcv s p o b).length ≤ c ∧ MineE pieceE 153 w.heap.size w' A (pcv s p o b) ∧ Below w.heap.size w w' := by
 have K := PagesOf_any s p o b
 by_cases hv : pval s p o b = true
 ·obtain ⟨q1, q2, q3⟩ := pcn_le hv
  have e1 : pfst s p o b = p := if_pos hv
  have e2 : plst s p o b = (p * 64 + o + b - 1) / 64 := if_pos hv
  have HV : Hid (pcv s p o b = pcs p o b) := if_pos hv
  have HP := Hd hv
  have HZ := Hd (pst_zero hv)
  obtain ⟨_, ⟨h6, h7⟩, h8, h9⟩ := aval_iff.1 (pval_iff.1 hv).1
  have hb1' := (pval_iff.1 hv).2.1
  have hb2' := (pval_iff.1 hv).2.2
  rw [e1, e2, hv] at K
  generalize (p * 64 + o + b - 1) / 64 = q at K q3
  subst q3
  have HK := Hd K
  have HN : Hid (∀ i, i < pcn p o b → (pcs p o b).take (i + 1) = (pcs p o b).take i ++ [pc p o b i]) := fun i hi => pcs_take p o b i hi
  have HL : Hid ((pcs p o b).length = pcn p o b) := pcs_length p o b
  generalize hN : pcn p o b = N at *
  clear K e1 e2 hv
  go_enter Tryz.func121, Tryz.ntmps121
  go_wp2_with fail
  refine (HK.out _).mono ?_
  rintro e w1 ⟨rfl, hb1⟩
  obtain ⟨oa, hbw⟩ := one_box hb1
  have a0 := oa.cell_ 0 (v := .int .i64 s) rfl
  have a1 := oa.cell_ 1 (v := .int .i64 p) rfl
  have a2 := oa.cell_ 2 (v := .int .i64 o) rfl
  clear oa hb1
  go_wp2
  go_loopw [1, 9, 10, 11] (fun Lv v Ov u wr => ∃ (i : Nat) (L O : Int), i ≤ N ∧ u = .int .i64 (p + i) ∧ Lv = .int .i64 L ∧ Ov = .int .i64 O ∧ Hid (PSt p o b i L O) ∧ wr.ownsRow w.heap.size 153 3 v i (pieceE.cells ((pcs p o b).take i)) ∧ Below w.heap.size w wr) (fun _ _ _ u _ => (p + N - intOf u).toNat)
  case atStart => exact ⟨0, _, _, by omega, by simp, rfl, rfl, HZ.out, World.ownsRow_nil _ _ _ _, hbw⟩
  case round =>
   obtain ⟨i, L, O, hi, rfl, rfl, rfl, hst, hown, hb⟩ := hrel
   have hO := hst.out.o0
   have hO2 := hst.out.o1
   have k1 : IntKind.i64.wrap (64 - O) = 64 - O := IntWalk.i64_in _ (by omega)
   by_cases hlt : i < N
   ·obtain ⟨hL1, hL2⟩ := hst.out.l_ (by rw [hN]; exact hlt)
    have hL3 : L ≤ 20000 := by unfold pcur at hL1; split at hL1 <;> omega
    clear hL1
    have g1 : p + (i : Int) ≤ p + (N : Int) - 1 := by omega
    have k2 : IntKind.i64.wrap (p + (i : Int) + 1) = p + (i : Int) + 1 := IntWalk.i64_in _ (by omega)
    have HOWN := Hd hown
    clear hown
    by_cases hle : L ≤ 64 - O
    ·have hmin : min L (64 - O) = L := by omega
     obtain ⟨hst', hpc⟩ := pst_succ (L' := 0) HP.out hst.out (by rw [hN]; exact hlt) (by omega)
     have htk := HN.out i hlt
     rw [hpc, hmin] at htk
     obtain ⟨v4, w4, hrun, hown4, hg4, _⟩ := run_append_piece w.heap.size wr _ i _ (p + i) O (L) HOWN.out (by rw [List.length_take, HL.out]; omega) (by omega) hb.size
     have hb4 := bG (bA hb (o := .cells #[.int .i64 (p + i), .int .i64 O, .int .i64 (L)] 153)) hg4 (own_block HOWN.out)
     rw [← htk] at hown4
     have HOW4 := Hd hown4
     have HST := Hd hst'
     clear hown4 hg4 htk hpc hst' hmin
     go_wp2_with (at_builtin; refine wpList_append_run _ rfl (.tmp 34) (.tmp 39) 146 rfl _ _ _ _ rfl rfl hrun ?_)
     go_roundw
     case rel => exact ⟨i + 1, _, 0, by omega, by go_num, rfl, rfl, HST.out, HOW4.out, hb4⟩
     case measure => simp [intOf]; omega
    ·have hmin : min L (64 - O) = 64 - O := by omega
     have hlt2 : 64 - O < L := by omega
     clear hle
     obtain ⟨hst', hpc⟩ := pst_succ (L' := (L - (64 - O))) HP.out hst.out (by rw [hN]; exact hlt) (by omega)
     have htk := HN.out i hlt
     rw [hpc, hmin] at htk
     obtain ⟨v4, w4, hrun, hown4, hg4, _⟩ := run_append_piece w.heap.size wr _ i _ (p + i) O (64 - O) HOWN.out (by rw [List.length_take, HL.out]; omega) (by omega) hb.size
     have hb4 := bG (bA hb (o := .cells #[.int .i64 (p + i), .int .i64 O, .int .i64 (64 - O)] 153)) hg4 (own_block HOWN.out)
     rw [← htk] at hown4
     have HOW4 := Hd hown4
     have HST := Hd hst'
     clear hown4 hg4 htk hpc hst' hmin
     go_wp2_with (at_builtin; refine wpList_append_run _ rfl (.tmp 34) (.tmp 39) 146 rfl _ _ _ _ rfl rfl hrun ?_)
     go_roundw
     case rel => exact ⟨i + 1, _, 0, by omega, by go_num, rfl, rfl, HST.out, HOW4.out, hb4⟩
     case measure => simp [intOf]; omega
   ·obtain rfl : i = N := by omega
    have g1 : ¬ p + (i : Int) ≤ p + (i : Int) - 1 := by omega
    rw [List.take_of_length_le (by rw [HL.out]; omega)] at hown
    obtain ⟨A, c, rfl, hlc, hcm, hmine⟩ := mine_own HL.out.symm hown
    have hcl := fun W => clipPiece_any A (pcs p o b).length c W hlc
    rw [HL.out] at hcl hlc
    clear hown
    simp only [HL.out]
    go_wp2_with fail
    refine (hcl _).mono ?_
    rintro e w2 ⟨rfl, rfl⟩
    go_wp2
    go_ret2
    rw [HV.out, HP.out]
    exact ⟨A, i, by rw [HL.out]; rfl, by rw [HL.out]; exact Nat.le_refl _, hmine, hb⟩
 ·have hv := bool_ff hv
  have HV : Hid (pcv s p o b = []) := by show _ = _; unfold pcv; rw [hv]; rfl
  have HP := Hd hv
  rw [hv] at K
  have HK := Hd K
  clear K hv
  go_enter Tryz.func121, Tryz.ntmps121
  go_wp2_with fail
  refine (HK.out _).mono ?_
  rintro e w1 ⟨rfl, hb1⟩
  obtain ⟨oa, hbw⟩ := one_box hb1
  clear oa hb1
  go_wp2
  go_ret2
  rw [HV.out, HP.out]
  exact ⟨none, 0, rfl, Nat.le_refl _, MineE.nil_ _, hbw⟩
set_option maxRecDepth 100000 in
set_option maxHeartbeats 1000000 in
theorem sSplitBytes_any (s p o b : Int) (w : World) : Calls Tryz.prog 118 #[.agg #[.int .i64 s, .int .i64 p, .int .i64 o], .int .i64 b] w
  fun r w' => ∃ A c, r = .returned (.tuple #[.slice A (pcv s p o b).length c, .bool (pval s p o b)]) ∧ (pcv s p o b).length ≤ c ∧ Rs pieceE w'.heap.size w' A (pcv s p o b) ∧ Below w.heap.size w w' := by
 have K := sPagesOf_any s p o b
 by_cases hv : pval s p o b = true
 ·obtain ⟨q1, q2, q3⟩ := pcn_le hv
  have e1 : pfst s p o b = p := if_pos hv
  have e2 : plst s p o b = (p * 64 + o + b - 1) / 64 := if_pos hv
  have HV : Hid (pcv s p o b = pcs p o b) := if_pos hv
  have HP := Hd hv
  have HZ := Hd (pst_zero hv)
  obtain ⟨_, ⟨h6, h7⟩, h8, h9⟩ := aval_iff.1 (pval_iff.1 hv).1
  have hb1' := (pval_iff.1 hv).2.1
  have hb2' := (pval_iff.1 hv).2.2
  rw [e1, e2, hv] at K
  generalize (p * 64 + o + b - 1) / 64 = q at K q3
  subst q3
  have HK := Hd K
  have HN : Hid (∀ i, i < pcn p o b → (pcs p o b).take (i + 1) = (pcs p o b).take i ++ [pc p o b i]) := fun i hi => pcs_take p o b i hi
  have HL : Hid ((pcs p o b).length = pcn p o b) := pcs_length p o b
  generalize hN : pcn p o b = N at *
  clear K e1 e2 hv
  go_enter Tryz.func118, Tryz.ntmps118
  go_wp2_with fail
  refine (HK.out _).mono ?_
  rintro e w1 ⟨rfl, hb1⟩
  have hO1 : w1.ownsRow w.heap.size 153 3 (.slice (some ⟨w.heap.size + 1, 0, none⟩) 0 0) 0 (pieceE.cells ((pcs p o b).take 0)) := by
   have h := World.ownsRow_made (base := w.heap.size) (e := 153) (size := 3) (w.alloc (.cells #[.int .i64 s, .int .i64 p, .int .i64 o] 150)) #[] 0 (by simp) (by simp [maxLen]) rfl
   have h2 := own_kept h hb1
   simpa [Enc.cells] using h2
  obtain ⟨oa, oo, hbw⟩ := two_box hb1
  have a0 := oa.cell_ 0 (v := .int .i64 s) rfl
  have a1 := oa.cell_ 1 (v := .int .i64 p) rfl
  have a2 := oa.cell_ 2 (v := .int .i64 o) rfl
  have HO1 := Hd hO1
  clear oa oo hb1 hO1
  go_wp2
  go_loopw [1, 6, 10, 11] (fun Lv v Ov u wr => ∃ (i : Nat) (L O : Int), i ≤ N ∧ u = .int .i64 (p + i) ∧ Lv = .int .i64 L ∧ Ov = .int .i64 O ∧ Hid (PSt p o b i L O) ∧ wr.ownsRow w.heap.size 153 3 v i (pieceE.cells ((pcs p o b).take i)) ∧ Below w.heap.size w wr) (fun _ _ _ u _ => (p + N - intOf u).toNat)
  case atStart => exact ⟨0, _, _, by omega, by simp, rfl, rfl, HZ.out, HO1.out, hbw⟩
  case round =>
   obtain ⟨i, L, O, hi, rfl, rfl, rfl, hst, hown, hb⟩ := hrel
   have hO := hst.out.o0
   have hO2 := hst.out.o1
   have k1 : IntKind.i64.wrap (64 - O) = 64 - O := IntWalk.i64_in _ (by omega)
   by_cases hlt : i < N
   ·obtain ⟨hL1, hL2⟩ := hst.out.l_ (by rw [hN]; exact hlt)
    have hL3 : L ≤ 20000 := by unfold pcur at hL1; split at hL1 <;> omega
    clear hL1
    have g1 : p + (i : Int) ≤ p + (N : Int) - 1 := by omega
    have k2 : IntKind.i64.wrap (p + (i : Int) + 1) = p + (i : Int) + 1 := IntWalk.i64_in _ (by omega)
    have HOWN := Hd hown
    clear hown
    by_cases hle : L < 64 - O
    ·have hmin : min L (64 - O) = L := by omega
     obtain ⟨hst', hpc⟩ := pst_succ (L' := 0) HP.out hst.out (by rw [hN]; exact hlt) (by omega)
     have htk := HN.out i hlt
     rw [hpc, hmin] at htk
     obtain ⟨v4, w4, hrun, hown4, hg4, _⟩ := run_append_piece w.heap.size wr _ i _ (p + i) O (L) HOWN.out (by rw [List.length_take, HL.out]; omega) (by omega) hb.size
     have hb4 := bG (bA hb (o := .cells #[.int .i64 (p + i), .int .i64 O, .int .i64 (L)] 153)) hg4 (own_block HOWN.out)
     rw [← htk] at hown4
     have HOW4 := Hd hown4
     have HST := Hd hst'
     clear hown4 hg4 htk hpc hst' hmin
     go_wp2_with (at_builtin; refine wpList_append_run _ rfl (.tmp 39) (.tmp 44) 146 rfl _ _ _ _ rfl rfl hrun ?_)
     go_roundw
     case rel => exact ⟨i + 1, _, 0, by omega, by go_num, rfl, rfl, HST.out, HOW4.out, hb4⟩
     case measure => simp [intOf]; omega
    ·have hmin : min L (64 - O) = 64 - O := by omega
     have hlt2 : ¬ L < 64 - O := by omega
     clear hle
     obtain ⟨hst', hpc⟩ := pst_succ (L' := (L - (64 - O))) HP.out hst.out (by rw [hN]; exact hlt) (by omega)
     have htk := HN.out i hlt
     rw [hpc, hmin] at htk
     obtain ⟨v4, w4, hrun, hown4, hg4, _⟩ := run_append_piece w.heap.size wr _ i _ (p + i) O (64 - O) HOWN.out (by rw [List.length_take, HL.out]; omega) (by omega) hb.size
     have hb4 := bG (bA hb (o := .cells #[.int .i64 (p + i), .int .i64 O, .int .i64 (64 - O)] 153)) hg4 (own_block HOWN.out)
     rw [← htk] at hown4
     have HOW4 := Hd hown4
     have HST := Hd hst'
     clear hown4 hg4 htk hpc hst' hmin
     go_wp2_with (at_builtin; refine wpList_append_run _ rfl (.tmp 39) (.tmp 44) 146 rfl _ _ _ _ rfl rfl hrun ?_)
     go_roundw
     case rel => exact ⟨i + 1, _, 0, by omega, by go_num, rfl, rfl, HST.out, HOW4.out, hb4⟩
     case measure => simp [intOf]; omega
   ·obtain rfl : i = N := by omega
    have g1 : ¬ p + (i : Int) ≤ p + (i : Int) - 1 := by omega
    rw [List.take_of_length_le (by rw [HL.out]; omega)] at hown
    obtain ⟨A, c, rfl, hlc, hcm, hmine⟩ := mine_own HL.out.symm hown
    clear hown
    go_wp2
    go_ret2
    rw [HV.out, HP.out]
    exact ⟨A, c, by rfl, hlc, hmine.is, hb⟩
 ·have hv := bool_ff hv
  have HV : Hid (pcv s p o b = []) := by show _ = _; unfold pcv; rw [hv]; rfl
  have HP := Hd hv
  rw [hv] at K
  have HK := Hd K
  clear K hv
  go_enter Tryz.func118, Tryz.ntmps118
  go_wp2_with fail
  refine (HK.out _).mono ?_
  rintro e w1 ⟨rfl, hb1⟩
  obtain ⟨oa, oo, hbw⟩ := two_box hb1
  clear oa oo hb1
  go_wp2
  go_ret2
  rw [HV.out, HP.out]
  exact ⟨_, 0, rfl, Nat.le_refl _, rs_nil _, hbw⟩
end Go.Proofs.YtibpnlojlfcpmaaGreatDoor
