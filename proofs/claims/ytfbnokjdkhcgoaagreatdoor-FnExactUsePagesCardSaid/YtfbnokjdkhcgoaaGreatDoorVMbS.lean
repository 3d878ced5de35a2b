/- A part of the proofs of this seat: MbS, MeC. -/
import Derived.Deep.CutRange
import Derived.Test.YtfbnokjdkhcgoaaGreatDoorVMeM
set_option linter.unusedVariables false
set_option linter.unusedSimpArgs false
set_option maxRecDepth 1000000
namespace Go.Proofs.YtfbnokjdkhcgoaaGreatDoor
open Go.RowKit
theorem szBoolS_any (A : Option Addr) (n c : Nat) (left : Int) (w : World) (hn : n ≤ 9223372036854775807) (h0 : 0 ≤ left) (h1 : left ≤ 1048576) :
  Calls Tryz.prog 61 #[.slice A n c, .int .i64 left] w fun r w' => r = .returned (.int .i64 (if left - (n : Int) < 0 then -1 else left - (n : Int))) ∧ w = w' := by
 by_cases h : left - (n : Int) < 0
 ·rw [if_pos h]
  go_enter Tryz.func61, Tryz.ntmps61
  go_wp2
  go_ret
  exact ⟨rfl, rfl⟩
 ·rw [if_neg h]
  go_enter Tryz.func61, Tryz.ntmps61
  go_wp2
  go_ret
  exact ⟨rfl, rfl⟩
theorem cloneBool_any (v : Value) (l : List _) (w : World) (h : SlR boE w v l) (hl : l.length ≤ 1048576) :
  Calls Tryz.prog 79 #[v] w (Post2 fun v' w' => SlM boE 4 w.heap.size w' v' l ∧ Below w.heap.size w w') := by
 obtain ⟨A, c, rfl, hlc, hcm, hR⟩ := h
 obtain ⟨i0, hi0, hz0, hz1, hz2⟩ := info_parts bo_info
 have hnil := eql_snil Tryz.underlying35
 cases A with
 | none =>
  have h0 : l = [] := by
   rcases Nat.eq_zero_or_pos l.length with h | h
   ·exact List.length_eq_zero_iff.1 h
   ·obtain ⟨b, o, e, _⟩ := hR.at_ h
    cases e
  subst h0
  go_enter Tryz.func79, Tryz.ntmps79
  go_wp2
  go_ret
  exact ⟨_, rfl, SlM.nil_ _, bR⟩
 | some ad =>
  have hO := owns_lit (base := w.heap.size) (e := 4) w boE.sz (Nat.le_refl _)
  have hR2 := hR.alloc (.cells #[] 4)
  obtain ⟨v', w', hrun, hown, hg, _⟩ := run_copy boE 35 35 4 i0 _ _ Tryz.underlying35 hi0 hz0 hz1 hz2 rfl (by omega) w.heap.size _ _ hO _ _ c l hR2 hl (by simp)
  have HM := Hd (slm_own rfl hown)
  have HB : Hid (Below w.heap.size w w') := bG (bA bR) hg (fun k hk => own_block hO k hk)
  clear hO hR2 hown hg
  go_enter Tryz.func79, Tryz.ntmps79
  go_wp2_with (at_builtin; refine wpList_append_run _ rfl (.tmp 5) (.tmp 6) 35 rfl _ _ _ _ rfl rfl hrun ?_)
  go_ret
  exact ⟨_, rfl, HM.out, HB.out⟩
theorem clipBool_any (A : Option Addr) (n c : Nat) (w : World) (hn : n ≤ c) : Calls Tryz.prog 78 #[.slice A n c] w fun r w' => r = .returned (.slice A n n) ∧ w = w' := by
 obtain ⟨i0, hi0, _⟩ := info_parts bo_info
 have hs := fun W => slice_max (P := Tryz.prog) W 35 4 i0 A n c Tryz.underlying35 hi0 hn
 go_enter Tryz.func78, Tryz.ntmps78
 go_wp2
 go_ret
 exact ⟨rfl, rfl⟩
theorem make_Bool (n : Nat) (hn : n ≤ 1048576) : ∃ cs : Array Value, cs.size = n * 1 ∧ ∀ w : World, (Instr.makeSlice 35 (.int .i64 (n : Int)) (.int .i64 (n : Int))).run Tryz.prog w = .ok (.slice (some ⟨w.heap.size, 0, none⟩) n n) (w.alloc (.cells cs 4)) := by
 refine ⟨madeCells #[.bool false] (n * 1), by simp [madeCells], fun w => ?_⟩
 obtain ⟨i0, hi0, hz0, hz1, hz2⟩ := info_parts bo_info
 have hb : (i0.bytes : Int) * ((n : Nat) : Int) ≤ 281474976710656 := by rw [hz2]; omega
 have hr := run_make (P := Tryz.prog) w 35 4 i0 _ Tryz.underlying35 hi0 hz0 .i64 .i64 n n (by omega) (by omega) hb (by omega)
 simp only [Int.toNat_natCast, hz1] at hr
 exact hr
set_option maxHeartbeats 1000000 in
theorem toBoolS_any (A : Option Addr) (c : Nat) (l : List (Bool)) (w : World) (h : Rs boE w.heap.size w A l) (hl : l.length ≤ 1048576) :
  Calls Tryz.prog 63 #[.slice A l.length c] w fun r w' => r = .returned (.slice (some ⟨w.heap.size, 0, none⟩) l.length l.length) ∧ EOwn boE 4 w' w.heap.size l ∧ Below w.heap.size w w' := by
 obtain ⟨C0, hC0, hmk⟩ := make_Bool l.length hl
 go_enter Tryz.func63, Tryz.ntmps63
 go_wp2
 go_loopw [4] (fun u wr => ∃ (k : Nat) (cs : Array Value), k ≤ l.length ∧ u = .int .i64 k ∧ cs.size = l.length * 1 ∧ Hid (∀ j, j < k * boE.sz → cs[j]? = (boE.cells l)[j]?) ∧ Own wr w.heap.size 4 cs ∧ Below w.heap.size w wr) (fun u _ => l.length - (intOf u).toNat)
 case atStart => exact ⟨0, _, by omega, rfl, hC0, (fun j hj => absurd hj (by omega)), Own.new_ _ _ _, bA bR⟩
 case round =>
  obtain ⟨k, cs, hk, rfl, hcs, hc, hown, hb⟩ := hrel
  by_cases hlt : k < l.length
  ·obtain ⟨a, ea⟩ : ∃ a, l[k]? = some a := ⟨_, List.getElem?_eq_getElem hlt⟩
   obtain ⟨b, o, rfl, hbb, d0⟩ := (h.below hb).b1 ea
   have EA := Hd ea
   have HOWN := Hd hown
   have HCS := Hd hcs
   clear ea hown hcs
   obtain ⟨w2, hb2, rfl⟩ : ∃ w2, Below wr.heap.size wr w2 ∧ w2 = wr := ⟨wr, bR, rfl⟩
   have hown := HOWN.out.below hb2
   obtain ⟨v0, hc0⟩ : ∃ v, w2.cell? ⟨w.heap.size, k, none⟩ = some v := ⟨_, (hown.cell _).trans (Array.getElem?_eq_getElem (by have := HCS.out; omega))⟩
   have hf0 := hown.free (k)
   have HFIN := Hd (hown.set_ (k) (.bool a))
   have HFILL := Hd (fill_at (E := boE) (l := l) (k := k) (a := a) (cs := cs) (cs' := (cs.setIfInBounds (k) (.bool a))) EA.out (by simp) (fun j u hu => by
     have hsz := HCS.out
     match j, hu with
      | 0, hu => simp [boE] at hu; subst hu; simp [boE, Array.getElem?_setIfInBounds]; omega
      | j + 1, hu => simp [boE] at hu)
    (fun i hi => by simp only [boE] at hi; simp only [Array.getElem?_setIfInBounds]; repeat rw [if_neg (by omega)]) hc.out)
   clear hown
   go_wp2
   go_roundw
   case rel => exact ⟨k + 1, _, by omega, by go_num, (by simp only [Array.size_setIfInBounds]; exact HCS.out), HFILL.out, HFIN.out, bS (bT hb hb2) (Nat.le_refl _)⟩
   case measure => simp [intOf]; omega
  ·obtain rfl : k = l.length := by omega
   go_wp2
   go_ret
   exact ⟨rfl, ⟨⟨_, hown, hcs, hc.out⟩⟩, hb⟩
set_option maxHeartbeats 1000000 in
theorem eqBoolS_same (A A' : Option Addr) (c c' : Nat) (l : List (Bool)) (w : World) (h : Rs boE w.heap.size w A l) (h' : Rs boE w.heap.size w A' l) (hl : l.length ≤ 9223372036854775807) :
  Calls Tryz.prog 65 #[.slice A l.length c, .slice A' l.length c'] w fun r w' => r = .returned (.bool true) ∧ Below w.heap.size w w' := by
 go_enter Tryz.func65, Tryz.ntmps65
 go_wp2
 go_loopw [5] (fun i wr => ∃ k : Nat, k ≤ l.length ∧ i = .int .i64 k ∧ Below w.heap.size w wr) (fun i _ => l.length - (intOf i).toNat)
 case atStart => exact ⟨0, by omega, rfl, bR⟩
 case round =>
  obtain ⟨k, hk, rfl, hb⟩ := hrel
  by_cases hlt : k < l.length
  ·obtain ⟨a, ea⟩ : ∃ a, l[k]? = some a := ⟨_, List.getElem?_eq_getElem hlt⟩
   obtain ⟨b, o, rfl, hbb, c0⟩ := (h.now (Nat.le_refl _) hb).b1 ea
   obtain ⟨b', o', rfl, hbb', d0⟩ := (h'.now (Nat.le_refl _) hb).b1 ea
   have qx := xne a
   clear ea
   go_wp2
   go_quiet (fail)
   go_wp2
   go_roundw
   case rel => exact ⟨k + 1, by omega, by go_num, bDN hb⟩
   case measure => simp [intOf]; omega
  ·go_wp2
   go_ret
   exact ⟨rfl, hb⟩
def bBool : Nat → Bool := (fun d => d == 0)
theorem mkBool0 (k0 : Int) (k : Nat) : mkE bBool 1 k0 (k) = .bool ((k0 + (k : Int)) % 3 == 0) := by
 unfold mkE
 rw [show (k) % 1 = 0 by omega]
 rw [if_pos (by decide), show k0 + ((k : Nat) : Int) = k0 + (k : Int) by omega]
set_option maxHeartbeats 2000000 in
theorem markBoolS_any (B : Nat) (A : Option Addr) (c n : Nat) (l : List (Bool)) (w : World) (k0 : Int) (h : MineE boE 4 B w A l) (hn : n = l.length) (hk0 : 0 ≤ k0) (hk1 : k0 ≤ 1073741824) (hl : n ≤ 1048576) :
  Calls Tryz.prog 67 #[.slice A n c, .int .i64 k0] w fun r w' => r = .returned (.int .i64 (k0 + (n : Int))) ∧ Mk (mkE bBool 1 k0) 1 4 w' A n ∧ w.grownBy w' (rowOf n A) ∧ (0 < n → ∃ g cs, A = some ⟨g, 0, none⟩ ∧ Own w g 4 cs) := by
 by_cases h0 : n = 0
 ·subst h0
  go_enter Tryz.func67, Tryz.ntmps67
  go_wp2
  go_loopw [1, 5] (fun m u wr => m = .int .i64 k0 ∧ u = .int .i64 0 ∧ w = wr) (fun _ _ _ => 0)
  case atStart => exact ⟨rfl, rfl, rfl⟩
  case round =>
   obtain ⟨rfl, rfl, rfl⟩ := hrel
   go_wp2
   go_ret
   exact ⟨by simp, ⟨fun h => absurd h (by omega)⟩, gRx _ _, fun h => absurd h (by omega)⟩
 ·obtain ⟨g, cs0, rfl, hbg, ho0, hs0⟩ := h.own (by omega)
  replace hs0 : n * 1 ≤ cs0.size := by rw [hn]; exact hs0
  rw [rowOf_some h0]
  clear h0 h hn
  go_enter Tryz.func67, Tryz.ntmps67
  go_wp2
  go_loopw [1, 5] (fun m u wr => ∃ (k : Nat) (cs : Array Value), k ≤ n ∧ u = .int .i64 k ∧ m = .int .i64 (k0 + (k : Int)) ∧ n * 1 ≤ cs.size ∧ Hid (∀ i, i < k * 1 → cs[i]? = some (mkE bBool 1 k0 i)) ∧ Own wr g 4 cs ∧ w.grownBy wr (some g)) (fun _ u _ => n - (intOf u).toNat)
  case atStart => exact ⟨0, _, by omega, rfl, by simp, hs0, (fun i hi => absurd hi (by omega)), ho0, gRx _ _⟩
  case round =>
   obtain ⟨k, cs, hk, rfl, rfl, hcs, hc, hown, hg⟩ := hrel
   by_cases hlt : k < n
   ·
    obtain ⟨v0, hc0⟩ : ∃ v, wr.cell? ⟨g, k, none⟩ = some v := ⟨_, (hown.cell _).trans (Array.getElem?_eq_getElem (by omega))⟩
    have hf0 := hown.free (k)
    have HFIN := Hd (hown.set_ (k) (.bool ((k0 + (k : Int)) % 3 == 0)))
    have HNEW := Hd (mark_at (cs := cs) (cs' := (cs.setIfInBounds (k) (.bool ((k0 + (k : Int)) % 3 == 0)))) (k := k) (sz := 1) (f := mkE bBool 1 k0) (fun d hd => by
      match d, hd with
      | 0, _ => rw [show k * 1 + 0 = k by omega, mkBool0]; simp [Array.getElem?_setIfInBounds]; omega
      | d + 1, hd => omega)
     (fun i hi => by simp only [Array.getElem?_setIfInBounds]; repeat rw [if_neg (by omega)]) hc.out)
    have HCS := Hd hcs
    clear hown hcs
    go_wp2
    go_roundw
    case rel => exact ⟨k + 1, _, by omega, by go_num, by go_num, by simp only [Array.size_setIfInBounds]; exact HCS.out, HNEW.out, HFIN.out, gSx (hg) _ _⟩
    case measure => simp [intOf]; omega
   ·obtain rfl : k = n := by omega
    go_wp2
    go_ret
    exact ⟨rfl, ⟨fun _ => ⟨g, cs, rfl, hown, hcs, hc.out⟩⟩, hg, fun _ => ⟨g, cs0, rfl, ho0⟩⟩
set_option maxHeartbeats 2000000 in
theorem heldBoolS_any (A : Option Addr) (n c : Nat) (w : World) (k0 : Int) (h : Mk (mkE bBool 1 k0) 1 4 w A n) (hk0 : 0 ≤ k0) (hk1 : k0 ≤ 1073741824) (hl : n ≤ 1048576) :
  Calls Tryz.prog 69 #[.slice A n c, .int .i64 k0] w fun r w' => r = .returned (.int .i64 (k0 + (n : Int))) ∧ Below w.heap.size w w' := by
 go_enter Tryz.func69, Tryz.ntmps69
 go_wp2
 go_loopw [1, 5] (fun m u wr => ∃ k : Nat, k ≤ n ∧ u = .int .i64 k ∧ m = .int .i64 (k0 + (k : Int)) ∧ Below w.heap.size w wr) (fun _ u _ => n - (intOf u).toNat)
 case atStart => exact ⟨0, by omega, rfl, by simp, bR⟩
 case round =>
  obtain ⟨k, hk, rfl, rfl, hb⟩ := hrel
  by_cases hlt : k < n
  ·obtain ⟨g, cs, rfl, ho, hs, hc⟩ := (h.now hb).own (by omega)
   have h0 := ((ho.cell (k)).trans (hc (k) (by omega))).trans (congrArg some (mkBool0 k0 k))
   have q0 := xne ((k0 + (k : Int)) % 3 == 0)
   clear ho hc
   go_wp2
   go_roundw
   case rel => exact ⟨k + 1, by omega, by go_num, by go_num, hb⟩
   case measure => simp [intOf]; omega
  ·obtain rfl : k = n := by omega
   go_wp2
   go_ret
   exact ⟨rfl, hb⟩
set_option maxHeartbeats 2000000 in
theorem Mclone_any (vb vf vl vo vk : Value) (M : Me) (w : World) (hM : MeR w vb vf vl vo vk M) (h1 : M.m.t.bs.length ≤ 1048576) (h2 : M.m.t.fs.length ≤ 1048576) (h3 : M.m.c.ls.length ≤ 1048576) (h4 : M.m.g.os.length ≤ 1048576) (h5 : M.mk.length ≤ 1048576) :
  Calls Tryz.prog 39 #[.agg #[vb, vf, vl, .int .i64 M.m.c.hand, .int .i64 M.m.g.count, .int .i64 M.m.g.next, .int .i64 M.m.g.round, vo, .int .i64 M.m.sp, vk, .int .i64 M.h]] w (Post2 fun v w' => ∃ v1 v2 v3 v4 v5, v = .agg #[v1, v2, v3, .int .i64 M.m.c.hand, .int .i64 M.m.g.count, .int .i64 M.m.g.next, .int .i64 M.m.g.round, v4, .int .i64 M.m.sp, v5, .int .i64 M.h] ∧ MeM w.heap.size w' v1 v2 v3 v4 v5 M ∧ Below w.heap.size w w') := by
 obtain ⟨W0, hW, hbx, hbo, hb0, hs0⟩ := box2 w #[vb, vf, vl, .int .i64 M.m.c.hand, .int .i64 M.m.g.count, .int .i64 M.m.g.next, .int .i64 M.m.g.round, vo, .int .i64 M.m.sp, vk, .int .i64 M.h] 37 #[.slice none 0 0, .slice none 0 0, .slice none 0 0, .int .i64 0, .int .i64 0, .int .i64 0, .int .i64 0, .slice none 0 0, .int .i64 0, .slice none 0 0, .int .i64 0] 37
 have HX0 := Hd hbx
 have HO0 := Hd hbo
 have HB0 := Hd hb0
 have HM := Hd hM
 clear hbx hbo hb0 hM
 obtain ⟨q0a, q1a, q2a, q3a, q4a, q5a, q6a, q7a, q8a, q9a, q10a⟩ := c11 HX0.out
 go_enter Tryz.func39, Tryz.ntmps39
 go_wp2_with fail
 refine (mclone_any vb vf vl vo M.m _ (HM.out.m.now HB0.out) h1 h2 h3 h4).mono ?_
 rintro e w1 ⟨_, rfl, q1, q2, q3, q4, rfl, hM1, hb1⟩
 obtain ⟨A1, c1, rfl, _⟩ := hM1.t.b
 obtain ⟨A2, c2, rfl, _⟩ := hM1.t.f
 obtain ⟨A3, c3, rfl, _⟩ := hM1.l
 obtain ⟨A4, c4, rfl, _⟩ := hM1.o
 have HB1 := Hd (bT HB0.out hb1)
 have HX1 := Hd (HX0.out.below hb1)
 have HO1 := Hd (HO0.out.below hb1)
 have hs1 : w.heap.size + 2 ≤ w1.heap.size := Nat.le_trans (Nat.le_of_eq hs0.symm) hb1.size
 have HM1 := Hd (hM1.mono (B' := w.heap.size + 2) (Nat.le_of_eq hs0.symm))
 clear q0a q1a q2a q3a q4a q5a q6a q7a q8a q9a q10a
 clear hM1 hb1
 obtain ⟨q0b, q1b, q2b, q3b, q4b, q5b, q6b, q7b, q8b, q9b, q10b⟩ := c11 HX1.out
 obtain ⟨z0b, z1b, z2b, z3b, z4b, z5b, z6b, z7b, z8b, z9b, z10b⟩ := f11 HX1.out
 have hlx := HX1.out.lt
 obtain ⟨w2, hw2, hx2, hot2, hsz2, hfar2, hbel2⟩ := put9 HX1.out (.slice A1 M.m.t.bs.length c1) (.slice A2 M.m.t.fs.length c2) (.slice A3 M.m.c.ls.length c3) (.int .i64 M.m.c.hand) (.int .i64 M.m.g.count) (.int .i64 M.m.g.next) (.int .i64 M.m.g.round) (.slice A4 M.m.g.os.length c4) (.int .i64 M.m.sp)
 have HX2 := Hd hx2
 have HM2 := Hd (HM1.out.othm hot2)
 have HO2 := Hd (hfar2 _ _ _ (by omega) HO1.out)
 have HB2 := Hd (hbel2 w (Nat.le_refl _) HB1.out)
 clear hx2 hot2 hfar2 hbel2
 go_upto_region 2 with fail
 try rw [hw2]
 clear hw2
 clear q0b q1b q2b q3b q4b q5b q6b q7b q8b q9b q10b
 clear z0b z1b z2b z3b z4b z5b z6b z7b z8b z9b z10b
 clear hlx
 have q9 := HX2.out.cell_ 9 (v := vk) rfl
 go_wp2_with fail
 refine (cloneBool_any vk M.mk _ (HM.out.k.now HB2.out) h5).mono ?_
 rintro e w3 ⟨_, rfl, hK3, hb3⟩
 obtain ⟨A5, c5, rfl, hc5, hd5, hm5⟩ := hK3
 have HB3 := Hd (bT HB2.out hb3)
 have HX3 := Hd (HX2.out.below hb3)
 have HO3 := Hd (HO2.out.below hb3)
 have HM3 := Hd (HM2.out.now hb3)
 have hs3 : w.heap.size + 2 ≤ w3.heap.size := by have := hb3.size; omega
 have HK3 : Hid (SlM boE 4 (w.heap.size + 2) w3 (.slice A5 M.mk.length M.mk.length) M.mk) := slm_of rfl (Nat.le_refl _) (by unfold maxLen; omega) (hm5.mono (by omega))
 clear hb3 hm5 q9
 go_wp2_with fail
 refine (clipBool_any A5 M.mk.length c5 _ hc5).mono ?_
 rintro e _ ⟨rfl, rfl⟩
 obtain ⟨q0b, q1b, q2b, q3b, q4b, q5b, q6b, q7b, q8b, q9b, q10b⟩ := c11 HX3.out
 obtain ⟨z0b, z1b, z2b, z3b, z4b, z5b, z6b, z7b, z8b, z9b, z10b⟩ := f11 HX3.out
 have hlx := HX3.out.lt
 obtain ⟨w4, hw4, hx4, hot4, hsz4, hfar4, hbel4⟩ := put1_9 HX3.out (.slice A5 M.mk.length M.mk.length)
 have HX4 := Hd hx4
 have HMM : Hid (MeM (w.heap.size + 2) w4 (.slice A1 M.m.t.bs.length c1) (.slice A2 M.m.t.fs.length c2) (.slice A3 M.m.c.ls.length c3) (.slice A4 M.m.g.os.length c4) (.slice A5 M.mk.length M.mk.length) M) := (MeM.mk HM3.out HK3.out).othm hot4
 have HO4 := Hd (hfar4 _ _ _ (by omega) HO3.out)
 have HB4 := Hd (hbel4 w (Nat.le_refl _) HB3.out)
 clear hx4 hot4 hfar4 hbel4
 go_upto_region 3 with fail
 try rw [hw4]
 clear hw4
 clear q0b q1b q2b q3b q4b q5b q6b q7b q8b q9b q10b
 clear z0b z1b z2b z3b z4b z5b z6b z7b z8b z9b z10b
 clear hlx
 obtain ⟨q0b, q1b, q2b, q3b, q4b, q5b, q6b, q7b, q8b, q9b, q10b⟩ := c11 HX4.out
 obtain ⟨q0o, q1o, q2o, q3o, q4o, q5o, q6o, q7o, q8o, q9o, q10o⟩ := c11 HO4.out
 obtain ⟨z0o, z1o, z2o, z3o, z4o, z5o, z6o, z7o, z8o, z9o, z10o⟩ := f11 HO4.out
 have hlo := HO4.out.lt
 go_wp2
 obtain ⟨_, rfl, hoz, hotz, _, _, hbz⟩ := put11 HO4.out (.slice A1 M.m.t.bs.length c1) (.slice A2 M.m.t.fs.length c2) (.slice A3 M.m.c.ls.length c3) (.int .i64 M.m.c.hand) (.int .i64 M.m.g.count) (.int .i64 M.m.g.next) (.int .i64 M.m.g.round) (.slice A4 M.m.g.os.length c4) (.int .i64 M.m.sp) (.slice A5 M.mk.length M.mk.length) (.int .i64 M.h)
 obtain ⟨q0t, q1t, q2t, q3t, q4t, q5t, q6t, q7t, q8t, q9t, q10t⟩ := c11 hoz
 refine bodyPost_ret (v := .agg #[.slice A1 M.m.t.bs.length c1, .slice A2 M.m.t.fs.length c2, .slice A3 M.m.c.ls.length c3, .int .i64 M.m.c.hand, .int .i64 M.m.g.count, .int .i64 M.m.g.next, .int .i64 M.m.g.round, .slice A4 M.m.g.os.length c4, .int .i64 M.m.sp, .slice A5 M.mk.length M.mk.length, .int .i64 M.h]) (by simp [results, Tryz.results39, go_sem, q0t, q1t, q2t, q3t, q4t, q5t, q6t, q7t, q8t, q9t, q10t]) rfl ⟨_, rfl, _, _, _, _, _, rfl, (HMM.out.othm hotz).mono (by omega), hbz w (by omega) HB4.out⟩
end Go.Proofs.YtfbnokjdkhcgoaaGreatDoor
