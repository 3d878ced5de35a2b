/- A part of the proofs of this seat: WpP, Draw, Draw2, Sz, RowB. -/
import Derived.Test.YtnaagdmaggdbmaaGreatDoorFMem
import Derived.Test.YtnaagdmaggdbmaaGreatDoorFMa
import Derived.Test.YtnaagdmaggdbmaaGreatDoorFTchP
set_option linter.unusedVariables false
set_option linter.unusedSimpArgs false
namespace Go.Proofs.YtnaagdmaggdbmaaGreatDoor
open Go.RowKit
def wpC (m : Ma) (p : Int) : Ca := (tchV m p 0).c
def wpI (m : Ma) (p : Int) : Int := plcI (wpC m p).ls (-1) p
def wpO (m : Ma) (p : Int) : Bool := tchO m p 0 && !decide (tchR m p 0 = 3) && decide (128 ≤ p) && wirOK (wpC m p) (wpI m p) true
def wpV (m : Ma) (p : Int) : Ma := if wpO m p = true then { tchV m p 0 with c := wirC (wpC m p) (wpI m p) true } else maz
theorem wpO_no {m : Ma} {p : Int} (h : wpO m p = false) : wpV m p = maz := by unfold wpV; rw [h]; rfl
theorem mav_wire {m : Ma} {p : Int} (h : wpO m p = true) : mav (wpV m p) = true := by
 have hV : wpV m p = { tchV m p 0 with c := wirC (wpC m p) (wpI m p) true } := by unfold wpV; rw [if_pos h]
 unfold wpO at h
 simp only [Bool.and_eq_true, decide_eq_true_eq] at h
 obtain ⟨⟨⟨h1, _⟩, h3⟩, h4⟩ := h
 have M := mav_MV.1 (mav_tch h1)
 unfold wirOK at h4
 simp only [Bool.and_eq_true] at h4
 obtain ⟨⟨⟨_, hin⟩, hvv⟩, hc⟩ := h4
 obtain ⟨hi0, hi1⟩ := inR_iff.1 hin
 obtain ⟨k, x, hk, ex, hx⟩ := plcI_lt (show 0 ≤ plcI (wpC m p).ls (-1) p from hi0)
 have hwi : wpI m p = (k : Int) := hk
 obtain ⟨hxv, hxp, hxt⟩ := fits_iff.1 hx
 have hwc : wirC (wpC m p) (wpI m p) true = ⟨(wpC m p).ls.set k { x with w := true }, (wpC m p).hand⟩ := by
  unfold wirC
  rw [hwi, Int.toNat_natCast, List.getD_eq_getElem?_getD, ex]
  rfl
 rw [hwc] at hc
 rw [hV, hwc]
 refine mav_MV.2 ⟨M.t, cav_CV.1 hc, M.g, M.o, M.f, fun i y hi => ?_⟩
 simp only at hi
 rw [List.getElem?_set] at hi
 split at hi
 ·split at hi
  ·injection hi with hi
   rw [← hi]
   obtain ⟨s, j, b1, b2, b3, b4, b5, b6⟩ := lnM_some hxv (M.l k x ex)
   exact lnM_mk (m := { tchV m p 0 with c := ⟨(wpC m p).ls.set k { x with w := true }, (wpC m p).hand⟩ }) (s := s) (i := j) b1 b2 b3 b4 b5 (fun _ => by show 128 ≤ x.p; rw [hxp]; exact h3)
  ·cases hi
 ·exact M.l i y hi
end Go.Proofs.YtnaagdmaggdbmaaGreatDoor
namespace Go.Proofs.YtnaagdmaggdbmaaGreatDoor
open Go.RowKit
structure Bytes (B : Nat) (w : World) (A : Option Addr) (n : Nat) : Prop where
 at_ : ∀ j, j < n → ∃ (b o v : Nat), A = some ⟨b, o, none⟩ ∧ b < B ∧ w.cell? ⟨b, o + j, none⟩ = some (.int .u8 (v : Int)) ∧ v ≤ 255
theorem Bytes.keep {B : Nat} {w w' : World} {A : Option Addr} {n : Nat} (h : Bytes B w A n) (hk : ∀ p : Addr, p.block < B → w'.cell? p = w.cell? p) : Bytes B w' A n :=
 ⟨fun j hj => let ⟨b, o, v, e, hb, hc, h1⟩ := h.at_ j hj; ⟨b, o, v, e, hb, (hk _ hb).trans hc, h1⟩⟩
theorem xor_nat (a b : Nat) (ha : a < 9223372036854775808) (hb : b < 9223372036854775808) : bits .xor .i64 (a : Int) (b : Int) = ((a ^^^ b : Nat) : Int) := by
 have hx : a ^^^ b < 2 ^ 63 := Nat.xor_lt_two_pow (by omega) (by omega)
 have h1 : (BitVec.ofInt 64 (a : Int)).toNat = a := by rw [BitVec.ofInt_natCast, BitVec.toNat_ofNat]; exact Nat.mod_eq_of_lt (by omega)
 have h2 : (BitVec.ofInt 64 (b : Int)).toNat = b := by rw [BitVec.ofInt_natCast, BitVec.toNat_ofNat]; exact Nat.mod_eq_of_lt (by omega)
 show IntKind.i64.wrap ((BitVec.ofInt 64 (a : Int) ^^^ BitVec.ofInt 64 (b : Int)).toNat : Int) = _
 rw [BitVec.toNat_xor, h1, h2]
 exact IntWalk.i64_in _ (by omega)
theorem rem_nat (a b : Nat) (hb : 0 < b) (W : World) : (binOp .rem 3 (.int .i64 (a : Int)) (.int .i64 (b : Int))).run Tryz.prog W = .ok (.int .i64 ((a % b : Nat) : Int)) W := by
 have h1 : ((a : Int)).tmod b = ((a % b : Nat) : Int) := rfl
 simp only [binOp]
 simp [go_sem, h1]
 omega
theorem quo_nat (a b : Nat) (hb : 0 < b) (ha : a ≤ 1000000000) (W : World) : (binOp .quo 3 (.int .i64 (a : Int)) (.int .i64 (b : Int))).run Tryz.prog W = .ok (.int .i64 ((a / b : Nat) : Int)) W := by
 have h1 : ((a : Int)).tdiv b = ((a / b : Nat) : Int) := rfl
 have h2 : IntKind.i64.wrap ((a / b : Nat) : Int) = ((a / b : Nat) : Int) := IntWalk.i64_in _ (by have := Nat.div_le_self a b; generalize a / b = q at *; omega)
 simp only [binOp]
 have h3 : ¬ b = 0 := by omega
 rw [show ((a / b : Nat) : Int) = (a : Int) / (b : Int) from rfl] at h1 h2 ⊢
 simp [go_sem, h1, h2, h3]
structure Rdr (B : Nat) (w : World) (g : Nat) (p : Nat) : Prop where
 ok : ∃ A n c, Own w g 141 #[.slice A n c, .int .i64 p] ∧ Bytes B w A n ∧ n ≤ 2000 ∧ B ≤ g
def Picked (n : Int) (B : Nat) (w : World) (g p : Nat) (e : Ending) (w' : World) : Prop :=
 ∃ r : Int, e = .returned (.int .i64 r) ∧ 0 ≤ r ∧ (1 ≤ n → r < n) ∧ Rdr B w' g (p + 1) ∧ w.grownBy w' (some g)
theorem rdr_set {B : Nat} {w : World} {g p : Nat} {A : Option Addr} {n c : Nat} (ho : Own w g 141 #[.slice A n c, .int .i64 p]) (hb : Bytes B w A n) (hn : n ≤ 2000) (hg : B ≤ g) (k : Nat) :
  Rdr B ((w.setCell ⟨g, 1, none⟩ (.int .i64 ((p : Int) + 1))).drewN k) g (p + 1) ∧ w.grownBy ((w.setCell ⟨g, 1, none⟩ (.int .i64 ((p : Int) + 1))).drewN k) (some g) := by
 refine ⟨⟨A, n, c, ?_, hb.keep fun q hq => ?_, hn, hg⟩, ?_⟩
 ·have h := ho.set_ 1 (.int .i64 ((p : Int) + 1))
  have e : ((p : Int) + 1) = ((p + 1 : Nat) : Int) := by omega
  rw [e] at h ⊢
  exact h
 ·exact World.cell?_setCell_other w ⟨g, 1, none⟩ q _ (fun e => by subst e; exact absurd hq (by simp; omega))
 ·exact ⟨rfl, rfl, rfl, by simp [World.setCell], fun i _ hne => Below.heap_setCell w ⟨g, 1, none⟩ _ i (by rintro rfl; exact hne rfl)⟩
theorem emod_in {v n : Int} (hn : 1 ≤ n) : 0 ≤ v % n ∧ (1 ≤ n → v % n < n) := ⟨Int.emod_nonneg _ (by omega), fun _ => Int.emod_lt_of_pos _ (by omega)⟩
set_option maxHeartbeats 1000000 in
theorem pick_any (B g p : Nat) (n : Int) (w : World) (h : Rdr B w g p) (hp : p ≤ 1000000) (hn : n ≤ 1000000) :
  Calls Tryz.prog 47 #[.pointer (some ⟨g, 0, none⟩), .int .i64 n] w (Picked n B w g p) := by
 obtain ⟨A, len, c, ho, hb, hl, hg⟩ := h.ok
 have c0 := ho.cell_ 0 (v := .slice A len c) rfl
 have c1 := ho.cell_ 1 (v := .int .i64 p) rfl
 have f0 := ho.free 0
 have f1 := ho.free 1
 have HO := Lib.hid ho
 have HB := Lib.hid hb
 clear ho hb h
 by_cases h1 : n < 1
 ·go_enter Tryz.func47, Tryz.ntmps47
  go_wp2
  go_ret
  exact ⟨0, rfl, by omega, fun h => by omega, rdr_set HO.out HB.out hl hg 0⟩
 ·by_cases hz : len = 0
  ·subst hz
   go_enter Tryz.func47, Tryz.ntmps47
   go_wp2
   go_ret
   exact ⟨0, rfl, by omega, fun h => by omega, rdr_set HO.out HB.out hl hg 0⟩
  ·have hpos : (0 : Int) < (len : Int) := by omega
   have hne : ((len : Int) == 0) = false := by simp; omega
   by_cases hlt : p < len
   ·obtain ⟨b, o, v, rfl, hbb, hc, hv1⟩ := HB.out.at_ p hlt
    go_enter Tryz.func47, Tryz.ntmps47
    go_wp2
    go_ret
    exact ⟨_, rfl, (emod_in (by omega)).1, (emod_in (by omega)).2, rdr_set HO.out HB.out hl hg 0⟩
   ·obtain ⟨b, o, v, rfl, hbb, hc, hv1⟩ := HB.out.at_ (p % len) (Nat.mod_lt _ (by omega))
    obtain ⟨b', o', v2, e', _, hc2, hv21⟩ := HB.out.at_ ((p * 7 + 3) % len) (Nat.mod_lt _ (by omega))
    injection e' with e'
    injection e' with e1 e2
    subst e1 e2
    have r1 : ((p : Int)).tmod (len : Int) = ((p % len : Nat) : Int) := rfl
    have r2 : ((p : Int) * 7 + 3).tmod (len : Int) = (((p * 7 + 3) % len : Nat) : Int) := by
     rw [show (p : Int) * 7 + 3 = ((p * 7 + 3 : Nat) : Int) by omega]; rfl
    have r3 : ((p : Int)).tdiv (len : Int) = ((p / len : Nat) : Int) := rfl
    have hm1 : p % len < len := Nat.mod_lt _ (by omega)
    have hm2 : (p * 7 + 3) % len < len := Nat.mod_lt _ (by omega)
    have hq : p / len ≤ p := Nat.div_le_self _ _
    generalize p % len = j1 at *
    generalize (p * 7 + 3) % len = j2 at *
    generalize p / len = j3 at *
    have a1 : IntKind.i64.wrap ((p : Int) * 7) = (p : Int) * 7 := IntWalk.i64_in _ (by omega)
    have a2 : IntKind.i64.wrap ((p : Int) * 7 + 3) = (p : Int) * 7 + 3 := IntWalk.i64_in _ (by omega)
    have a3 : IntKind.i64.wrap ((v : Int) * 131) = (v : Int) * 131 := IntWalk.i64_in _ (by omega)
    have a4 : IntKind.i64.wrap ((v2 : Int) * 1117) = (v2 : Int) * 1117 := IntWalk.i64_in _ (by omega)
    have a5 : IntKind.i64.wrap ((v : Int) * 131 + (v2 : Int) * 1117) = (v : Int) * 131 + (v2 : Int) * 1117 := IntWalk.i64_in _ (by omega)
    have a6 : IntKind.i64.wrap ((p : Int) * 29) = (p : Int) * 29 := IntWalk.i64_in _ (by omega)
    have a7 : IntKind.i64.wrap ((v : Int) * 131 + (v2 : Int) * 1117 + (p : Int) * 29) = (v : Int) * 131 + (v2 : Int) * 1117 + (p : Int) * 29 := IntWalk.i64_in _ (by omega)
    have a8 : IntKind.i64.wrap ((j3 : Int) * 53) = (j3 : Int) * 53 := IntWalk.i64_in _ (by omega)
    have a9 : IntKind.i64.wrap ((v : Int) * 131 + (v2 : Int) * 1117 + (p : Int) * 29 + (j3 : Int) * 53) = (v : Int) * 131 + (v2 : Int) * 1117 + (p : Int) * 29 + (j3 : Int) * 53 := IntWalk.i64_in _ (by omega)
    go_enter Tryz.func47, Tryz.ntmps47
    go_wp2
    go_quiet (fail)
    clear r1 r2 r3 a1 a2 a3 a4 a5 a6 a7 a8 a9 hc hc2 c0 c1 f0 f1
    have hE : ∃ X : Nat, (v : Int) * 131 + (v2 : Int) * 1117 + (p : Int) * 29 + (j3 : Int) * 53 = (X : Int) ∧ X ≤ 1000000000 := ⟨v * 131 + v2 * 1117 + p * 29 + j3 * 53, by omega, by omega⟩
    obtain ⟨X, hX, hXb⟩ := hE
    rw [hX]
    clear hX
    have hx : bits .xor .i64 (X : Int) ((X : Int) / 64) = ((X ^^^ (X / 64) : Nat) : Int) := by
     rw [show ((X : Int) / 64) = ((X / 64 : Nat) : Int) from rfl]
     exact xor_nat X (X / 64) (by omega) (by omega)
    generalize X ^^^ (X / 64) = R at hx
    go_wp2
    go_ret
    exact ⟨_, rfl, (emod_in (by omega)).1, (emod_in (by omega)).2, rdr_set HO.out HB.out hl hg _⟩
end Go.Proofs.YtnaagdmaggdbmaaGreatDoor
namespace Go.Proofs.YtnaagdmaggdbmaaGreatDoor
open Go.RowKit
theorem byte_info : (Tryz.prog.info? 5).map (fun i => (i.zero, i.size, i.bytes)) = some (some (.int .u8 0), 1, 1) := by kernel_rfl
theorem rdr_grown {B : Nat} {w w' : World} {g p : Nat} (h : Rdr B w g p) (hg : w.grownBy w' none) : Rdr B w' g p := by
 obtain ⟨A, n, c, ho, hb, hn, hB⟩ := h.ok
 refine ⟨A, n, c, (hg.block g ho.lt (by simp)).trans ho, hb.keep fun q hq => World.cell?_of_block (hg.block q.block (by have := ho.lt; omega) (by simp)), hn, hB⟩
theorem rdr_grownb {B : Nat} {w w' : World} {g p k : Nat} (h : Rdr B w g p) (hg : w.grownBy w' (some k)) (hk : g < k) : Rdr B w' g p := by
 obtain ⟨A, n, c, ho, hb, hn, hB⟩ := h.ok
 refine ⟨A, n, c, (hg.block g ho.lt (by simp; omega)).trans ho, hb.keep fun q hq => World.cell?_of_block (hg.block q.block (by have := ho.lt; omega) (by simp; omega)), hn, hB⟩
theorem rdr_alloc {B : Nat} {w : World} {g p : Nat} (h : Rdr B w g p) (o : Obj) : Rdr B (w.alloc o) g p := rdr_grown h (World.grownBy_alloc w o none)
theorem rdr_lt {B : Nat} {w : World} {g p : Nat} (h : Rdr B w g p) : g < w.heap.size := by
 obtain ⟨A, n, c, ho, _⟩ := h.ok
 exact ho.lt
def Numbered (zs : List Int) (B : Nat) (w : World) (g p : Nat) (e : Ending) (w' : World) : Prop :=
 ∃ r : Int, e = .returned (.int .i64 r) ∧ r ∈ zs ∧ Rdr B w' g (p + 1) ∧ w.grownBy w' (some g)
set_option maxRecDepth 100000 in
theorem num_any (B g p g2 : Nat) (zs : List Int) (w : World) (h : Rdr B w g p) (hz : Own w g2 3 (zs.map (Value.int .i64)).toArray) (hne : g2 ≠ g) (hp : p ≤ 1000000) (h1 : 1 ≤ zs.length) (h2 : zs.length ≤ 1000) :
  Calls Tryz.prog 48 #[.pointer (some ⟨g, 0, none⟩), .slice (some ⟨g2, 0, none⟩) zs.length zs.length] w (Numbered zs B w g p) := by
 have HZ := Lib.hid hz
 clear hz
 go_enter Tryz.func48, Tryz.ntmps48
 go_wp2_with fail
 refine (pick_any B g p zs.length w h hp (by omega)).mono ?_
 rintro e w1 ⟨r, rfl, hr0, hr1, hrd, hg⟩
 obtain ⟨i, rfl⟩ := Int.eq_ofNat_of_zero_le hr0
 have hi : i < zs.length := by have := hr1 (by omega); omega
 have hi2 : (i : Int) < (zs.length : Int) := by omega
 have hc : w1.cell? ⟨g2, i, none⟩ = some (.int .i64 zs[i]) := hg.cell (HZ.out.cell_ i (by simp [hi])) (by simp; omega)
 have hm : Hid (zs[i] ∈ zs) := List.getElem_mem hi
 generalize zs[i] = z at hc hm
 clear hr1
 have HRD := Lib.hid hrd
 have HG := Lib.hid hg
 clear hrd hg
 go_wp2
 go_ret
 exact ⟨_, rfl, hm.out, HRD.out, HG.out⟩
end Go.Proofs.YtnaagdmaggdbmaaGreatDoor
namespace Go.Proofs.YtnaagdmaggdbmaaGreatDoor
open Go.RowKit
structure Sz (k : Nat) (m : Ma) : Prop where
 b1 : 1 ≤ m.t.bs.length
 b : m.t.bs.length ≤ k
 f : m.t.fs.length ≤ k
 l : m.c.ls.length ≤ k
 o : m.g.os.length ≤ k
theorem Sz.up {k k' : Nat} {m : Ma} (h : Sz k m) (hk : k ≤ k') : Sz k' m := ⟨h.b1, Nat.le_trans h.b hk, Nat.le_trans h.f hk, Nat.le_trans h.l hk, Nat.le_trans h.o hk⟩
theorem Sz.of {m : Ma} (h : mav m = true) : Sz 16 m := by
 obtain ⟨h1, h2, h3, _⟩ := mav_parts h
 have a := (tv_parts h1).1
 have b := cav_parts h2
 have c := tgv_parts h3
 have d := tok_len c.2 c.1.2.2.1
 exact ⟨by omega, by omega, by omega, by omega, by omega⟩
theorem gr_below {w w' : World} {g : Nat} (hb : Below w.heap.size w w') : w.grownBy w' (some g) := ⟨hb.os, hb.tape, hb.output, hb.size, fun k hk _ => hb.block k hk⟩
theorem rdr_below {B : Nat} {w w' : World} {g p : Nat} (h : Rdr B w g p) (hb : Below w.heap.size w w') : Rdr B w' g p := rdr_grown h ⟨hb.os, hb.tape, hb.output, hb.size, fun k hk _ => hb.block k hk⟩
theorem oth_gr {w w' : World} {g : Nat} {ty : TypeId} {cs : Array Value} (hg : w.grownBy w' (some g)) (ho : Own w g ty cs) : Oth (fun e => e = ty) w w' := by
 refine ⟨hg.size, fun g' e cs' h hne => (hg.block g' h.lt ?_).trans h⟩
 intro hh
 injection hh with hh
 subst hh
 unfold Own at h ho
 rw [ho] at h
 injection h with h
 injection h with _ h2
 exact hne h2.symm
theorem MaM.gr {B B' : Nat} {w w' : World} {g p : Nat} {v1 v2 v3 v4 : Value} {m : Ma} (h : MaM B w v1 v2 v3 v4 m) (hr : Rdr B' w g p) (hg : w.grownBy w' (some g)) : MaM B w' v1 v2 v3 v4 m := by
 obtain ⟨A, n, c, ho, _⟩ := hr.ok
 exact h.oth (oth_gr hg ho) (by decide) (by decide) (by decide) (by decide)
def Drawn (B k : Nat) (w : World) (g p n : Nat) (v : Value) (w' : World) : Prop :=
 ∃ (m : Ma) (v1 v2 v3 v4 : Value) (q : Nat), v = .agg #[v1, v2, v3, .int .i64 m.c.hand, .int .i64 m.g.count, .int .i64 m.g.next, .int .i64 m.g.round, v4, .int .i64 m.sp] ∧ MaM B w' v1 v2 v3 v4 m ∧ Sz k m ∧ Rdr B w' g q ∧ q ≤ p + n ∧ w.grownBy w' (some g)
end Go.Proofs.YtnaagdmaggdbmaaGreatDoor
namespace Go.Proofs.YtnaagdmaggdbmaaGreatDoor
open Go.RowKit
def IsRow (k : IntKind) (w : World) (a : Option Addr) (len cap : Nat) (zs : List Int) : Prop :=
 (a = none ∧ len = 0 ∧ cap = 0 ∧ zs = []) ∨
 ∃ x, a = some x ∧ len ≤ cap ∧ cap ≤ maxLen ∧ zs.length = cap ∧ (∀ i, i < zs.length → w.cell? (x.add i) = some (.int k (zs.getD i 0))) ∧ ∀ n ∈ zs, (Lit.int k n).wf = true
theorem row_cap {w : World} {a : Option Addr} {len cap : Nat} {zs : List Int} (h : IsRow .u8 w a len cap zs) : len ≤ cap := by
 rcases h with ⟨_, rfl, rfl, _⟩ | ⟨x, _, h, _⟩
 ·exact Nat.le_refl _
 ·exact h
theorem wf_u8_in {n : Int} (h : (Lit.int .u8 n).wf = true) : 0 ≤ n ∧ n ≤ 255 := by
 simp [Lit.wf, IntKind.min, IntKind.max, IntKind.signed, IntKind.bits] at h
 omega
theorem row_bytes {w : World} {a : Option Addr} {len cap : Nat} {zs : List Int} (h : IsRow .u8 w a len cap zs) : Bytes w.heap.size w a len := by
 rcases h with ⟨_, rfl, _, _⟩ | ⟨x, rfl, hlc, _, hz, hc, hw⟩
 ·exact ⟨fun j hj => absurd hj (by omega)⟩
 ·refine ⟨fun j hj => ?_⟩
  obtain ⟨b, o, s⟩ := x
  have h0 := hc 0 (by omega)
  have hs : s = none := by simpa [Addr.add] using World.cell?_spot h0
  subst hs
  have h1 := hc j (by omega)
  rw [add_lit_] at h1
  have hm : zs.getD j 0 ∈ zs := by
   have e : zs.getD j 0 = zs[j]'(by omega) := by rw [List.getD_eq_getElem?_getD, List.getElem?_eq_getElem (by omega)]; rfl
   rw [e]; exact List.getElem_mem _
  obtain ⟨h2, h3⟩ := wf_u8_in (hw _ hm)
  obtain ⟨v, hv⟩ := Int.eq_ofNat_of_zero_le h2
  rw [hv] at h1 h3
  exact ⟨b, o, v, rfl, World.block_lt_of_cell? w _ h1, h1, by omega⟩
end Go.Proofs.YtnaagdmaggdbmaaGreatDoor
