/- A part of the proofs of this seat: WpP, Draw, Draw2, Sz, Reg, RowB. -/
import Derived.Test.YtnaagdmaggdbmaaGreatDoorUMem
import Derived.Test.YtnaagdmaggdbmaaGreatDoorUMa
import Derived.Test.YtnaagdmaggdbmaaGreatDoorUTchP
set_option linter.unusedVariables false
set_option linter.unusedSimpArgs false
namespace Go.Proofs.YtnaagdmaggdbmaaGreatDoor
open Go.RowKit
def wpC (m : Ma) (p : Int) : Ca := (tchV m p 0).c
def wpI (m : Ma) (p : Int) : Int := plcI (wpC m p).ls (-1) p
def wpO (m : Ma) (p : Int) : Bool := tchO m p 0 && !decide (tchR m p 0 = 3) && decide (128 ≤ p) && wirOK (wpC m p) (wpI m p) true
def wpV (m : Ma) (p : Int) : Ma := if wpO m p = true then { tchV m p 0 with c := wirC (wpC m p) (wpI m p) true } else maz
theorem wpO_no {m : Ma} {p : Int} (h : wpO m p = false) : wpV m p = maz := by unfold wpV; rw [h]; rfl
theorem mav_wire {m : Ma} {p : Int} (h : wpO m p = true) : mav (wpV m p) = true := by
 have hV : wpV m p = { tchV m p 0 with c := wirC (wpC m p) (wpI m p) true } := by unfold wpV; rw [if_pos h]
 unfold wpO at h
 simp only [Bool.and_eq_true, decide_eq_true_eq] at h
 obtain ⟨⟨⟨h1, _⟩, h3⟩, h4⟩ := h
 have M := mav_MV.1 (mav_tch h1)
 unfold wirOK at h4
 simp only [Bool.and_eq_true] at h4
 obtain ⟨⟨⟨_, hin⟩, hvv⟩, hc⟩ := h4
 obtain ⟨hi0, hi1⟩ := inR_iff.1 hin
 obtain ⟨k, x, hk, ex, hx⟩ := plcI_lt (show 0 ≤ plcI (wpC m p).ls (-1) p from hi0)
 have hwi : wpI m p = (k : Int) := hk
 obtain ⟨hxv, hxp, hxt⟩ := fits_iff.1 hx
 have hwc : wirC (wpC m p) (wpI m p) true = ⟨(wpC m p).ls.set k { x with w := true }, (wpC m p).hand⟩ := by
  unfold wirC
  rw [hwi, Int.toNat_natCast, List.getD_eq_getElem?_getD, ex]
  rfl
 rw [hwc] at hc
 rw [hV, hwc]
 refine mav_MV.2 ⟨M.t, cav_CV.1 hc, M.g, M.o, M.f, fun i y hi => ?_⟩
 simp only at hi
 rw [List.getElem?_set] at hi
 split at hi
 ·split at hi
  ·injection hi with hi
   rw [← hi]
   obtain ⟨s, j, b1, b2, b3, b4, b5, b6⟩ := lnM_some hxv (M.l k x ex)
   exact lnM_mk (m := { tchV m p 0 with c := ⟨(wpC m p).ls.set k { x with w := true }, (wpC m p).hand⟩ }) (s := s) (i := j) b1 b2 b3 b4 b5 (fun _ => by show 128 ≤ x.p; rw [hxp]; exact h3)
  ·cases hi
 ·exact M.l i y hi
end Go.Proofs.YtnaagdmaggdbmaaGreatDoor
namespace Go.Proofs.YtnaagdmaggdbmaaGreatDoor
open Go.RowKit
structure Bytes (B : Nat) (w : World) (A : Option Addr) (n : Nat) : Prop where
 at_ : ∀ j, j < n → ∃ (b o v : Nat), A = some ⟨b, o, none⟩ ∧ b < B ∧ w.cell? ⟨b, o + j, none⟩ = some (.int .u8 (v : Int)) ∧ v ≤ 255
theorem Bytes.keep {B : Nat} {w w' : World} {A : Option Addr} {n : Nat} (h : Bytes B w A n) (hk : ∀ p : Addr, p.block < B → w'.cell? p = w.cell? p) : Bytes B w' A n :=
 ⟨fun j hj => let ⟨b, o, v, e, hb, hc, h1⟩ := h.at_ j hj; ⟨b, o, v, e, hb, (hk _ hb).trans hc, h1⟩⟩
theorem xor_nat (a b : Nat) (ha : a < 9223372036854775808) (hb : b < 9223372036854775808) : bits .xor .i64 (a : Int) (b : Int) = ((a ^^^ b : Nat) : Int) := by
 have hx : a ^^^ b < 2 ^ 63 := Nat.xor_lt_two_pow (by omega) (by omega)
 have h1 : (BitVec.ofInt 64 (a : Int)).toNat = a := by rw [BitVec.ofInt_natCast, BitVec.toNat_ofNat]; exact Nat.mod_eq_of_lt (by omega)
 have h2 : (BitVec.ofInt 64 (b : Int)).toNat = b := by rw [BitVec.ofInt_natCast, BitVec.toNat_ofNat]; exact Nat.mod_eq_of_lt (by omega)
 show IntKind.i64.wrap ((BitVec.ofInt 64 (a : Int) ^^^ BitVec.ofInt 64 (b : Int)).toNat : Int) = _
 rw [BitVec.toNat_xor, h1, h2]
 exact IntWalk.i64_in _ (by omega)
structure Rdr (B : Nat) (w : World) (g : Nat) (p : Nat) : Prop where
 ok : ∃ A n c, Own w g 141 #[.slice A n c, .int .i64 p] ∧ Bytes B w A n ∧ n ≤ 2000 ∧ B ≤ g
def Picked (n : Int) (B : Nat) (w : World) (g p : Nat) (e : Ending) (w' : World) : Prop :=
 ∃ r : Int, e = .returned (.int .i64 r) ∧ 0 ≤ r ∧ (1 ≤ n → r < n) ∧ Rdr B w' g (p + 1) ∧ w.grownBy w' (some g)
theorem rdr_set {B : Nat} {w : World} {g p : Nat} {A : Option Addr} {n c : Nat} (ho : Own w g 141 #[.slice A n c, .int .i64 p]) (hb : Bytes B w A n) (hn : n ≤ 2000) (hg : B ≤ g) (k : Nat) :
  Rdr B ((w.setCell ⟨g, 1, none⟩ (.int .i64 ((p : Int) + 1))).drewN k) g (p + 1) ∧ w.grownBy ((w.setCell ⟨g, 1, none⟩ (.int .i64 ((p : Int) + 1))).drewN k) (some g) := by
 refine ⟨⟨A, n, c, ?_, hb.keep fun q hq => ?_, hn, hg⟩, ?_⟩
 ·have h := ho.set_ 1 (.int .i64 ((p : Int) + 1))
  have e : ((p : Int) + 1) = ((p + 1 : Nat) : Int) := by omega
  rw [e] at h ⊢
  exact h
 ·exact World.cell?_setCell_other w ⟨g, 1, none⟩ q _ (fun e => by subst e; exact absurd hq (by simp; omega))
 ·exact ⟨rfl, rfl, rfl, by simp [World.setCell], fun i _ hne => Below.heap_setCell w ⟨g, 1, none⟩ _ i (by rintro rfl; exact hne rfl)⟩
theorem emod_in {v n : Int} (hn : 1 ≤ n) : 0 ≤ v % n ∧ (1 ≤ n → v % n < n) := ⟨Int.emod_nonneg _ (by omega), fun _ => Int.emod_lt_of_pos _ (by omega)⟩
set_option maxHeartbeats 1000000 in
theorem pick_any (B g p : Nat) (n : Int) (w : World) (h : Rdr B w g p) (hp : p ≤ 1000000) (hn : n ≤ 1000000) :
  Calls Tryz.prog 47 #[.pointer (some ⟨g, 0, none⟩), .int .i64 n] w (Picked n B w g p) := by
 obtain ⟨A, len, c, ho, hb, hl, hg⟩ := h.ok
 have c0 := ho.cell_ 0 (v := .slice A len c) rfl
 have c1 := ho.cell_ 1 (v := .int .i64 p) rfl
 have f0 := ho.free 0
 have f1 := ho.free 1
 have HO := Lib.hid ho
 have HB := Lib.hid hb
 clear ho hb h
 by_cases h1 : n < 1
 ·go_enter Tryz.func47, Tryz.ntmps47
  go_wp2
  go_ret
  exact ⟨0, rfl, by omega, fun h => by omega, rdr_set HO.out HB.out hl hg 0⟩
 ·by_cases hz : len = 0
  ·subst hz
   go_enter Tryz.func47, Tryz.ntmps47
   go_wp2
   go_ret
   exact ⟨0, rfl, by omega, fun h => by omega, rdr_set HO.out HB.out hl hg 0⟩
  ·have hpos : (0 : Int) < (len : Int) := by omega
   have hne : ((len : Int) == 0) = false := by simp; omega
   by_cases hlt : p < len
   ·obtain ⟨b, o, v, rfl, hbb, hc, hv1⟩ := HB.out.at_ p hlt
    go_enter Tryz.func47, Tryz.ntmps47
    go_wp2
    go_ret
    exact ⟨_, rfl, (emod_in (by omega)).1, (emod_in (by omega)).2, rdr_set HO.out HB.out hl hg 0⟩
   ·obtain ⟨b, o, v, rfl, hbb, hc, hv1⟩ := HB.out.at_ (p % len) (Nat.mod_lt _ (by omega))
    obtain ⟨b', o', v2, e', _, hc2, hv21⟩ := HB.out.at_ ((p * 7 + 3) % len) (Nat.mod_lt _ (by omega))
    injection e' with e'
    injection e' with e1 e2
    subst e1 e2
    have r1 : ((p : Int)).tmod (len : Int) = ((p % len : Nat) : Int) := rfl
    have r2 : ((p : Int) * 7 + 3).tmod (len : Int) = (((p * 7 + 3) % len : Nat) : Int) := by
     rw [show (p : Int) * 7 + 3 = ((p * 7 + 3 : Nat) : Int) by omega]; rfl
    have r3 : ((p : Int)).tdiv (len : Int) = ((p / len : Nat) : Int) := rfl
    have hm1 : p % len < len := Nat.mod_lt _ (by omega)
    have hm2 : (p * 7 + 3) % len < len := Nat.mod_lt _ (by omega)
    have hq : p / len ≤ p := Nat.div_le_self _ _
    generalize p % len = j1 at *
    generalize (p * 7 + 3) % len = j2 at *
    generalize p / len = j3 at *
    have a1 : IntKind.i64.wrap ((p : Int) * 7) = (p : Int) * 7 := IntWalk.i64_in _ (by omega)
    have a2 : IntKind.i64.wrap ((p : Int) * 7 + 3) = (p : Int) * 7 + 3 := IntWalk.i64_in _ (by omega)
    have a3 : IntKind.i64.wrap ((v : Int) * 131) = (v : Int) * 131 := IntWalk.i64_in _ (by omega)
    have a4 : IntKind.i64.wrap ((v2 : Int) * 1117) = (v2 : Int) * 1117 := IntWalk.i64_in _ (by omega)
    have a5 : IntKind.i64.wrap ((v : Int) * 131 + (v2 : Int) * 1117) = (v : Int) * 131 + (v2 : Int) * 1117 := IntWalk.i64_in _ (by omega)
    have a6 : IntKind.i64.wrap ((p : Int) * 29) = (p : Int) * 29 := IntWalk.i64_in _ (by omega)
    have a7 : IntKind.i64.wrap ((v : Int) * 131 + (v2 : Int) * 1117 + (p : Int) * 29) = (v : Int) * 131 + (v2 : Int) * 1117 + (p : Int) * 29 := IntWalk.i64_in _ (by omega)
    have a8 : IntKind.i64.wrap ((j3 : Int) * 53) = (j3 : Int) * 53 := IntWalk.i64_in _ (by omega)
    have a9 : IntKind.i64.wrap ((v : Int) * 131 + (v2 : Int) * 1117 + (p : Int) * 29 + (j3 : Int) * 53) = (v : Int) * 131 + (v2 : Int) * 1117 + (p : Int) * 29 + (j3 : Int) * 53 := IntWalk.i64_in _ (by omega)
    go_enter Tryz.func47, Tryz.ntmps47
    go_wp2
    go_quiet (fail)
    clear r1 r2 r3 a1 a2 a3 a4 a5 a6 a7 a8 a9 hc hc2 c0 c1 f0 f1
    have hE : ∃ X : Nat, (v : Int) * 131 + (v2 : Int) * 1117 + (p : Int) * 29 + (j3 : Int) * 53 = (X : Int) ∧ X ≤ 1000000000 := ⟨v * 131 + v2 * 1117 + p * 29 + j3 * 53, by omega, by omega⟩
    obtain ⟨X, hX, hXb⟩ := hE
    rw [hX]
    clear hX
    have hx : bits .xor .i64 (X : Int) ((X : Int) / 64) = ((X ^^^ (X / 64) : Nat) : Int) := by
     rw [show ((X : Int) / 64) = ((X / 64 : Nat) : Int) from rfl]
     exact xor_nat X (X / 64) (by omega) (by omega)
    generalize X ^^^ (X / 64) = R at hx
    go_wp2
    go_ret
    exact ⟨_, rfl, (emod_in (by omega)).1, (emod_in (by omega)).2, rdr_set HO.out HB.out hl hg _⟩
end Go.Proofs.YtnaagdmaggdbmaaGreatDoor
namespace Go.Proofs.YtnaagdmaggdbmaaGreatDoor
open Go.RowKit
theorem byte_info : (Tryz.prog.info? 5).map (fun i => (i.zero, i.size, i.bytes)) = some (some (.int .u8 0), 1, 1) := by kernel_rfl
theorem rdr_grown {B : Nat} {w w' : World} {g p : Nat} (h : Rdr B w g p) (hg : w.grownBy w' none) : Rdr B w' g p := by
 obtain ⟨A, n, c, ho, hb, hn, hB⟩ := h.ok
 refine ⟨A, n, c, (hg.block g ho.lt (by simp)).trans ho, hb.keep fun q hq => World.cell?_of_block (hg.block q.block (by have := ho.lt; omega) (by simp)), hn, hB⟩
theorem rdr_grownb {B : Nat} {w w' : World} {g p k : Nat} (h : Rdr B w g p) (hg : w.grownBy w' (some k)) (hk : g < k) : Rdr B w' g p := by
 obtain ⟨A, n, c, ho, hb, hn, hB⟩ := h.ok
 refine ⟨A, n, c, (hg.block g ho.lt (by simp; omega)).trans ho, hb.keep fun q hq => World.cell?_of_block (hg.block q.block (by have := ho.lt; omega) (by simp; omega)), hn, hB⟩
theorem rdr_alloc {B : Nat} {w : World} {g p : Nat} (h : Rdr B w g p) (o : Obj) : Rdr B (w.alloc o) g p := rdr_grown h (World.grownBy_alloc w o none)
theorem rdr_lt {B : Nat} {w : World} {g p : Nat} (h : Rdr B w g p) : g < w.heap.size := by
 obtain ⟨A, n, c, ho, _⟩ := h.ok
 exact ho.lt
def Numbered (zs : List Int) (B : Nat) (w : World) (g p : Nat) (e : Ending) (w' : World) : Prop :=
 ∃ r : Int, e = .returned (.int .i64 r) ∧ r ∈ zs ∧ Rdr B w' g (p + 1) ∧ w.grownBy w' (some g)
set_option maxRecDepth 100000 in
theorem num_any (B g p g2 : Nat) (zs : List Int) (w : World) (h : Rdr B w g p) (hz : Own w g2 3 (zs.map (Value.int .i64)).toArray) (hne : g2 ≠ g) (hp : p ≤ 1000000) (h1 : 1 ≤ zs.length) (h2 : zs.length ≤ 1000) :
  Calls Tryz.prog 48 #[.pointer (some ⟨g, 0, none⟩), .slice (some ⟨g2, 0, none⟩) zs.length zs.length] w (Numbered zs B w g p) := by
 have HZ := Lib.hid hz
 clear hz
 go_enter Tryz.func48, Tryz.ntmps48
 go_wp2_with fail
 refine (pick_any B g p zs.length w h hp (by omega)).mono ?_
 rintro e w1 ⟨r, rfl, hr0, hr1, hrd, hg⟩
 obtain ⟨i, rfl⟩ := Int.eq_ofNat_of_zero_le hr0
 have hi : i < zs.length := by have := hr1 (by omega); omega
 have hi2 : (i : Int) < (zs.length : Int) := by omega
 have hc : w1.cell? ⟨g2, i, none⟩ = some (.int .i64 zs[i]) := hg.cell (HZ.out.cell_ i (by simp [hi])) (by simp; omega)
 have hm : Hid (zs[i] ∈ zs) := List.getElem_mem hi
 generalize zs[i] = z at hc hm
 clear hr1
 have HRD := Lib.hid hrd
 have HG := Lib.hid hg
 clear hrd hg
 go_wp2
 go_ret
 exact ⟨_, rfl, hm.out, HRD.out, HG.out⟩
end Go.Proofs.YtnaagdmaggdbmaaGreatDoor
namespace Go.Proofs.YtnaagdmaggdbmaaGreatDoor
open Go.RowKit
structure Sz (k : Nat) (m : Ma) : Prop where
 b1 : 1 ≤ m.t.bs.length
 b : m.t.bs.length ≤ k
 f : m.t.fs.length ≤ k
 l : m.c.ls.length ≤ k
 o : m.g.os.length ≤ k
theorem Sz.up {k k' : Nat} {m : Ma} (h : Sz k m) (hk : k ≤ k') : Sz k' m := ⟨h.b1, Nat.le_trans h.b hk, Nat.le_trans h.f hk, Nat.le_trans h.l hk, Nat.le_trans h.o hk⟩
theorem Sz.of {m : Ma} (h : mav m = true) : Sz 16 m := by
 obtain ⟨h1, h2, h3, _⟩ := mav_parts h
 have a := (tv_parts h1).1
 have b := cav_parts h2
 have c := tgv_parts h3
 have d := tok_len c.2 c.1.2.2.1
 exact ⟨by omega, by omega, by omega, by omega, by omega⟩
theorem gr_below {w w' : World} {g : Nat} (hb : Below w.heap.size w w') : w.grownBy w' (some g) := ⟨hb.os, hb.tape, hb.output, hb.size, fun k hk _ => hb.block k hk⟩
theorem rdr_below {B : Nat} {w w' : World} {g p : Nat} (h : Rdr B w g p) (hb : Below w.heap.size w w') : Rdr B w' g p := rdr_grown h ⟨hb.os, hb.tape, hb.output, hb.size, fun k hk _ => hb.block k hk⟩
theorem oth_gr {w w' : World} {g : Nat} {ty : TypeId} {cs : Array Value} (hg : w.grownBy w' (some g)) (ho : Own w g ty cs) : Oth (fun e => e = ty) w w' := by
 refine ⟨hg.size, fun g' e cs' h hne => (hg.block g' h.lt ?_).trans h⟩
 intro hh
 injection hh with hh
 subst hh
 unfold Own at h ho
 rw [ho] at h
 injection h with h
 injection h with _ h2
 exact hne h2.symm
theorem MaM.gr {B B' : Nat} {w w' : World} {g p : Nat} {v1 v2 v3 v4 : Value} {m : Ma} (h : MaM B w v1 v2 v3 v4 m) (hr : Rdr B' w g p) (hg : w.grownBy w' (some g)) : MaM B w' v1 v2 v3 v4 m := by
 obtain ⟨A, n, c, ho, _⟩ := hr.ok
 exact h.oth (oth_gr hg ho) (by decide) (by decide) (by decide) (by decide)
def Drawn (B k : Nat) (w : World) (g p n : Nat) (v : Value) (w' : World) : Prop :=
 ∃ (m : Ma) (v1 v2 v3 v4 : Value) (q : Nat), v = .agg #[v1, v2, v3, .int .i64 m.c.hand, .int .i64 m.g.count, .int .i64 m.g.next, .int .i64 m.g.round, v4, .int .i64 m.sp] ∧ MaM B w' v1 v2 v3 v4 m ∧ Sz k m ∧ Rdr B w' g q ∧ q ≤ p + n ∧ w.grownBy w' (some g)
end Go.Proofs.YtnaagdmaggdbmaaGreatDoor
namespace Go.Proofs.YtnaagdmaggdbmaaGreatDoor
open Go.RowKit
set_option maxRecDepth 1000000
theorem wp_region_rel3 {P : Program} {ops : Array Oper} {Q : Exit → Act → World → Prop} {id : Nat} {a : Act} {w : World} (hm : P.follows .mixedOrders = true) (ds : List Nat) (rds : List (List Nat)) (C : (Nat → Bool) → World → Prop)
    (R : Nat → (Nat → Value) → World → Prop) (T : Nat → World → World → Prop) (hB : relB .any ops ds rds = true) (hC : C (fun _ => false) w.drew)
    (hR : ∀ j x y v, (∀ s ∈ rds.getD j [], x s = y s) → R j x v → R j y v)
    (hT : ∀ i j x v v', i ≠ j → R j x v → T i v v' → R j x v')
    (step : ∀ i o, ops[i]? = some o → ∀ D x v, D i = false → (∀ j oj, ops[j]? = some oj → D j = true → ∀ e ∈ oj.after, Region.binds .any e = true → D e.on = true) → C D v → (∀ k, (∃ e ∈ o.after, Region.binds .any e = true ∧ e.on = k) → R k x v) → ∀ K : Act → World → Prop,
      (∀ u v', T i v v' → C (fun j => if j = i then true else D j) v' → R i (upd x o.dst u) v' → K ((fillA ds x a).put o.dst u) v') → o.wp P (fillA ds x a) v K Q)
    (fin : ∀ D x v, (∀ i, i < ops.size → D i = true) → C D v → (∀ i, i < ops.size → R i x v) → Q .normal (fillA ds x a) v) : (Code.region id ops true).wp P Q a w := by
  refine wp_region_any hm ?_
  refine wpAny_inv (fun L a' v => ∃ x, a' = fillA ds x a ∧ C (fun j => L.getD j false) v ∧ L.size = ops.size ∧ (∀ j, L.getD j false = true → R j x v) ∧
    ∀ j o, ops[j]? = some o → L.getD j false = true → ∀ e ∈ o.after, Region.binds .any e = true → L.getD e.on false = true) ?_ ?_ _ _ _ _ (left_le _ _) ?_
  · rintro L a' v ⟨x, rfl, hCv, hsz, hL, hcl⟩ i hi
    obtain ⟨h0, o, ho, hdep⟩ := mem_ready.1 hi
    obtain ⟨b1, b2, b3, b4⟩ := relB_at hB ho
    have hisz := (Array.getElem?_eq_some_iff.1 ho).1
    have h0' : L.getD i false = false := by rw [← getD_both_ (by omega)]; exact h0
    unfold wpOp
    rw [ho]
    simp only [Region.wanted, b1, if_true]
    refine .inl (step i o ho _ x v h0' (fun j oj hoj hj e he hb => hcl j oj hoj hj e he hb) hCv (fun k ⟨e, he, hb, hk⟩ => hk ▸ hL _ (hdep e he hb)) _ (fun u v' hTv hCv' hRi => ?_))
    refine ⟨upd x o.dst u, fill_put b2, ?_, by simpa using hsz, fun j hj => ?_, fun j oj hoj hj e he hb => ?_⟩
    · have e : (fun j => (L.setIfInBounds i true).getD j false) = (fun j => if j = i then true else L.getD j false) := funext fun j => by
        by_cases hij : j = i
        · subst hij; simp [hsz, hisz]
        · rw [if_neg hij, getD_set_ne false (fun h => hij h.symm)]
      show C (fun j => (L.setIfInBounds i true).getD j false) v'
      rw [e]
      exact hCv'
    · by_cases hij : i = j
      · subst hij; exact hRi
      · rw [getD_set_ne false hij] at hj
        have hj2 : j < ops.size := by
          rcases Nat.lt_or_ge j L.size with h | h
          · omega
          · simp [Array.getElem?_eq_none h] at hj
        obtain ⟨oj, hoj⟩ : ∃ oj, ops[j]? = some oj := ⟨_, Array.getElem?_eq_getElem hj2⟩
        refine hR j x _ v' (fun s hs => ?_) (hT i j x v v' hij (hL j hj) hTv)
        by_cases hd : o.dst = some s
        · obtain ⟨e, he, hb, hon⟩ := (relB_at hB hoj).2.2.2 i o s ho hij hd hs
          have h1 := hcl j oj hoj hj e he hb
          rw [hon, ← getD_both_ (by omega), h0] at h1
          cases h1
        · unfold upd; rw [if_neg (fun h => hd h.symm)]
    · by_cases hij : i = j
      · subst hij
        rw [ho] at hoj
        injection hoj with hoj
        subst hoj
        exact getD_set_true (hdep e he hb)
      · rw [getD_set_ne false hij] at hj
        exact getD_set_true (hcl j oj hoj hj e he hb)
  · rintro L a' v ⟨x, rfl, hCv, hsz, hL, hcl⟩ hr
    have hall : ∀ n j, j < n → j < ops.size → L.getD j false = true := by
      intro n
      induction n with
      | zero => intro j h; exact absurd h (by omega)
      | succ n ih =>
        intro j hj hjs
        obtain ⟨oj, hoj⟩ : ∃ oj, ops[j]? = some oj := ⟨_, Array.getElem?_eq_getElem hjs⟩
        by_cases hd : L.getD j true = true
        · rw [← getD_both_ (by omega)]; exact hd
        · have hmem : j ∈ Region.ready .any ops L := mem_ready.2 ⟨by simpa using hd, oj, hoj, fun e he hb => by
            have h1 := (relB_at hB hoj).2.2.1 e he hb
            exact ih e.on (by omega) (by omega)⟩
          rw [hr] at hmem
          cases hmem
    exact fin _ x v (fun i hi => hall (i + 1) i (by omega) hi) hCv (fun i hi => hL i (hall (i + 1) i (by omega) hi))
  · refine ⟨fun s => a.tmps.getD s undef, (fill_self ds a).symm, ?_, by simp, fun j hj => ?_, fun j o ho hj => ?_⟩
    · refine Eq.mp (congrArg (fun d => C d w.drew) ?_) hC
      funext j
      rcases Nat.lt_or_ge j ops.size with h | h
      · simp [h]
      · simp [h]
    all_goals
      exfalso
      rcases Nat.lt_or_ge j ops.size with h | h
      · simp [h] at hj
      · simp [h] at hj
theorem wp_region_rel2 {P : Program} {ops : Array Oper} {Q : Exit → Act → World → Prop} {id : Nat} {a : Act} {w : World} (hm : P.follows .mixedOrders = true) (ds : List Nat) (rds : List (List Nat)) (C : (Nat → Bool) → World → Prop)
    (R : Nat → (Nat → Value) → World → Prop) (T : Nat → World → World → Prop) (hB : relB .any ops ds rds = true) (hC : C (fun _ => false) w.drew)
    (hR : ∀ j x y v, (∀ s ∈ rds.getD j [], x s = y s) → R j x v → R j y v)
    (hT : ∀ i j x v v', i ≠ j → R j x v → T i v v' → R j x v')
    (step : ∀ i o, ops[i]? = some o → ∀ D x v, D i = false → C D v → (∀ k, (∃ e ∈ o.after, Region.binds .any e = true ∧ e.on = k) → R k x v) → ∀ K : Act → World → Prop,
      (∀ u v', T i v v' → C (fun j => if j = i then true else D j) v' → R i (upd x o.dst u) v' → K ((fillA ds x a).put o.dst u) v') → o.wp P (fillA ds x a) v K Q)
    (fin : ∀ D x v, (∀ i, i < ops.size → D i = true) → C D v → (∀ i, i < ops.size → R i x v) → Q .normal (fillA ds x a) v) : (Code.region id ops true).wp P Q a w :=
  wp_region_rel3 hm ds rds C R T hB hC hR hT (fun i o ho D x v hD _ hCv hd K hK => step i o ho D x v hD hCv hd K hK) fin
theorem own_gr {w w' : World} {b g : Nat} {t : TypeId} {cs : Array Value} (h : Own w b t cs) (hg : w.grownBy w' (some g)) (hne : b ≠ g) : Own w' b t cs := (hg.block b h.lt (by simpa using hne)).trans h
def small (n : Int) : Prop := -1000 ≤ n ∧ n ≤ 1000001
theorem g_set {w0 w : World} {r : Option Nat} {b i : Nat} {u : Value} (hb : w0.heap.size ≤ b) (h : w0.grownBy w r) : w0.grownBy (w.setCell ⟨b, i, none⟩ u) r :=
 ⟨h.os, h.tape, h.output, by simpa using h.size, fun k hk hne => (Below.heap_setCell w _ u k (by intro e; have e : k = b := e; omega)).trans (h.block k hk hne)⟩
theorem rdr_set1 {B : Nat} {w : World} {g p b i : Nat} {u : Value} (hb : g < b) (h : Rdr B w g p) : Rdr B (w.setCell ⟨b, i, none⟩ u) g p := by
 have hl := rdr_lt h
 exact rdr_grownb h ⟨rfl, rfl, rfl, by simp, fun k hk hne => Below.heap_setCell w _ u k (by rintro rfl; exact hne rfl)⟩ hb
def cn (D : Nat → Bool) : List Nat → Nat
 | [] => 0
 | a :: l => (if D a = true then 1 else 0) + cn D l
theorem cn_le (D : Nat → Bool) : ∀ l : List Nat, cn D l ≤ l.length
  | [] => Nat.le_refl _
  | a :: l => by
    have := cn_le D l
    unfold cn
    simp only [List.length_cons]
    split <;> omega
theorem cn_same {D : Nat → Bool} {i : Nat} : ∀ {l : List Nat}, i ∉ l → cn (fun j => if j = i then true else D j) l = cn D l
  | [], _ => rfl
  | a :: l, h => by
    have h1 : a ≠ i := fun e => h (by simp [e])
    unfold cn
    rw [cn_same (fun h2 => h (by simp [h2])), if_neg h1]
theorem cn_more {D : Nat → Bool} {i : Nat} (hD : D i = false) : ∀ {l : List Nat}, i ∈ l → l.Nodup → cn (fun j => if j = i then true else D j) l = cn D l + 1
  | [], h, _ => by simp at h
  | a :: l, h, hn => by
    obtain ⟨h1, h2⟩ := List.nodup_cons.1 hn
    unfold cn
    by_cases ha : a = i
    · subst ha
      rw [cn_same h1, if_pos rfl, hD]
      simp; omega
    · rw [cn_more hD (by simp at h; rcases h with h | h; exact absurd h.symm ha; exact h) h2, if_neg ha]
      omega
theorem cn_zero : ∀ l : List Nat, cn (fun _ => false) l = 0
 | [] => rfl
 | a :: l => by unfold cn; rw [cn_zero l]; rfl
theorem cn_all {D : Nat → Bool} : ∀ {l : List Nat}, (∀ i ∈ l, D i = true) → cn D l = l.length
  | [], _ => rfl
  | a :: l, h => by
    unfold cn
    rw [cn_all (fun i hi => h i (by simp [hi])), h a (by simp), if_pos rfl]
    simp; omega
abbrev othR (v v' : World) : Prop := Oth (fun e => e = 141) v v'
def tX (si i : Nat) (v v' : World) : Prop := if i = si then stS 34 9 v v' else othR v v'
structure KX (si : Nat) where
 rd : List Nat
 P : Nat → (Nat → Value) → World → Prop
 loc : ∀ j x y v, (∀ s ∈ rd, x s = y s) → P j x v → P j y v
 kb : ∀ j x v v', P j x v → othR v v' → P j x v'
 ks : ∀ j x v v', j ≠ si → P j x v → stS 34 9 v v' → P j x v'
def kxs {si : Nat} (ks : List (KX si)) (j : Nat) (x : Nat → Value) (v : World) : Prop := match ks[j]? with | some k => k.P j x v | none => True
theorem kxs_loc {si : Nat} {ks : List (KX si)} : ∀ j x y v, (∀ s ∈ (ks.map KX.rd).getD j [], x s = y s) → kxs ks j x v → kxs ks j y v := by
 intro j x y v h hp
 unfold kxs at hp ⊢
 cases hk : ks[j]? with
 | none => trivial
 | some k =>
  rw [hk] at hp
  refine k.loc j x y v (fun s hs => h s ?_) hp
  rw [List.getD_eq_getElem?_getD, List.getElem?_map, hk]
  exact hs
theorem kxs_keep {si : Nat} {ks : List (KX si)} : ∀ i j x v v', i ≠ j → kxs ks j x v → tX si i v v' → kxs ks j x v' := by
 intro i j x v v' hij hp ht
 unfold kxs at hp ⊢
 cases hk : ks[j]? with
 | none => trivial
 | some k =>
  rw [hk] at hp
  unfold tX at ht
  split at ht
  ·rename_i hi
   exact k.ks j x v v' (by omega) hp ht
  ·exact k.kb j x v v' hp ht
theorem tX_oth {si i : Nat} {v v' : World} (hi : i ≠ si) (h : othR v v') : tX si i v v' := by unfold tX; rw [if_neg hi]; exact h
theorem tX_below {si i : Nat} {v v' : World} (hi : i ≠ si) (h : Below v.heap.size v v') : tX si i v v' := tX_oth hi (Oth.of_below h)
theorem tX_same {si i : Nat} {v : World} (hi : i ≠ si) : tX si i v v := tX_below hi bR
theorem tX_store {si : Nat} {v v' : World} (h : stS 34 9 v v') : tX si si v v' := by unfold tX; rw [if_pos rfl]; exact h
section
variable {si : Nat}
def KX.eq (s : Nat) (u0 : Value) : KX si where
 rd := [s]
 P := fun _ x _ => x s = u0
 loc := fun _ x y _ h hp => by rw [← h s (by simp)]; exact hp
 kb := fun _ _ _ _ h _ => h
 ks := fun _ _ _ _ _ h _ => h
def KX.sat (s : Nat) (q : Value → Prop) : KX si where
 rd := [s]
 P := fun _ x _ => q (x s)
 loc := fun _ x y _ h hp => by rw [← h s (by simp)]; exact hp
 kb := fun _ _ _ _ h _ => h
 ks := fun _ _ _ _ _ h _ => h
def KX.lit (s : Nat) (cs : Array Value) (n : Nat) : KX si where
 rd := [s]
 P := fun _ x v => ∃ gg : Nat, x s = .slice (some ⟨gg, 0, none⟩) n n ∧ Own v gg 3 cs
 loc := fun _ x y _ h hp => by rw [← h s (by simp)]; exact hp
 kb := fun _ _ _ _ ⟨gg, h1, h2⟩ ho => ⟨gg, h1, ho.2 _ _ _ h2 (by decide)⟩
 ks := fun _ _ _ _ _ ⟨gg, h1, h2⟩ hs => ⟨gg, h1, hs.1.2 _ _ _ h2 (by decide)⟩
def KX.tup (s B : Nat) (f : Ma → Value → Value → Value → Value → Value → Prop) : KX si where
 rd := [s]
 P := fun _ x v => ∃ (m : Ma) (e1 e2 e3 e4 : Value), f m e1 e2 e3 e4 (x s) ∧ MaM B v e1 e2 e3 e4 m
 loc := fun _ x y _ h hp => by rw [← h s (by simp)]; exact hp
 kb := fun _ _ _ _ ⟨m, e1, e2, e3, e4, h1, h2⟩ ho => ⟨m, e1, e2, e3, e4, h1, h2.oth ho (by decide) (by decide) (by decide) (by decide)⟩
 ks := fun _ _ _ _ _ ⟨m, e1, e2, e3, e4, h1, h2⟩ hs => ⟨m, e1, e2, e3, e4, h1, h2.oth hs.1 (by decide) (by decide) (by decide) (by decide)⟩
def KX.part (t s i : Nat) : KX si where
 rd := [t, s]
 P := fun _ x _ => ∃ vs : Array Value, x t = .tuple vs ∧ vs[i]? = some (x s)
 loc := fun _ x y _ h hp => by rw [← h s (by simp), ← h t (by simp)]; exact hp
 kb := fun _ _ _ _ h _ => h
 ks := fun _ _ _ _ _ h _ => h
def KX.box (s b : Nat) : KX si where
 rd := [s]
 P := fun _ x v => ∃ (gb : Nat) (cs : Array Value), x s = .pointer (some ⟨gb, 0, none⟩) ∧ b ≤ gb ∧ cs.size = 9 ∧ Own v gb 34 cs
 loc := fun _ x y _ h hp => by rw [← h s (by simp)]; exact hp
 kb := fun _ _ _ _ ⟨gb, cs, h1, h2, h3, h4⟩ ho => ⟨gb, cs, h1, h2, h3, ho.2 _ _ _ h4 (by decide)⟩
 ks := fun _ _ _ _ _ ⟨gb, cs, h1, h2, h3, h4⟩ hs => let ⟨cs', e1, e2⟩ := hs.2 gb cs h3 h4; ⟨gb, cs', h1, h2, e1, e2⟩
def KX.fst (t s B : Nat) (f : Ma → Value → Value → Value → Value → Value → Prop) : KX si where
 rd := [t, s]
 P := fun _ x v => ∃ (m : Ma) (e1 e2 e3 e4 : Value), f m e1 e2 e3 e4 (x t) ∧ x s = .agg #[e1, e2, e3, .int .i64 m.c.hand, .int .i64 m.g.count, .int .i64 m.g.next, .int .i64 m.g.round, e4, .int .i64 m.sp] ∧ MaM B v e1 e2 e3 e4 m
 loc := fun _ x y _ h hp => by rw [← h s (by simp), ← h t (by simp)]; exact hp
 kb := fun _ _ _ _ ⟨m, e1, e2, e3, e4, h1, h2, h3⟩ ho => ⟨m, e1, e2, e3, e4, h1, h2, h3.oth ho (by decide) (by decide) (by decide) (by decide)⟩
 ks := fun _ _ _ _ _ ⟨m, e1, e2, e3, e4, h1, h2, h3⟩ hs => ⟨m, e1, e2, e3, e4, h1, h2, h3.oth hs.1 (by decide) (by decide) (by decide) (by decide)⟩
def KX.stored (t s b B : Nat) (f : Ma → Value → Value → Value → Value → Value → Prop) : KX si where
 rd := [t, s]
 P := fun j x v => j = si ∧ ∃ (gb : Nat) (m : Ma) (e1 e2 e3 e4 : Value), x s = .pointer (some ⟨gb, 0, none⟩) ∧ b ≤ gb ∧ f m e1 e2 e3 e4 (x t) ∧ MaM B v e1 e2 e3 e4 m ∧ Own v gb 34 #[e1, e2, e3, .int .i64 m.c.hand, .int .i64 m.g.count, .int .i64 m.g.next, .int .i64 m.g.round, e4, .int .i64 m.sp]
 loc := fun _ x y _ h hp => by rw [← h s (by simp), ← h t (by simp)]; exact hp
 kb := fun _ _ _ _ ⟨hj, gb, m, e1, e2, e3, e4, h1, h2, h3, h4, h5⟩ ho => ⟨hj, gb, m, e1, e2, e3, e4, h1, h2, h3, h4.oth ho (by decide) (by decide) (by decide) (by decide), ho.2 _ _ _ h5 (by decide)⟩
 ks := fun _ _ _ _ hne ⟨hj, _⟩ _ => absurd hj hne
def KX.put (t nb B : Nat) (f : Ma → Value → Value → Value → Value → Value → Prop) : KX si where
 rd := [t]
 P := fun j x v => j = si ∧ ∃ (m : Ma) (e1 e2 e3 e4 : Value), f m e1 e2 e3 e4 (x t) ∧ MaM B v e1 e2 e3 e4 m ∧ Own v nb 34 #[e1, e2, e3, .int .i64 m.c.hand, .int .i64 m.g.count, .int .i64 m.g.next, .int .i64 m.g.round, e4, .int .i64 m.sp]
 loc := fun _ x y _ h hp => by rw [← h t (by simp)]; exact hp
 kb := fun _ _ _ _ ⟨hj, m, e1, e2, e3, e4, h3, h4, h5⟩ ho => ⟨hj, m, e1, e2, e3, e4, h3, h4.oth ho (by decide) (by decide) (by decide) (by decide), ho.2 _ _ _ h5 (by decide)⟩
 ks := fun _ _ _ _ hne ⟨hj, _⟩ _ => absurd hj hne
end
structure DC (B : Nat) (w : World) (g q : Nat) (F : List (Nat × TypeId × Array Value)) (vb vf vl vo : Value) (m : Ma) (v : World) : Prop where
 rd : Rdr B v g q
 gr : w.grownBy v (some g)
 mm : MaM B v vb vf vl vo m
 ob : ∀ e ∈ F, Own v e.1 e.2.1 e.2.2
 ty : ∀ e ∈ F, e.2.1 ≠ 141
section
variable {B g q : Nat} {F : List (Nat × TypeId × Array Value)} {w : World} {vb vf vl vo : Value} {m : Ma} {v v' : World}
theorem DC.below (h : DC B w g q F vb vf vl vo m v) (hb : Below v.heap.size v v') : DC B w g q F vb vf vl vo m v' :=
 ⟨rdr_below h.rd hb, gT h.gr (gr_below hb), h.mm.now hb, fun e he => (h.ob e he).below hb, h.ty⟩
theorem DC.oth (h : DC B w g q F vb vf vl vo m v) (hg : v.grownBy v' (some g)) : othR v v' := by
 obtain ⟨A, n, c, ho, _⟩ := h.rd.ok
 exact oth_gr hg ho
theorem DC.read (h : DC B w g q F vb vf vl vo m v) {q' : Nat} (hr : Rdr B v' g q') (hg : v.grownBy v' (some g)) : DC B w g q' F vb vf vl vo m v' :=
 ⟨hr, gT h.gr hg, h.mm.gr h.rd hg, fun e he => (h.oth hg).2 _ _ _ (h.ob e he) (h.ty e he), h.ty⟩
theorem DC.set1 (h : DC B w g q F vb vf vl vo m v) {b i : Nat} {u : Value} (hw : w.heap.size ≤ b) (hg : g < w.heap.size) (hm : ∀ e ∈ F, e.1 ≠ b) {cs : Array Value} (ho : Own v b 34 cs) : DC B w g q F vb vf vl vo m (v.setCell ⟨b, i, none⟩ u) :=
 ⟨rdr_set1 (by omega) h.rd, g_set hw h.gr, h.mm.farT ho, fun e he => (h.ob e he).far (hm e he), h.ty⟩
theorem DC.set9 (h : DC B w g q F vb vf vl vo m v) {b : Nat} (hw : w.heap.size ≤ b) (hg : g < w.heap.size) (hm : ∀ e ∈ F, e.1 ≠ b) {cs : Array Value} (ho : Own v b 34 cs) (u0 u1 u2 u3 u4 u5 u6 u7 u8 : Value) :
  DC B w g q F vb vf vl vo m (((((((((v.setCell ⟨b, 0, none⟩ u0).setCell ⟨b, 1, none⟩ u1).setCell ⟨b, 2, none⟩ u2).setCell ⟨b, 3, none⟩ u3).setCell ⟨b, 4, none⟩ u4).setCell ⟨b, 5, none⟩ u5).setCell ⟨b, 6, none⟩ u6).setCell ⟨b, 7, none⟩ u7).setCell ⟨b, 8, none⟩ u8) := by
 have o1 := ho.set_ 0 u0
 have o2 := o1.set_ 1 u1
 have o3 := o2.set_ 2 u2
 have o4 := o3.set_ 3 u3
 have o5 := o4.set_ 4 u4
 have o6 := o5.set_ 5 u5
 have o7 := o6.set_ 6 u6
 have o8 := o7.set_ 7 u7
 exact ((((((((h.set1 hw hg hm ho).set1 hw hg hm o1).set1 hw hg hm o2).set1 hw hg hm o3).set1 hw hg hm o4).set1 hw hg hm o5).set1 hw hg hm o6).set1 hw hg hm o7).set1 hw hg hm o8
theorem DC.own (h : DC B w g q F vb vf vl vo m v) {b : Nat} {t : TypeId} {cs : Array Value} (he : (b, t, cs) ∈ F) : Own v b t cs := h.ob _ he
end
theorem stS_set9 {v : World} {b : Nat} {cs : Array Value} (ho : Own v b 34 cs) (u0 u1 u2 u3 u4 u5 u6 u7 u8 : Value) :
  stS 34 9 v (((((((((v.setCell ⟨b, 0, none⟩ u0).setCell ⟨b, 1, none⟩ u1).setCell ⟨b, 2, none⟩ u2).setCell ⟨b, 3, none⟩ u3).setCell ⟨b, 4, none⟩ u4).setCell ⟨b, 5, none⟩ u5).setCell ⟨b, 6, none⟩ u6).setCell ⟨b, 7, none⟩ u7).setCell ⟨b, 8, none⟩ u8) := by
 have o1 := ho.set_ 0 u0
 have o2 := o1.set_ 1 u1
 have o3 := o2.set_ 2 u2
 have o4 := o3.set_ 3 u3
 have o5 := o4.set_ 4 u4
 have o6 := o5.set_ 5 u5
 have o7 := o6.set_ 6 u6
 have o8 := o7.set_ 7 u7
 exact stS_trans (stS_trans (stS_trans (stS_trans (stS_trans (stS_trans (stS_trans (stS_trans (stS_set ho) (stS_set o1)) (stS_set o2)) (stS_set o3)) (stS_set o4)) (stS_set o5)) (stS_set o6)) (stS_set o7)) (stS_set o8)
def okM (m : Ma) (e1 e2 e3 e4 u : Value) : Prop := ∃ ok : Bool, u = .tuple #[.agg #[e1, e2, e3, .int .i64 m.c.hand, .int .i64 m.g.count, .int .i64 m.g.next, .int .i64 m.g.round, e4, .int .i64 m.sp], .bool ok] ∧ (ok = true → Sz 17 m)
def okM4 (m : Ma) (e1 e2 e3 e4 u : Value) : Prop := ∃ (a b : Int) (ok : Bool), u = .tuple #[.agg #[e1, e2, e3, .int .i64 m.c.hand, .int .i64 m.g.count, .int .i64 m.g.next, .int .i64 m.g.round, e4, .int .i64 m.sp], .int .i64 a, .int .i64 b, .bool ok] ∧ (ok = true → Sz 17 m)
def isN (u : Value) : Prop := ∃ z : Int, u = .int .i64 z
def isK (u : Value) : Prop := ∃ a b : Int, u = .agg #[.int .i64 a, .int .i64 b]
theorem tpl_get {vs ws : Array Value} {i : Nat} {u z : Value} {y : Value} (h1 : y = .tuple vs) (h2 : vs[i]? = some u) (h3 : y = .tuple ws) (h4 : ws[i]? = some z) : u = z := by
 rw [h1] at h3
 injection h3 with h3
 subst h3
 rw [h2] at h4
 injection h4
def CX (B : Nat) (w : World) (g q : Nat) (F : List (Nat × TypeId × Array Value)) (vb vf vl vo : Value) (m : Ma) (l : List Nat) (si : Nat) (nb : Option Nat) (D : Nat → Bool) (v : World) : Prop :=
 DC B w g (q + cn D l) F vb vf vl vo m v ∧ (∀ b, nb = some b → D si = false → ∃ cs : Array Value, cs.size = 9 ∧ Own v b 34 cs)
section
variable {B g q si i : Nat} {w v v' : World} {F : List (Nat × TypeId × Array Value)} {vb vf vl vo : Value} {m : Ma} {l : List Nat} {nb : Option Nat} {D : Nat → Bool}
theorem upd_f (hs : i ≠ si) (h : (fun j => if j = i then true else D j) si = false) : D si = false := by
 simp only at h
 rw [if_neg (fun e => hs e.symm)] at h
 exact h
theorem CX.same (h : CX B w g q F vb vf vl vo m l si nb D v) (hi : i ∉ l) (hs : i ≠ si) : CX B w g q F vb vf vl vo m l si nb (fun j => if j = i then true else D j) v := by
 unfold CX
 rw [cn_same hi]
 exact ⟨h.1, fun b hb hd => h.2 b hb (upd_f hs hd)⟩
theorem CX.below (h : CX B w g q F vb vf vl vo m l si nb D v) (hb : Below v.heap.size v v') (hi : i ∉ l) (hs : i ≠ si) : CX B w g q F vb vf vl vo m l si nb (fun j => if j = i then true else D j) v' := by
 unfold CX
 rw [cn_same hi]
 exact ⟨h.1.below hb, fun b hn hd => let ⟨cs, h1, h2⟩ := h.2 b hn (upd_f hs hd); ⟨cs, h1, h2.below hb⟩⟩
theorem CX.read (h : CX B w g q F vb vf vl vo m l si nb D v) (hD : D i = false) (hi : i ∈ l) (hn : l.Nodup) (hs : i ≠ si) (hr : Rdr B v' g (q + cn D l + 1)) (hg : v.grownBy v' (some g)) : CX B w g q F vb vf vl vo m l si nb (fun j => if j = i then true else D j) v' := by
 unfold CX
 rw [cn_more hD hi hn, ← Nat.add_assoc]
 exact ⟨h.1.read hr hg, fun b hb hd => let ⟨cs, h1, h2⟩ := h.2 b hb (upd_f hs hd); ⟨cs, h1, (h.1.oth hg).2 _ _ _ h2 (by decide)⟩⟩
theorem CX.store {b : Nat} (h : CX B w g q F vb vf vl vo m l si nb D v) (hi : si ∉ l) (hw : w.heap.size ≤ b) (hg : g < w.heap.size) (hm : ∀ e ∈ F, e.1 ≠ b) {cs : Array Value} (ho : Own v b 34 cs) (u0 u1 u2 u3 u4 u5 u6 u7 u8 : Value) :
  CX B w g q F vb vf vl vo m l si nb (fun j => if j = si then true else D j) (((((((((v.setCell ⟨b, 0, none⟩ u0).setCell ⟨b, 1, none⟩ u1).setCell ⟨b, 2, none⟩ u2).setCell ⟨b, 3, none⟩ u3).setCell ⟨b, 4, none⟩ u4).setCell ⟨b, 5, none⟩ u5).setCell ⟨b, 6, none⟩ u6).setCell ⟨b, 7, none⟩ u7).setCell ⟨b, 8, none⟩ u8) := by
 unfold CX
 rw [cn_same hi]
 exact ⟨h.1.set9 hw hg hm ho u0 u1 u2 u3 u4 u5 u6 u7 u8, fun _ _ hd => by simp at hd⟩
end
theorem len_nine {cs : List Value} (h : cs.length = 9) : ∃ c0 c1 c2 c3 c4 c5 c6 c7 c8, cs = [c0, c1, c2, c3, c4, c5, c6, c7, c8] := by
 match cs, h with
 | [c0, c1, c2, c3, c4, c5, c6, c7, c8], _ => exact ⟨c0, c1, c2, c3, c4, c5, c6, c7, c8, rfl⟩
def PageP (B : Nat) (w : World) (g p : Nat) (e : Ending) (w' : World) : Prop := ∃ z : Int, e = .returned (.int .i64 z) ∧ Rdr B w' g (p + 1) ∧ w.grownBy w' (some g)
theorem l6Page_any (B g p : Nat) (w : World) (h : Rdr B w g p) (hp : p ≤ 1000000) : Calls Tryz.prog 180 #[.pointer (some ⟨g, 0, none⟩)] w (PageP B w g p) := by
 have hl := rdr_lt h
 have HR := Lib.hid (rdr_alloc h (.cells #[.int .i64 1, .int .i64 2, .int .i64 3, .int .i64 4, .int .i64 200, .int .i64 201, .int .i64 5] 3))
 clear h
 go_enter Tryz.func180, Tryz.ntmps180
 go_wp2_with fail
 refine (num_any B g p w.heap.size [1, 2, 3, 4, 200, 201, 5] _ HR.out (Own.new_ w _ _) (by omega) hp (by simp) (by simp)).mono ?_
 rintro e w' ⟨r, rfl, hr, hrd, hg⟩
 have HRD := Lib.hid hrd
 have HG := Lib.hid (gT (gA gR) hg)
 clear hrd hg
 go_wp2
 go_ret
 exact ⟨r, rfl, HRD.out, HG.out⟩
end Go.Proofs.YtnaagdmaggdbmaaGreatDoor
namespace Go.Proofs.YtnaagdmaggdbmaaGreatDoor
open Go.RowKit
def IsRow (k : IntKind) (w : World) (a : Option Addr) (len cap : Nat) (zs : List Int) : Prop :=
 (a = none ∧ len = 0 ∧ cap = 0 ∧ zs = []) ∨
 ∃ x, a = some x ∧ len ≤ cap ∧ cap ≤ maxLen ∧ zs.length = cap ∧ (∀ i, i < zs.length → w.cell? (x.add i) = some (.int k (zs.getD i 0))) ∧ ∀ n ∈ zs, (Lit.int k n).wf = true
theorem row_cap {w : World} {a : Option Addr} {len cap : Nat} {zs : List Int} (h : IsRow .u8 w a len cap zs) : len ≤ cap := by
 rcases h with ⟨_, rfl, rfl, _⟩ | ⟨x, _, h, _⟩
 ·exact Nat.le_refl _
 ·exact h
theorem wf_u8_in {n : Int} (h : (Lit.int .u8 n).wf = true) : 0 ≤ n ∧ n ≤ 255 := by
 simp [Lit.wf, IntKind.min, IntKind.max, IntKind.signed, IntKind.bits] at h
 omega
theorem row_bytes {w : World} {a : Option Addr} {len cap : Nat} {zs : List Int} (h : IsRow .u8 w a len cap zs) : Bytes w.heap.size w a len := by
 rcases h with ⟨_, rfl, _, _⟩ | ⟨x, rfl, hlc, _, hz, hc, hw⟩
 ·exact ⟨fun j hj => absurd hj (by omega)⟩
 ·refine ⟨fun j hj => ?_⟩
  obtain ⟨b, o, s⟩ := x
  have h0 := hc 0 (by omega)
  have hs : s = none := by simpa [Addr.add] using World.cell?_spot h0
  subst hs
  have h1 := hc j (by omega)
  rw [add_lit_] at h1
  have hm : zs.getD j 0 ∈ zs := by
   have e : zs.getD j 0 = zs[j]'(by omega) := by rw [List.getD_eq_getElem?_getD, List.getElem?_eq_getElem (by omega)]; rfl
   rw [e]; exact List.getElem_mem _
  obtain ⟨h2, h3⟩ := wf_u8_in (hw _ hm)
  obtain ⟨v, hv⟩ := Int.eq_ofNat_of_zero_le h2
  rw [hv] at h1 h3
  exact ⟨b, o, v, rfl, World.block_lt_of_cell? w _ h1, h1, by omega⟩
end Go.Proofs.YtnaagdmaggdbmaaGreatDoor
