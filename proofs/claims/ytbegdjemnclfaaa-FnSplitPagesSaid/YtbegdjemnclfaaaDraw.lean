import Derived.Test.YtbegdjemnclfaaaOwn
import Derived.Test.YtbegdjemnclfaaaLeaf
namespace Go.Proofs.Ytbegdjemnclfaaa
open Go.RowKit

/-- bytes that came in -/
structure Bytes (B : Nat) (w : World) (A : Option Addr) (n : Nat) : Prop where
  at_ : ∀ j, j < n → ∃ (b o v : Nat), A = some ⟨b, o, none⟩ ∧ b < B ∧ w.cell? ⟨b, o + j, none⟩ = some (.int .u8 (v : Int)) ∧ v ≤ 255
theorem Bytes.keep {B : Nat} {w w' : World} {A : Option Addr} {n : Nat} (h : Bytes B w A n) (hk : ∀ p : Addr, p.block < B → w'.cell? p = w.cell? p) : Bytes B w' A n :=
  ⟨fun j hj => let ⟨b, o, v, e, hb, hc, h1⟩ := h.at_ j hj; ⟨b, o, v, e, hb, (hk _ hb).trans hc, h1⟩⟩

theorem xor_nat (a b : Nat) (ha : a < 9223372036854775808) (hb : b < 9223372036854775808) : bits .xor .i64 (a : Int) (b : Int) = ((a ^^^ b : Nat) : Int) := by
  have hx : a ^^^ b < 2 ^ 63 := Nat.xor_lt_two_pow (by omega) (by omega)
  have h1 : (BitVec.ofInt 64 (a : Int)).toNat = a := by rw [BitVec.ofInt_natCast, BitVec.toNat_ofNat]; exact Nat.mod_eq_of_lt (by omega)
  have h2 : (BitVec.ofInt 64 (b : Int)).toNat = b := by rw [BitVec.ofInt_natCast, BitVec.toNat_ofNat]; exact Nat.mod_eq_of_lt (by omega)
  show IntKind.i64.wrap ((BitVec.ofInt 64 (a : Int) ^^^ BitVec.ofInt 64 (b : Int)).toNat : Int) = _
  rw [BitVec.toNat_xor, h1, h2]
  exact IntWalk.i64_in _ (by omega)
theorem rem_nat (a b : Nat) (hb : 0 < b) (W : World) : (binOp .rem 3 (.int .i64 (a : Int)) (.int .i64 (b : Int))).run Try.prog W = .ok (.int .i64 ((a % b : Nat) : Int)) W := by
  have h1 : ((a : Int)).tmod b = ((a % b : Nat) : Int) := rfl
  simp only [binOp]
  simp [go_sem, h1]
  omega
theorem quo_nat (a b : Nat) (hb : 0 < b) (ha : a ≤ 1000000000) (W : World) : (binOp .quo 3 (.int .i64 (a : Int)) (.int .i64 (b : Int))).run Try.prog W = .ok (.int .i64 ((a / b : Nat) : Int)) W := by
  have h1 : ((a : Int)).tdiv b = ((a / b : Nat) : Int) := rfl
  have h2 : IntKind.i64.wrap ((a / b : Nat) : Int) = ((a / b : Nat) : Int) := IntWalk.i64_in _ (by have := Nat.div_le_self a b; generalize a / b = q at *; omega)
  simp only [binOp]
  have h3 : ¬ b = 0 := by omega
  rw [show ((a / b : Nat) : Int) = (a : Int) / (b : Int) from rfl] at h1 h2 ⊢
  simp [go_sem, h1, h2, h3]

/-- the reader in memory -/
structure Rdr (B : Nat) (w : World) (g : Nat) (p : Nat) : Prop where
  ok : ∃ A n c, Own w g 76 #[.slice A n c, .int .i64 p] ∧ Bytes B w A n ∧ n ≤ 2000 ∧ B ≤ g

def Picked (n : Int) (B : Nat) (w : World) (g p : Nat) (e : Ending) (w' : World) : Prop :=
  ∃ r : Int, e = .returned (.int .i64 r) ∧ 0 ≤ r ∧ (1 ≤ n → r < n) ∧ Rdr B w' g (p + 1) ∧ w.grownBy w' (some g)

theorem rdr_set {B : Nat} {w : World} {g p : Nat} {A : Option Addr} {n c : Nat} (ho : Own w g 76 #[.slice A n c, .int .i64 p]) (hb : Bytes B w A n) (hn : n ≤ 2000) (hg : B ≤ g) (k : Nat) :
    Rdr B ((w.setCell ⟨g, 1, none⟩ (.int .i64 ((p : Int) + 1))).drewN k) g (p + 1) ∧ w.grownBy ((w.setCell ⟨g, 1, none⟩ (.int .i64 ((p : Int) + 1))).drewN k) (some g) := by
  refine ⟨⟨A, n, c, ?_, hb.keep fun q hq => ?_, hn, hg⟩, ?_⟩
  · have h := ho.set_ 1 (.int .i64 ((p : Int) + 1))
    have e : ((p : Int) + 1) = ((p + 1 : Nat) : Int) := by omega
    rw [e] at h ⊢
    exact h
  · exact World.cell?_setCell_other w ⟨g, 1, none⟩ q _ (fun e => by subst e; exact absurd hq (by simp; omega))
  · exact ⟨rfl, rfl, rfl, by simp [World.setCell], fun i _ hne => Below.heap_setCell w ⟨g, 1, none⟩ _ i (by rintro rfl; exact hne rfl)⟩
theorem emod_in {v n : Int} (hn : 1 ≤ n) : 0 ≤ v % n ∧ (1 ≤ n → v % n < n) := ⟨Int.emod_nonneg _ (by omega), fun _ => Int.emod_lt_of_pos _ (by omega)⟩

set_option maxHeartbeats 1000000 in
theorem pick_any (B g p : Nat) (n : Int) (w : World) (h : Rdr B w g p) (hp : p ≤ 1000000) (hn : n ≤ 1000000) :
    Calls Try.prog 51 #[.pointer (some ⟨g, 0, none⟩), .int .i64 n] w (Picked n B w g p) := by
  obtain ⟨A, len, c, ho, hb, hl, hg⟩ := h.ok
  have c0 := ho.cell_ 0 (v := .slice A len c) rfl
  have c1 := ho.cell_ 1 (v := .int .i64 p) rfl
  have f0 := ho.free 0
  have f1 := ho.free 1
  have HO := Lib.hid ho
  have HB := Lib.hid hb
  clear ho hb h
  by_cases h1 : n < 1
  · go_enter Try.func51, Try.ntmps51
    go_wp2
    go_ret
    exact ⟨0, rfl, by omega, fun h => by omega, rdr_set HO.out HB.out hl hg 0⟩
  · by_cases hz : len = 0
    · subst hz
      go_enter Try.func51, Try.ntmps51
      go_wp2
      go_ret
      exact ⟨0, rfl, by omega, fun h => by omega, rdr_set HO.out HB.out hl hg 0⟩
    · have hpos : (0 : Int) < (len : Int) := by omega
      have hne : ((len : Int) == 0) = false := by simp; omega
      by_cases hlt : p < len
      · obtain ⟨b, o, v, rfl, hbb, hc, hv1⟩ := HB.out.at_ p hlt
        go_enter Try.func51, Try.ntmps51
        go_wp2
        go_ret
        exact ⟨_, rfl, (emod_in (by omega)).1, (emod_in (by omega)).2, rdr_set HO.out HB.out hl hg 0⟩
      · obtain ⟨b, o, v, rfl, hbb, hc, hv1⟩ := HB.out.at_ (p % len) (Nat.mod_lt _ (by omega))
        obtain ⟨b', o', v2, e', _, hc2, hv21⟩ := HB.out.at_ ((p * 7 + 3) % len) (Nat.mod_lt _ (by omega))
        injection e' with e'
        injection e' with e1 e2
        subst e1 e2
        have r1 : ((p : Int)).tmod (len : Int) = ((p % len : Nat) : Int) := rfl
        have r2 : ((p : Int) * 7 + 3).tmod (len : Int) = (((p * 7 + 3) % len : Nat) : Int) := by
          rw [show (p : Int) * 7 + 3 = ((p * 7 + 3 : Nat) : Int) by omega]; rfl
        have r3 : ((p : Int)).tdiv (len : Int) = ((p / len : Nat) : Int) := rfl
        have hm1 : p % len < len := Nat.mod_lt _ (by omega)
        have hm2 : (p * 7 + 3) % len < len := Nat.mod_lt _ (by omega)
        have hq : p / len ≤ p := Nat.div_le_self _ _
        generalize p % len = j1 at *
        generalize (p * 7 + 3) % len = j2 at *
        generalize p / len = j3 at *
        have a1 : IntKind.i64.wrap ((p : Int) * 7) = (p : Int) * 7 := IntWalk.i64_in _ (by omega)
        have a2 : IntKind.i64.wrap ((p : Int) * 7 + 3) = (p : Int) * 7 + 3 := IntWalk.i64_in _ (by omega)
        have a3 : IntKind.i64.wrap ((v : Int) * 131) = (v : Int) * 131 := IntWalk.i64_in _ (by omega)
        have a4 : IntKind.i64.wrap ((v2 : Int) * 1117) = (v2 : Int) * 1117 := IntWalk.i64_in _ (by omega)
        have a5 : IntKind.i64.wrap ((v : Int) * 131 + (v2 : Int) * 1117) = (v : Int) * 131 + (v2 : Int) * 1117 := IntWalk.i64_in _ (by omega)
        have a6 : IntKind.i64.wrap ((p : Int) * 29) = (p : Int) * 29 := IntWalk.i64_in _ (by omega)
        have a7 : IntKind.i64.wrap ((v : Int) * 131 + (v2 : Int) * 1117 + (p : Int) * 29) = (v : Int) * 131 + (v2 : Int) * 1117 + (p : Int) * 29 := IntWalk.i64_in _ (by omega)
        have a8 : IntKind.i64.wrap ((j3 : Int) * 53) = (j3 : Int) * 53 := IntWalk.i64_in _ (by omega)
        have a9 : IntKind.i64.wrap ((v : Int) * 131 + (v2 : Int) * 1117 + (p : Int) * 29 + (j3 : Int) * 53) = (v : Int) * 131 + (v2 : Int) * 1117 + (p : Int) * 29 + (j3 : Int) * 53 := IntWalk.i64_in _ (by omega)
        go_enter Try.func51, Try.ntmps51
        go_wp2
        go_quiet (fail)
        clear r1 r2 r3 a1 a2 a3 a4 a5 a6 a7 a8 a9 hc hc2 c0 c1 f0 f1
        have hE : ∃ X : Nat, (v : Int) * 131 + (v2 : Int) * 1117 + (p : Int) * 29 + (j3 : Int) * 53 = (X : Int) ∧ X ≤ 1000000000 := ⟨v * 131 + v2 * 1117 + p * 29 + j3 * 53, by omega, by omega⟩
        obtain ⟨X, hX, hXb⟩ := hE
        rw [hX]
        clear hX
        have hx : bits .xor .i64 (X : Int) ((X : Int) / 64) = ((X ^^^ (X / 64) : Nat) : Int) := by
          rw [show ((X : Int) / 64) = ((X / 64 : Nat) : Int) from rfl]
          exact xor_nat X (X / 64) (by omega) (by omega)
        generalize X ^^^ (X / 64) = R at hx
        go_wp2
        go_ret
        exact ⟨_, rfl, (emod_in (by omega)).1, (emod_in (by omega)).2, rdr_set HO.out HB.out hl hg _⟩
end Go.Proofs.Ytbegdjemnclfaaa
