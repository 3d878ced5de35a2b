import Derived.Test.YtbegdjemnclfaaaDraw
import Derived.Test.YtbegdjemnclfaaaMove
namespace Go.Proofs.Ytbegdjemnclfaaa
open Go.RowKit

theorem cutA_zero (A : Option Addr) (c sz : Nat) : cutA A c 0 sz = A := by
  unfold cutA
  split
  · rfl
  · cases A <;> simp [Addr.add]
theorem byte_info : (Try.prog.info? 5).map (fun i => (i.zero, i.size, i.bytes)) = some (some (.int .u8 0), 1, 1) := by kernel_rfl

theorem rdr_grown {B : Nat} {w w' : World} {g p : Nat} (h : Rdr B w g p) (hg : w.grownBy w' none) : Rdr B w' g p := by
  obtain ⟨A, n, c, ho, hb, hn, hB⟩ := h.ok
  refine ⟨A, n, c, (hg.block g ho.lt (by simp)).trans ho, hb.keep fun q hq => World.cell?_of_block (hg.block q.block (by have := ho.lt; omega) (by simp)), hn, hB⟩
theorem rdr_grownb {B : Nat} {w w' : World} {g p k : Nat} (h : Rdr B w g p) (hg : w.grownBy w' (some k)) (hk : g < k) : Rdr B w' g p := by
  obtain ⟨A, n, c, ho, hb, hn, hB⟩ := h.ok
  refine ⟨A, n, c, (hg.block g ho.lt (by simp; omega)).trans ho, hb.keep fun q hq => World.cell?_of_block (hg.block q.block (by have := ho.lt; omega) (by simp; omega)), hn, hB⟩
theorem rdr_alloc {B : Nat} {w : World} {g p : Nat} (h : Rdr B w g p) (o : Obj) : Rdr B (w.alloc o) g p := rdr_grown h (World.grownBy_alloc w o none)
theorem rdr_lt {B : Nat} {w : World} {g p : Nat} (h : Rdr B w g p) : g < w.heap.size := by
  obtain ⟨A, n, c, ho, _⟩ := h.ok
  exact ho.lt

theorem l12Open_any (A : Option Addr) (n c : Nat) (w : World) (hb : Bytes w.heap.size w A n) (hc : n ≤ c) (hn : n ≤ 1048576) :
    Calls Try.prog 36 #[.slice A n c] w fun e w' => e = .returned (.pointer (some ⟨w.heap.size, 0, none⟩)) ∧ Rdr w.heap.size w' w.heap.size 0 ∧ Below w.heap.size w w' := by
  by_cases h : n ≤ 2000
  · go_enter Try.func36, Try.ntmps36
    go_wp2
    go_ret
    exact ⟨rfl, ⟨A, n, c, Own.new_ _ _ _, hb.keep fun q hq => (bA bR).cell hq, h, Nat.le_refl _⟩, bA bR⟩
  · obtain ⟨i0, hi0, hz0, hz1, hz2⟩ := info_parts byte_info
    have hs := fun W => slice_hi (P := Try.prog) W 22 5 i0 1 A n c Try.underlying22 hi0 2000 (by omega) (by omega)
    rw [cutA_zero] at hs
    go_enter Try.func36, Try.ntmps36
    go_wp2
    go_ret
    exact ⟨rfl, ⟨A, 2000, c, Own.new_ _ _ _, ⟨fun j hj => (hb.keep fun q hq => (bA bR).cell hq).at_ j (by omega)⟩, Nat.le_refl _, Nat.le_refl _⟩, bA bR⟩

def Numbered (zs : List Int) (B : Nat) (w : World) (g p : Nat) (e : Ending) (w' : World) : Prop :=
  ∃ r : Int, e = .returned (.int .i64 r) ∧ r ∈ zs ∧ Rdr B w' g (p + 1) ∧ w.grownBy w' (some g)

theorem num_any (B g p g2 : Nat) (zs : List Int) (w : World) (h : Rdr B w g p) (hz : Own w g2 3 (zs.map (Value.int .i64)).toArray) (hne : g2 ≠ g) (hp : p ≤ 1000000) (h1 : 1 ≤ zs.length) (h2 : zs.length ≤ 1000) :
    Calls Try.prog 38 #[.pointer (some ⟨g, 0, none⟩), .slice (some ⟨g2, 0, none⟩) zs.length zs.length] w (Numbered zs B w g p) := by
  have HZ := Lib.hid hz
  clear hz
  go_enter Try.func38, Try.ntmps38
  go_wp2_with fail
  refine (pick_any B g p zs.length w h hp (by omega)).mono ?_
  rintro e w1 ⟨r, rfl, hr0, hr1, hrd, hg⟩
  obtain ⟨i, rfl⟩ := Int.eq_ofNat_of_zero_le hr0
  have hi : i < zs.length := by have := hr1 (by omega); omega
  have hi2 : (i : Int) < (zs.length : Int) := by omega
  have hc : w1.cell? ⟨g2, i, none⟩ = some (.int .i64 zs[i]) := hg.cell (HZ.out.cell_ i (by simp [hi])) (by simp; omega)
  have hm : Hid (zs[i] ∈ zs) := List.getElem_mem hi
  generalize zs[i] = z at hc hm
  clear hr1
  have HRD := Lib.hid hrd
  have HG := Lib.hid hg
  clear hrd hg
  go_wp2
  go_ret
  exact ⟨_, rfl, hm.out, HRD.out, HG.out⟩
end Go.Proofs.Ytbegdjemnclfaaa
