import Derived.Test.YtebodfciiikokaaInts
import Derived.Test.YtebodfciiikokaaTr
import Derived.Maps.OwnSet
import Derived.DeepKeys4
namespace Go.Proofs.Ytebodfciiikokaa
open Go.RowKit Go.Maps Go.WideMaps

/-! ### how many different keys: a map that never leaves the call -/
theorem laidOutK : laidOutB Try.prog = true := by kernel_rfl
theorem klaw : Keyed Try.prog 50 := Keyed.of_law (deep_law_laid laidOutK (m := 2) (by omega) (of_decide_eq_true (by kernel_rfl)) (by kernel_rfl) (by rw [Try.underlying50]))
theorem kcellsOf : Program.cellsOf Try.prog 50 = 2 := by kernel_rfl
theorem icellsOf : Program.cellsOf Try.prog 3 = 1 := by kernel_rfl
theorem kkey : Program.keyType Try.prog 50 = true := by kernel_rfl
theorem ksize : 0 < Try.prog.types.size := of_decide_eq_true (by kernel_rfl)
def klit (x y : Int) : Lit := .string (keyBytes [.int .i64 x, .int .i64 y])
theorem key_of {x y : Int} (hx : (Lit.int .i64 x).wf = true) (hy : (Lit.int .i64 y).wf = true) : keyOf Try.prog 50 (.agg #[.int .i64 x, .int .i64 y]) = some (klit x y) := by
  obtain ⟨m, hm⟩ : ∃ m, Try.prog.types.size = m + 1 := ⟨_, (Nat.succ_pred_eq_of_pos ksize).symm⟩
  have hf : (Value.agg #[.int .i64 x, .int .i64 y]).formed Try.prog 50 = true := by
    unfold Value.formed
    rw [Try.underlying50]
    simp [kcellsOf]
  have hk : Try.prog.keyLits (Try.prog.types.size + 1) 50 [.int .i64 x, .int .i64 y] = some [.int .i64 x, .int .i64 y] := by
    rw [hm]
    unfold Program.keyLits
    rw [Try.underlying50]
    simp [kcellsOf]
    have h3 : ∀ z : Int, (Lit.int .i64 z).wf = true → Try.prog.keyLits (m + 1) 3 [.int .i64 z] = some [.int .i64 z] := by
      intro z hz
      unfold Program.keyLits
      rw [Try.underlying3]
      simp [hz]
    rw [icellsOf]
    show ((Try.prog.keyLits (m + 1) 3 [.int .i64 x]).bind (Option.map List.flatten ∘ fun a => ((Try.prog.keyLits (m + 1) 3 [.int .i64 y]).bind fun b => some [b]).bind fun c => some (a :: c))) = _
    rw [h3 x hx, h3 y hy]
    rfl
  unfold keyOf
  rw [Try.underlying50]
  show (if (Try.prog.keyType 50 && (Value.agg #[.int .i64 x, .int .i64 y]).formed Try.prog 50) = true then _ else _) = _
  rw [kkey, hf]
  show (Try.prog.keyLits (Try.prog.types.size + 1) 50 [.int .i64 x, .int .i64 y]).map _ = _
  rw [hk]
  rfl

/-- the map behind k rounds -/
def DS (l : List Key) (k : Nat) (D : DataW Unit) : Prop := Tidy D ∧ size D = Tr.nd (l.take k) ∧ ∀ x y : Int, (Lit.int .i64 x).wf = true → (Lit.int .i64 y).wf = true → has D (klit x y) = decide ((x, y) ∈ l.take k)
theorem klit_inj {x y x' y' : Int} (hx : (Lit.int .i64 x).wf = true) (hy : (Lit.int .i64 y).wf = true) (hx' : (Lit.int .i64 x').wf = true) (hy' : (Lit.int .i64 y').wf = true) (h : klit x y = klit x' y') : (x, y) = (x', y') := by
  have h1 := key_of hx hy
  rw [h] at h1
  have := klaw.inj h1 (key_of hx' hy')
  injection this with e
  injection e with e
  injection e with e1 e2
  injection e2 with e2 _
  injection e1 with _ e1
  injection e2 with _ e2
  rw [e1, e2]
theorem DS_zero (l : List Key) : DS l 0 (.map []) := ⟨tidy_empty, rfl, fun _ _ _ _ => rfl⟩
theorem DS_succ {l : List Key} {k : Nat} {D : DataW Unit} {x y : Int} (h : DS l k D) (e : l[k]? = some (x, y)) (hx : (Lit.int .i64 x).wf = true) (hy : (Lit.int .i64 y).wf = true) (d : DataW Unit) : DS l (k + 1) (D.put (klit x y) d) := by
  obtain ⟨h1, h2, h3⟩ := h
  have hkl := klaw.key (key_of hx hy)
  have ht : l.take (k + 1) = l.take k ++ [(x, y)] := by rw [List.take_add_one, e]; rfl
  refine ⟨h1.put hkl d, ?_, fun x' y' hx' hy' => ?_⟩
  · rw [size_put h1, h3 x y hx hy, ht, Tr.nd_snoc, h2]
    by_cases hm : (x, y) ∈ l.take k
    · simp [hm]
    · simp [hm]
  · by_cases hk : klit x' y' = klit x y
    · have := klit_inj hx' hy' hx hy hk
      rw [hk, has_put_same h1.isMap hkl, ht]
      injection this with e1 e2
      subst e1 e2
      simp
    · rw [has_put_other hk, h3 x' y' hx' hy', ht]
      have : (x', y') ≠ (x, y) := by
        intro e
        injection e with e1 e2
        subst e1 e2
        exact hk rfl
      simp [this]

/-- keys that are as they should be are small -/
theorem kval_wf {x y : Int} (h : kval (x, y) = true) : (Lit.int .i64 x).wf = true ∧ (Lit.int .i64 y).wf = true := by
  unfold kval inR at h
  simp at h
  exact ⟨WalkArith.wf_i64 (by omega), WalkArith.wf_i64 (by omega)⟩

set_option maxHeartbeats 1000000 in
theorem different_any (A : Option Addr) (c : Nat) (l : List Key) (w : World) (h : Ks w.heap.size w A l) (hl : l.length ≤ 1048576) (hv : l.all kval = true) :
    Calls Try.prog 45 #[.slice A l.length c] w fun r w' => r = .returned (.int .i64 (Tr.nd l)) ∧ Below w.heap.size w w' := by
  have hmm := @run_makeMap Try.prog
  go_enter Try.func45, Try.ntmps45
  go_wp2
  go_loopw [9] (fun u wr => ∃ (k : Nat) (D : DataW Unit), k ≤ l.length ∧ u = .int .i64 k ∧ DS l k D ∧ wr.ownsMap Try.prog 50 (plainElem Try.prog 4) w.heap.size k D ∧ Below w.heap.size w wr) (fun u _ => l.length - (intOf u).toNat)
  case atStart => exact ⟨0, _, by omega, rfl, DS_zero l, World.ownsMap_made _ _ _ _, bA bR⟩
  case round =>
    obtain ⟨k, D, hk, rfl, hds, hown, hb⟩ := hrel
    by_cases hlt : k < l.length
    · obtain ⟨b, o, x, y, rfl, hbb, c1, c2, e1⟩ := (h.below hb).key2 hlt
      have hkv : kval (x, y) = true := List.all_eq_true.1 hv _ (List.mem_of_getElem? e1)
      obtain ⟨hx, hy⟩ := kval_wf hkv
      have hnew := DS_succ hds e1 hx hy (.lit (.bool true))
      have hkey := key_of hx hy
      have HNEW := Lib.hid hnew
      have HKEY := Lib.hid hkey
      have HOWN := Lib.hid hown
      clear hnew hkey hown hds e1
      go_wp2_with (first
        | (at_mapUpdate; refine wpList_mapUpdate_own _ rfl _ _ _ 65 rfl 50 4 klaw Try.underlying65 (plainElem (H := Unit) Try.prog 4) w.heap.size k _ rfl (HOWN.out.alloc _) (by unfold maxLen; omega) _ _ _ rfl rfl HKEY.out _ [] (plainElem_bool Try.underlying4 true) ?_; intro w1 hown1 hgrow1)
        | go_in)
      go_roundw
      case rel => exact ⟨k + 1, _, by omega, by go_num, HNEW.out, hown1, bG (bA hb) hgrow1 (by intro q hq; injection hq with hq; omega)⟩
      case measure => simp [intOf]; omega
    · have hkl : k = l.length := by omega
      have hsz : size D = Tr.nd l := by have := hds.2.1; rwa [hkl, List.take_length] at this
      have HOWN := Lib.hid hown
      have HSZ := Lib.hid hsz
      clear hds hown hsz
      go_wp2_with (first
        | (at_len; refine wpList_len_own _ rfl _ 65 rfl 50 4 Try.underlying65 (plainElem (H := Unit) Try.prog 4) w.heap.size k D rfl HOWN.out ?_)
        | go_in)
      go_ret
      exact ⟨by rw [HSZ.out]; rfl, hb⟩
end Go.Proofs.Ytebodfciiikokaa
