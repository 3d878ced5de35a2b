/- A part of the proofs of this seat: Addr, Chain, Hash, Keep, Maps, Plain, Srt. -/
import Derived.Shelf.SlSortCmp.WholeK
import Derived.Shelf.Spec.SlicesGrow
import Derived.Test.YtibpnlojlfcpmaaGreatDoorProg
import Derived.Maps.OwnSet
import Derived.DeepKeys4
import Derived.Test.YtibpnlojlfcpmaaGreatDoorARow
set_option linter.unusedVariables false
set_option linter.unusedSimpArgs false
set_option maxRecDepth 1000000
namespace Go.Proofs.YtibpnlojlfcpmaaGreatDoor
open Go.RowKit
def keyI (s p : Int) : Int := if 128 ≤ p then 0 else s
def bkt (t : Tab) (s p : Int) : Nat := (hsh s p t.bs.length).toNat
def fOK (t : Tab) (s p : Int) : Bool := tv t && kval (s, p) && decide (0 ≤ fndI t.fs s p)
def relink (i n : Int) (f : Fr) : Fr := if f.used = true ∧ f.n = i then { f with n := n } else f
def unmT (t : Tab) (s p : Int) : Tab :=
 let i := fndI t.fs s p
 let n := (t.fs.getD i.toNat frz).n
 let b := bkt t s p
 if t.bs.getD b 0 = i then ⟨t.bs.set b n, t.fs.set i.toNat frz⟩ else ⟨t.bs, (t.fs.map (relink i n)).set i.toNat frz⟩
def unmV (t : Tab) (s p : Int) : Tab := if fOK t s p = true then unmT t s p else tabz
def tagv (n : Int) : Bool := decide (-1 ≤ n) && decide (n < 8)
def lnok (x : Ln) : Bool := if x.v = true then tagv x.t && inR x.p 256 && inR x.f 16 && inR x.r 8 else decide (x = lnz)
def clash (x y : Ln) : Bool := x.v && y.v && decide (x.p = y.p) && (decide (x.t = y.t) || decide (x.t = -1) || decide (y.t = -1))
def lok (ls : List Ln) : Nat → Bool
 | 0 => true
 | i + 1 => lok ls i && (match ls[i]? with | some x => lnok x && (ls.take i).all (fun y => !clash x y) | none => false)
def cav (c : Ca) : Bool := decide (1 ≤ c.ls.length) && decide (c.ls.length ≤ 8) && inR c.hand c.ls.length && lok c.ls c.ls.length && c.ls.any (fun x => !x.w)
def fits (tag page : Int) (x : Ln) : Bool := x.v && decide (x.p = page) && (decide (x.t = tag) || decide (x.t = -1))
def plc (ls : List Ln) (tag page : Int) : Option Nat := ls.findIdx? (fits tag page)
def plcI (ls : List Ln) (tag page : Int) : Int := match plc ls tag page with | some i => i | none => -1
def tok (os : List (Int × Int)) (next : Int) : Nat → Bool
 | 0 => true
 | i + 1 => tok os next i && (match os[i]? with
  | some o => inR o.1 16 && decide (0 ≤ o.2) && decide (o.2 < next) && (match i with | 0 => true | j + 1 => (match os[j]? with | some q => decide (q.2 < o.2) | none => false)) && (os.take i).all (fun q => decide (¬ q.1 = o.1))
  | none => false)
def tgv (g : Tg) : Bool := decide (1 ≤ g.count) && decide (g.count ≤ 8) && decide (0 ≤ g.next) && decide (g.next ≤ g.count) && decide (0 ≤ g.round) && decide (g.round ≤ 1000000) && tok g.os g.next g.os.length
def own (os : List (Int × Int)) (s : Int) : Option Nat := os.findIdx? (fun o => decide (o.1 = s))
def ownI (os : List (Int × Int)) (s : Int) : Int := match own os s with | some i => i | none => -1
def spc (os : List (Int × Int)) (tag : Int) : Option Nat := os.findIdx? (fun o => decide (o.2 = tag))
def lnM (m : Ma) (x : Ln) : Bool :=
  if x.v = true then
    decide ((128 ≤ x.p) ↔ x.t = -1) && (!x.w || decide (128 ≤ x.p)) &&
    (let sp : Option Int := if 128 ≤ x.p then some 0 else match spc m.g.os x.t with | some i => some (m.g.os.getD i (0, 0)).1 | none => none
     match sp with
     | some s => (match fnd m.t.fs (keyI s x.p) x.p with | some i => decide ((i : Int) = x.f) && decide ((m.t.fs.getD i frz).r = x.r) | none => false)
     | none => false)
  else true
def frM (f : Fr) : Bool := !(f.used && decide (128 ≤ f.p) && !decide (f.s = 0))
def mav (m : Ma) : Bool := tv m.t && cav m.c && tgv m.g && decide (0 ≤ ownI m.g.os m.sp) && m.t.fs.all frM && m.c.ls.all (lnM m)
theorem inR_iff {n e : Int} : inR n e = true ↔ 0 ≤ n ∧ n < e := by unfold inR; rw [Bool.and_eq_true, decide_eq_true_eq, decide_eq_true_eq]
theorem bool_ff {b : Bool} (h : ¬ b = true) : b = false := by simpa using h
theorem l1Space_any (n : Int) (w : World) : Calls Tryz.prog 55 #[.int .i64 n] w fun r w' => r = .returned (.bool (inR n 16)) ∧ w = w' := by
 by_cases h0 : 0 ≤ n
 ·have H : Hid (inR n 16 = decide (n < 16)) := by simp [Hid, inR, h0]
  go_enter Tryz.func55, Tryz.ntmps55
  go_wp2
  go_ret
  exact ⟨by rw [H.out]; rfl, rfl⟩
 ·have H : Hid (inR n 16 = false) := by simp [Hid, inR, h0]
  go_enter Tryz.func55, Tryz.ntmps55
  go_wp2
  go_ret
  exact ⟨by rw [H.out]; rfl, rfl⟩
theorem l1Page_any (n : Int) (w : World) : Calls Tryz.prog 228 #[.int .i64 n] w fun r w' => r = .returned (.bool (inR n 256)) ∧ w = w' := by
 by_cases h0 : 0 ≤ n
 ·have H : Hid (inR n 256 = decide (n < 256)) := by simp [Hid, inR, h0]
  go_enter Tryz.func228, Tryz.ntmps228
  go_wp2
  go_ret
  exact ⟨by rw [H.out]; rfl, rfl⟩
 ·have H : Hid (inR n 256 = false) := by simp [Hid, inR, h0]
  go_enter Tryz.func228, Tryz.ntmps228
  go_wp2
  go_ret
  exact ⟨by rw [H.out]; rfl, rfl⟩
theorem one_box {w w1 : World} {t : TypeId} {cs : Array Value} (hb : Below (w.alloc (.cells cs t)).heap.size (w.alloc (.cells cs t)) w1) : Own w1 w.heap.size t cs ∧ Below w.heap.size w w1 :=
 ⟨(Own.new_ w t cs).below hb, bT (bA bR) hb⟩
theorem kval_iff {s p : Int} : kval (s, p) = true ↔ (0 ≤ s ∧ s < 16) ∧ (0 ≤ p ∧ p < 256) := by
 unfold kval; rw [Bool.and_eq_true, inR_iff, inR_iff]
theorem hsh_in {s p nb : Int} (h : kval (s, p) = true) (h1 : 1 ≤ nb) : 0 ≤ hsh s p nb ∧ hsh s p nb < nb := by
 obtain ⟨⟨h2, h3⟩, h4, h5⟩ := kval_iff.1 h
 unfold hsh
 have hm0 : 0 ≤ (s * 256 + p) * 2654435761 % 4294967296 := Int.emod_nonneg _ (by omega)
 have hm1 : (s * 256 + p) * 2654435761 % 4294967296 < 4294967296 := Int.emod_lt_of_pos _ (by omega)
 generalize (s * 256 + p) * 2654435761 % 4294967296 = m at *
 have h0 : 0 ≤ m * nb := Int.mul_nonneg hm0 (by omega)
 refine ⟨Int.ediv_nonneg h0 (by omega), Int.ediv_lt_of_lt_mul (by omega) ?_⟩
 rw [Int.mul_comm nb]
 exact Int.mul_lt_mul_of_pos_right hm1 (by omega)
theorem bkt_in {t : Tab} {s p : Int} (h : kval (s, p) = true) (h1 : 1 ≤ t.bs.length) : bkt t s p < t.bs.length ∧ hsh s p t.bs.length = (bkt t s p : Int) := by
 have := hsh_in (nb := t.bs.length) h (by omega)
 unfold bkt
 omega
theorem bucketsValid_any (n : Int) (w : World) : Calls Tryz.prog 148 #[.int .i64 n] w fun r w' => r = .returned (.bool (decide (1 ≤ n) && decide (n ≤ 16))) ∧ w = w' := by
 by_cases h0 : 1 ≤ n
 ·have H : Hid ((decide (1 ≤ n) && decide (n ≤ 16)) = decide (n ≤ 16)) := by simp [Hid, h0]
  go_enter Tryz.func148, Tryz.ntmps148
  go_wp2
  go_ret
  exact ⟨by rw [H.out]; rfl, rfl⟩
 ·have H : Hid ((decide (1 ≤ n) && decide (n ≤ 16)) = false) := by simp [Hid, h0]
  go_enter Tryz.func148, Tryz.ntmps148
  go_wp2
  go_ret
  exact ⟨by rw [H.out]; rfl, rfl⟩
theorem l2Buckets_any (n : Int) (w : World) : Calls Tryz.prog 191 #[.int .i64 n] w fun r w' => r = .returned (.bool (decide (1 ≤ n) && decide (n ≤ 16))) ∧ w = w' := by
 by_cases h0 : 1 ≤ n
 ·have H : Hid ((decide (1 ≤ n) && decide (n ≤ 16)) = decide (n ≤ 16)) := by simp [Hid, h0]
  go_enter Tryz.func191, Tryz.ntmps191
  go_wp2
  go_ret
  exact ⟨by rw [H.out]; rfl, rfl⟩
 ·have H : Hid ((decide (1 ≤ n) && decide (n ≤ 16)) = false) := by simp [Hid, h0]
  go_enter Tryz.func191, Tryz.ntmps191
  go_wp2
  go_ret
  exact ⟨by rw [H.out]; rfl, rfl⟩
theorem RightsValid_any (n : Int) (w : World) : Calls Tryz.prog 110 #[.int .i64 n] w fun r w' => r = .returned (.bool (inR n 8)) ∧ w = w' := by
 go_enter Tryz.func110, Tryz.ntmps110
 go_wp2_with (go_at_call 61; refine (within_any _ _ _).mono ?_; rintro e w' ⟨rfl, rfl⟩)
 go_ret
 exact ⟨rfl, rfl⟩
theorem inR8 (n : Int) : inR n 8 = (decide (0 ≤ n) && decide (n ≤ 7)) := by
 unfold inR
 by_cases h : n ≤ 7
 ·rw [decide_eq_true h, decide_eq_true (show n < 8 by omega)]
 ·rw [decide_eq_false h, decide_eq_false (show ¬ n < 8 by omega)]
theorem sRightsValid_any (n : Int) (w : World) : Calls Tryz.prog 119 #[.int .i64 n] w fun r w' => r = .returned (.bool (inR n 8)) ∧ w = w' := by
 by_cases h0 : 0 ≤ n
 ·have H : Hid (inR n 8 = decide (n ≤ 7)) := by show _ = _; rw [inR8]; simp [h0]
  go_enter Tryz.func119, Tryz.ntmps119
  go_wp2
  go_ret
  exact ⟨by rw [H.out]; rfl, rfl⟩
 ·have H : Hid (inR n 8 = false) := by show _ = _; rw [inR8]; simp [h0]
  go_enter Tryz.func119, Tryz.ntmps119
  go_wp2
  go_ret
  exact ⟨by rw [H.out]; rfl, rfl⟩
theorem sKeyValid_any (a b : Int) (w : World) : Calls Tryz.prog 224 #[.agg #[.int .i64 a, .int .i64 b]] w fun r w' => r = .returned (.bool (kval (a, b))) ∧ Below w.heap.size w w' := by
 by_cases h0 : inR a 16 = true
 ·have H : Hid (kval (a, b) = inR b 256) := by simp [Hid, kval, h0]
  go_enter Tryz.func224, Tryz.ntmps224
  go_wp2_with (first | (go_at_call 55; refine (l1Space_any _ _).mono ?_; rintro e w' ⟨rfl, rfl⟩) | (go_at_call 228; refine (l1Page_any _ _).mono ?_; rintro e w' ⟨rfl, rfl⟩))
  go_ret
  exact ⟨by rw [H.out]; rfl, bA bR⟩
 ·have h0 : inR a 16 = false := by simpa using h0
  have H : Hid (kval (a, b) = false) := by simp [Hid, kval, h0]
  go_enter Tryz.func224, Tryz.ntmps224
  go_wp2_with (first | (go_at_call 55; refine (l1Space_any _ _).mono ?_; rintro e w' ⟨rfl, rfl⟩) | (go_at_call 228; refine (l1Page_any _ _).mono ?_; rintro e w' ⟨rfl, rfl⟩))
  go_ret
  exact ⟨by rw [H.out]; rfl, bA bR⟩
theorem l2Hash_any (s p nb : Int) (w : World) (hk : kval (s, p) = true) (hn : 1 ≤ nb ∧ nb ≤ 16) :
  Calls Tryz.prog 135 #[.agg #[.int .i64 s, .int .i64 p], .int .i64 nb] w fun r w' => r = .returned (.int .i64 (hsh s p nb)) ∧ Below w.heap.size w w' := by
 obtain ⟨⟨h2, h3⟩, h4, h5⟩ := kval_iff.1 hk
 have hm0 : 0 ≤ (s * 256 + p) * 2654435761 % 4294967296 := Int.emod_nonneg _ (by omega)
 have hm1 : (s * 256 + p) * 2654435761 % 4294967296 < 4294967296 := Int.emod_lt_of_pos _ (by omega)
 have H : Hid (hsh s p nb = (s * 256 + p) * 2654435761 % 4294967296 * nb / 4294967296) := rfl
 have h0 : 0 ≤ (s * 256 + p) * 2654435761 % 4294967296 * nb := Int.mul_nonneg hm0 (by omega)
 have hb : (s * 256 + p) * 2654435761 % 4294967296 * nb ≤ 4294967296 * 16 := Int.mul_le_mul (by omega) hn.2 (by omega) (by omega)
 have hd0 : 0 ≤ (s * 256 + p) * 2654435761 % 4294967296 * nb / 4294967296 := Int.ediv_nonneg h0 (by omega)
 have hd1 : (s * 256 + p) * 2654435761 % 4294967296 * nb / 4294967296 ≤ 16 := by omega
 have k1 : IntKind.i64.wrap (s * 256) = s * 256 := IntWalk.i64_in _ (by omega)
 have k2 : IntKind.i64.wrap (s * 256 + p) = s * 256 + p := IntWalk.i64_in _ (by omega)
 have k3 : IntKind.i64.wrap ((s * 256 + p) * 2654435761) = (s * 256 + p) * 2654435761 := IntWalk.i64_in _ (by omega)
 have k4 : IntKind.i64.wrap ((s * 256 + p) * 2654435761 % 4294967296 * nb) = (s * 256 + p) * 2654435761 % 4294967296 * nb := IntWalk.i64_in _ (by omega)
 have k5 : IntKind.i64.wrap ((s * 256 + p) * 2654435761 % 4294967296 * nb / 4294967296) = (s * 256 + p) * 2654435761 % 4294967296 * nb / 4294967296 := IntWalk.i64_in _ (by omega)
 go_enter Tryz.func135, Tryz.ntmps135
 go_wp2
 go_ret
 exact ⟨by rw [H.out]; rfl, bA bR⟩
theorem hash_any (s p nb : Int) (w : World) (hk : kval (s, p) = true) (hn : 1 ≤ nb ∧ nb ≤ 16) :
  Calls Tryz.prog 81 #[.agg #[.int .i64 s, .int .i64 p], .int .i64 nb] w fun r w' => r = .returned (.int .i64 (hsh s p nb)) ∧ Below w.heap.size w w' := by
 obtain ⟨⟨h2, h3⟩, h4, h5⟩ := kval_iff.1 hk
 have hm0 : 0 ≤ (s * 256 + p) * 2654435761 % 4294967296 := Int.emod_nonneg _ (by omega)
 have hm1 : (s * 256 + p) * 2654435761 % 4294967296 < 4294967296 := Int.emod_lt_of_pos _ (by omega)
 have H : Hid (hsh s p nb = (s * 256 + p) * 2654435761 % 4294967296 * nb / 4294967296) := rfl
 have h0 : 0 ≤ (s * 256 + p) * 2654435761 % 4294967296 * nb := Int.mul_nonneg hm0 (by omega)
 have hb : (s * 256 + p) * 2654435761 % 4294967296 * nb ≤ 4294967296 * 16 := Int.mul_le_mul (by omega) hn.2 (by omega) (by omega)
 have hd0 : 0 ≤ (s * 256 + p) * 2654435761 % 4294967296 * nb / 4294967296 := Int.ediv_nonneg h0 (by omega)
 have hd1 : (s * 256 + p) * 2654435761 % 4294967296 * nb / 4294967296 ≤ 16 := by omega
 have k1 : IntKind.i64.wrap (s * 256) = s * 256 := IntWalk.i64_in _ (by omega)
 have k2 : IntKind.i64.wrap (s * 256 + p) = s * 256 + p := IntWalk.i64_in _ (by omega)
 have k3 : IntKind.i64.wrap ((s * 256 + p) * 2654435761) = (s * 256 + p) * 2654435761 := IntWalk.i64_in _ (by omega)
 have k4 : IntKind.i64.wrap ((s * 256 + p) * 2654435761 % 4294967296 * nb) = (s * 256 + p) * 2654435761 % 4294967296 * nb := IntWalk.i64_in _ (by omega)
 have k5 : IntKind.i64.wrap ((s * 256 + p) * 2654435761 % 4294967296 * nb / 4294967296) = (s * 256 + p) * 2654435761 % 4294967296 * nb / 4294967296 := IntWalk.i64_in _ (by omega)
 have u1 : IntKind.u64.wrap (s * 256 + p) = s * 256 + p := by rw [IntKind.wrap_u64]; omega
 have u2 : IntKind.u64.wrap ((s * 256 + p) * 2654435761) = (s * 256 + p) * 2654435761 := by rw [IntKind.wrap_u64]; omega
 have u3 : IntKind.u64.wrap nb = nb := by rw [IntKind.wrap_u64]; omega
 have u4 : IntKind.u64.wrap ((s * 256 + p) * 2654435761 % 4294967296 * nb) = (s * 256 + p) * 2654435761 % 4294967296 * nb := by rw [IntKind.wrap_u64]; omega
 go_enter Tryz.func81, Tryz.ntmps81
 go_wp2
 go_ret
 exact ⟨by rw [H.out]; rfl, bA bR⟩
theorem int_info2 : (Tryz.prog.info? 3).map (fun i => (i.zero, i.size, i.bytes)) = some (some (.int .i64 0), 1, 8) := by kernel_rfl
theorem run_append_i (base : Nat) (W : World) (v : Value) (n : Nat) (l : List Int) (x : Int) (hown : W.ownsRow base 3 1 v n (intE.cells l)) (hn : l.length = n) (hs : n ≤ 1048576) (hb : base ≤ W.heap.size) :
  ∃ v' w', (Builtin.append_ #[22, 22] 22 #[v, .slice (some ⟨W.heap.size, 0, none⟩) 1 1]).run Tryz.prog (W.alloc (.cells #[.int .i64 x] 3)) = .ok v' w' ∧
   w'.ownsRow base 3 1 v' (n + 1) (intE.cells (l ++ [x])) ∧ (W.alloc (.cells #[.int .i64 x] 3)).grownBy w' v.ownBlock ∧ (v'.ownBlock = v.ownBlock ∨ v'.ownBlock = some (W.heap.size + 1)) := by
 obtain ⟨i0, hi0, hz0, hz1, hz2⟩ := info_parts int_info2
 exact run_append_el intE 22 3 i0 _ 8 Tryz.underlying22 hi0 hz0 hz1 hz2 rfl (by omega) base W v n l x hown hn hs hb
theorem Rd.i1 {B : Nat} {w : World} {A : Option Addr} {l : List Int} (h : Rs intE B w A l) {k : Nat} {x : Int} (hk : l[k]? = some x) :
  ∃ b o, A = some ⟨b, o, none⟩ ∧ b < B ∧ w.cell? ⟨b, o + k, none⟩ = some (.int .i64 x) := by
 obtain ⟨b, o, e, hb, hc⟩ := h.el hk
 have := hc 0 _ rfl
 exact ⟨b, o, e, hb, by simpa [intE] using this⟩
theorem Rd.fr {B : Nat} {w : World} {A : Option Addr} {l : List Fr} (h : Rs frE B w A l) {k : Nat} {f : Fr} (hk : l[k]? = some f) :
  ∃ b o, A = some ⟨b, o, none⟩ ∧ b < B ∧ w.cell? ⟨b, o + k * 5, none⟩ = some (.bool f.used) ∧ w.cell? ⟨b, o + k * 5 + 1, none⟩ = some (.int .i64 f.s) ∧ w.cell? ⟨b, o + k * 5 + 2, none⟩ = some (.int .i64 f.p)
   ∧ w.cell? ⟨b, o + k * 5 + 3, none⟩ = some (.int .i64 f.r) ∧ w.cell? ⟨b, o + k * 5 + 4, none⟩ = some (.int .i64 f.n) := by
 obtain ⟨b, o, e, hb, hc⟩ := h.el hk
 exact ⟨b, o, e, hb, hc 0 _ rfl, hc 1 _ rfl, hc 2 _ rfl, hc 3 _ rfl, hc 4 _ rfl⟩
theorem fnd_chain {t : Tab} (h : tv t = true) {s p : Int} (hk : kval (s, p) = true) :
  ∃ ch, bch t (bkt t s p) = some ch ∧ (∀ i, fnd t.fs s p = some i → i ∈ ch) ∧ (∀ j ∈ ch, ∀ f, t.fs[j]? = some f → (f.s, f.p) = (s, p) → fnd t.fs s p = some j) := by
 obtain ⟨⟨_, _, h1, _⟩, h5, h3, _⟩ := tv_parts h
 obtain ⟨hb, he⟩ := bkt_in hk h1
 obtain ⟨ch, e, hc⟩ := bok_parts (boks_at h3 hb)
 refine ⟨ch, e, fun i hi => ?_, fun j hj f ef hf => ?_⟩
 ·obtain ⟨f, ef, hu, hkk⟩ := fnd_some hi
  obtain ⟨b, ch', _, e', hm, hh⟩ := tv_in h ef hu
  injection hkk with g1 g2
  rw [g1, g2, he] at hh
  have : b = bkt t s p := by omega
  subst this
  rw [e] at e'
  injection e' with e'
  rw [e']; exact hm
 ·obtain ⟨g, eg, hu⟩ := bch_mem e j hj
  rw [ef] at eg
  injection eg with eg
  subst eg
  exact fnd_of h5 ef hu hf
end Go.Proofs.YtibpnlojlfcpmaaGreatDoor
namespace Go.Proofs.YtibpnlojlfcpmaaGreatDoor
open Go.RowKit Go.Maps Go.WideMaps
theorem laidOutK : laidOutB Tryz.prog = true := by kernel_rfl
theorem klaw : Keyed Tryz.prog 61 := Keyed.of_law (deep_law_laid laidOutK (m := 2) (by omega) (of_decide_eq_true (by kernel_rfl)) (by kernel_rfl) (by rw [Tryz.underlying61]))
theorem kcellsOf : Program.cellsOf Tryz.prog 61 = 2 := by kernel_rfl
theorem icellsOf : Program.cellsOf Tryz.prog 3 = 1 := by kernel_rfl
theorem kkey : Program.keyType Tryz.prog 61 = true := by kernel_rfl
theorem ksize : 0 < Tryz.prog.types.size := of_decide_eq_true (by kernel_rfl)
def klit (x y : Int) : Lit := .string (keyBytes [.int .i64 x, .int .i64 y])
theorem key_of {x y : Int} (hx : (Lit.int .i64 x).wf = true) (hy : (Lit.int .i64 y).wf = true) : keyOf Tryz.prog 61 (.agg #[.int .i64 x, .int .i64 y]) = some (klit x y) := by
 obtain ⟨m, hm⟩ : ∃ m, Tryz.prog.types.size = m + 1 := ⟨_, (Nat.succ_pred_eq_of_pos ksize).symm⟩
 have hf : (Value.agg #[.int .i64 x, .int .i64 y]).formed Tryz.prog 61 = true := by
  unfold Value.formed
  rw [Tryz.underlying61]
  simp [kcellsOf]
 have hk : Tryz.prog.keyLits (Tryz.prog.types.size + 1) 61 [.int .i64 x, .int .i64 y] = some [.int .i64 x, .int .i64 y] := by
  rw [hm]
  unfold Program.keyLits
  rw [Tryz.underlying61]
  simp [kcellsOf]
  have h3 : ∀ z : Int, (Lit.int .i64 z).wf = true → Tryz.prog.keyLits (m + 1) 3 [.int .i64 z] = some [.int .i64 z] := by
   intro z hz
   unfold Program.keyLits
   rw [Tryz.underlying3]
   simp [hz]
  rw [icellsOf]
  show ((Tryz.prog.keyLits (m + 1) 3 [.int .i64 x]).bind (Option.map List.flatten ∘ fun a => ((Tryz.prog.keyLits (m + 1) 3 [.int .i64 y]).bind fun b => some [b]).bind fun c => some (a :: c))) = _
  rw [h3 x hx, h3 y hy]
  rfl
 unfold keyOf
 rw [Tryz.underlying61]
 show (if (Tryz.prog.keyType 61 && (Value.agg #[.int .i64 x, .int .i64 y]).formed Tryz.prog 61) = true then _ else _) = _
 rw [kkey, hf]
 show (Tryz.prog.keyLits (Tryz.prog.types.size + 1) 61 [.int .i64 x, .int .i64 y]).map _ = _
 rw [hk]
 rfl
theorem klit_inj {x y x' y' : Int} (hx : (Lit.int .i64 x).wf = true) (hy : (Lit.int .i64 y).wf = true) (hx' : (Lit.int .i64 x').wf = true) (hy' : (Lit.int .i64 y').wf = true) (h : klit x y = klit x' y') : (x, y) = (x', y') := by
 have h1 := key_of hx hy
 rw [h] at h1
 have := klaw.inj h1 (key_of hx' hy')
 injection this with e
 injection e with e
 injection e with e1 e2
 injection e2 with e2 _
 injection e1 with _ e1
 injection e2 with _ e2
 rw [e1, e2]
theorem kval_wf {x y : Int} (h : kval (x, y) = true) : (Lit.int .i64 x).wf = true ∧ (Lit.int .i64 y).wf = true := by
 unfold kval inR at h
 simp at h
 exact ⟨WalkArith.wf_i64 (by omega), WalkArith.wf_i64 (by omega)⟩
theorem plainElem_bool_inv {v : Value} {z : DataW Unit × List MemPlace} (h : plainElem Tryz.prog 4 v = some z) : ∃ a, v = .bool a ∧ z = (.lit (.bool a), []) := by
 unfold plainElem at h
 rw [Tryz.underlying4] at h
 cases v <;> simp at h
 obtain rfl := h
 exact ⟨_, rfl, rfl⟩
theorem bool_info : (Tryz.prog.info? 4).map (fun i => i.zero) = some (some (.bool false)) := by kernel_rfl
theorem zero_bool (w : World) : (zeroValue 4).run Tryz.prog w = .ok (.bool false) w := by
 obtain ⟨i, hi, hz⟩ := Option.map_eq_some_iff.1 bool_info
 simp [zeroValue, typeInfo, hi, hz]
structure SetD {α : Type} [DecidableEq α] (kof : α → Lit) (ok : α → Prop) (S : List α) (D : DataW Unit) : Prop where
 tidy : Tidy D
 siz : size D = S.length
 has_ : ∀ a, ok a → has D (kof a) = decide (a ∈ S)
 at_ : ∀ a, ok a → D.atKey (kof a) (.lit (.bool false)) = .lit (.bool (decide (a ∈ S)))
section
variable {α : Type} [DecidableEq α] {kof : α → Lit} {ok : α → Prop}
theorem SetD.nil_ : SetD kof ok [] (.map []) := ⟨tidy_empty, rfl, fun _ _ => rfl, fun _ _ => rfl⟩
theorem SetD.add {S : List α} {D : DataW Unit} {a : α} (h : SetD kof ok S D) (ha : ok a) (hkl : WideAt.IsKeyLit (kof a)) (hinj : ∀ a b, ok a → ok b → kof a = kof b → a = b) (hn : a ∉ S) : SetD kof ok (S ++ [a]) (D.put (kof a) (.lit (.bool true))) := by
 refine ⟨h.tidy.put hkl _, ?_, fun b hb => ?_, fun b hb => ?_⟩
 ·rw [size_put h.tidy, h.has_ a ha, h.siz]
  simp [hn]
 ·by_cases hk : kof b = kof a
  ·have := hinj b a hb ha hk
   subst this
   rw [has_put_same h.tidy.isMap hkl]
   simp
  ·rw [has_put_other hk, h.has_ b hb]
   have : b ≠ a := fun e => hk (by rw [e])
   simp [this]
 ·by_cases hk : kof b = kof a
  ·have := hinj b a hb ha hk
   subst this
   rw [atKey_put_same h.tidy.isMap hkl]
   simp
  ·rw [atKey_put_other hk, h.at_ b hb]
   have : b ≠ a := fun e => hk (by rw [e])
   simp [this]
end
def kok (a : Key) : Prop := (Lit.int .i64 a.1).wf = true ∧ (Lit.int .i64 a.2).wf = true
abbrev SetK (S : List Key) (D : DataW Unit) : Prop := SetD (fun a : Key => klit a.1 a.2) kok S D
theorem setk_add {S : List Key} {D : DataW Unit} {x y : Int} (h : SetK S D) (ha : kok (x, y)) (hn : (x, y) ∉ S) : SetK (S ++ [(x, y)]) (D.put (klit x y) (.lit (.bool true))) :=
 SetD.add (kof := fun a : Key => klit a.1 a.2) (a := (x, y)) h ha (klaw.key (key_of ha.1 ha.2)) (fun _ _ h1 h2 e => klit_inj h1.1 h1.2 h2.1 h2.2 e) hn
theorem setk_look {S : List Key} {D : DataW Unit} {w : World} {b n : Nat} {x y : Int} (ho : w.ownsMap Tryz.prog 61 (plainElem Tryz.prog 4) b n D) (h : SetK S D) (ha : kok (x, y)) :
  (Instr.lookup 173 (.map (some b)) (.agg #[.int .i64 x, .int .i64 y]) false).run Tryz.prog w = .ok (.bool (decide ((x, y) ∈ S))) w := by
 obtain ⟨v, ps, hrun, hv⟩ := ho.lookup klaw Tryz.underlying173 (zero_bool w) (plainElem_bool Tryz.underlying4 false) (key_of ha.1 ha.2)
 obtain ⟨c, rfl, hc⟩ := plainElem_bool_inv hv
 injection hc with hc
 rw [h.at_ (x, y) ha] at hc
 injection hc with hc
 injection hc with hc
 have e : c = decide ((x, y) ∈ S) := by rw [← hc]; exact decide_eq_decide.2 Iff.rfl
 rw [e] at hrun
 exact hrun
def iok (a : Int) : Prop := (Lit.int .i64 a).wf = true
abbrev SetI (S : List Int) (D : DataW Unit) : Prop := SetD (fun a : Int => Lit.int .i64 a) iok S D
theorem ilaw : Keyed Tryz.prog 3 := int_keyed Tryz.underlying3
theorem ikey_of {a : Int} (h : iok a) : keyOf Tryz.prog 3 (.int .i64 a) = some (.int .i64 a) := by
 unfold iok at h
 unfold keyOf
 rw [Tryz.underlying3]
 simp [mapKey, Tryz.underlying3, h]
theorem seti_add {S : List Int} {D : DataW Unit} {x : Int} (h : SetI S D) (ha : iok x) (hn : x ∉ S) : SetI (S ++ [x]) (D.put (.int .i64 x) (.lit (.bool true))) :=
 SetD.add (kof := fun a : Int => Lit.int .i64 a) (a := x) h ha (ilaw.key (ikey_of ha)) (fun _ _ _ _ e => by injection e) hn
theorem seti_look {S : List Int} {D : DataW Unit} {w : World} {b n : Nat} {x : Int} (ho : w.ownsMap Tryz.prog 3 (plainElem Tryz.prog 4) b n D) (h : SetI S D) (ha : iok x) :
  (Instr.lookup 174 (.map (some b)) (.int .i64 x) false).run Tryz.prog w = .ok (.bool (decide (x ∈ S))) w := by
 obtain ⟨v, ps, hrun, hv⟩ := ho.lookup ilaw Tryz.underlying174 (zero_bool w) (plainElem_bool Tryz.underlying4 false) (ikey_of ha)
 obtain ⟨c, rfl, hc⟩ := plainElem_bool_inv hv
 injection hc with hc
 rw [h.at_ x ha] at hc
 injection hc with hc
 injection hc with hc
 have e : c = decide (x ∈ S) := by rw [← hc]
 rw [e] at hrun
 exact hrun
end Go.Proofs.YtibpnlojlfcpmaaGreatDoor
namespace Go.Proofs.YtibpnlojlfcpmaaGreatDoor
open Go.RowKit
theorem chn_self {fs : List Fr} : ∀ {k : Nat} {i : Int} {ch : List Nat}, chn fs k i = some ch → chn fs ch.length i = some ch := by
 intro k
 induction k with
 | zero =>
  intro i ch h
  by_cases hi : i = -1
  ·subst hi; rw [chn_neg] at h ⊢; exact h
  ·rw [chn_none0 hi] at h; cases h
 | succ k ih =>
  intro i ch h
  by_cases hi : i = -1
  ·subst hi; rw [chn_neg] at h ⊢; exact h
  ·obtain ⟨j, k1, f, r, rfl, hk1, e, hu, h2, rfl⟩ := chn_cons h hi
   have : k1 = k := by omega
   subst this
   rw [List.length_cons, chn_step _ e hu, ih h2]
   rfl
theorem chn_congr {fs fs' : List Fr} : ∀ {k : Nat} {i : Int} {ch : List Nat}, chn fs k i = some ch → (∀ j ∈ ch, ∀ f, fs[j]? = some f → ∃ f', fs'[j]? = some f' ∧ f'.used = f.used ∧ f'.n = f.n) → chn fs' k i = some ch := by
 intro k
 induction k with
 | zero =>
  intro i ch h _
  by_cases hi : i = -1
  ·subst hi; rw [chn_neg] at h ⊢; exact h
  ·rw [chn_none0 hi] at h; cases h
 | succ k ih =>
  intro i ch h hc
  by_cases hi : i = -1
  ·subst hi; rw [chn_neg] at h ⊢; exact h
  ·obtain ⟨j, k1, f, r, rfl, hk1, e, hu, h2, rfl⟩ := chn_cons h hi
   have : k1 = k := by omega
   subst this
   obtain ⟨f', e', hu', hn'⟩ := hc j (by simp) f e
   rw [chn_step _ e' (hu'.trans hu), hn', ih h2 (fun j' hj' => hc j' (by simp [hj']))]
   rfl
theorem chn_lt' {fs : List Fr} {k : Nat} {i : Int} {ch : List Nat} {x : Nat} (h : chn fs k i = some ch) (hx : x < fs.length) (hn : x ∉ ch) : ch.length < fs.length := by
 have h1 := len_sub (a := x :: ch) (b := List.range fs.length) (List.nodup_cons.2 ⟨hn, chn_nodup h⟩) (fun y hy => by
  rcases List.mem_cons.1 hy with rfl | hy
  ·exact List.mem_range.2 hx
  ·obtain ⟨f, e, _⟩ := chn_mem h y hy
   obtain ⟨hx, _⟩ := List.getElem?_eq_some_iff.1 e
   exact List.mem_range.2 hx)
 simp at h1
 omega
structure TV (t : Tab) : Prop where
 sz : 1 ≤ t.fs.length ∧ t.fs.length ≤ 16 ∧ 1 ≤ t.bs.length ∧ t.bs.length ≤ 16
 ok : ∀ (i : Nat) (f : Fr), t.fs[i]? = some f → frok f = true
 key : ∀ (i j : Nat) (f g : Fr), t.fs[i]? = some f → t.fs[j]? = some g → f.used = true → g.used = true → (f.s, f.p) = (g.s, g.p) → i = j
 ch : ∀ b : Nat, b < t.bs.length → ∃ ch, bch t b = some ch ∧ ∀ i ∈ ch, hok t b i = true
 cov : ∀ (i : Nat) (f : Fr), t.fs[i]? = some f → f.used = true → ∃ b ch, b < t.bs.length ∧ bch t b = some ch ∧ i ∈ ch
theorem frs_of {fs : List Fr} (h : ∀ (i : Nat) (f : Fr), fs[i]? = some f → frok f = true) (hd : ∀ i, i < fs.length → dupf fs i = true) : ∀ n, n ≤ fs.length → frs fs n = true := by
 intro n
 induction n with
 | zero => intro _; rfl
 | succ n ih =>
  intro hn
  unfold frs
  have e : fs[n]? = some fs[n] := List.getElem?_eq_getElem (by omega)
  rw [ih (by omega), hd n (by omega), e]
  simp [h n _ e]
theorem dupf_of {fs : List Fr} {i : Nat} (h : ∀ (j : Nat) (f g : Fr), j < i → fs[j]? = some f → fs[i]? = some g → f.used = true → g.used = true → ¬ (f.s, f.p) = (g.s, g.p)) : dupf fs i = true := by
 unfold dupf
 cases e : fs[i]? with
 | none => rfl
 | some g =>
  simp only
  cases hg : g.used with
  | false => rfl
  | true =>
   rw [Bool.not_true, Bool.false_or, List.all_eq_true]
   intro f hf
   obtain ⟨j, hj, he⟩ := List.getElem_of_mem hf
   rw [List.length_take] at hj
   have ej : fs[j]? = some f := by rw [List.getElem_take] at he; rw [List.getElem?_eq_getElem (by omega), he]
   cases hu : f.used with
   | false => rfl
   | true =>
    rw [Bool.not_true, Bool.false_or, decide_eq_true_eq]
    exact h j f g (by omega) ej e hu hg
theorem boks_of {t : Tab} : ∀ {n : Nat}, (∀ b, b < n → bok t b = true) → boks t n = true := by
 intro n
 induction n with
 | zero => intro _; rfl
 | succ n ih => intro h; unfold boks; rw [ih (fun b hb => h b (by omega)), h n (by omega)]; rfl
theorem uni_of {t : Tab} {b : Nat} {ch : List Nat} {j : Nat} : ∀ {n : Nat}, b < n → bch t b = some ch → j ∈ ch → j ∈ uni t n := by
 intro n
 induction n with
 | zero => intro h; omega
 | succ n ih =>
  intro h e hj
  unfold uni
  rw [List.mem_append]
  rcases Nat.lt_or_ge b n with h1 | h1
  ·exact .inl (ih h1 e hj)
  ·obtain rfl : b = n := by omega
   exact .inr (by rw [e]; exact hj)
theorem tv_TV {t : Tab} : tv t = true ↔ TV t := by
 constructor
 ·intro h
  obtain ⟨h1, h2, h3, _⟩ := tv_parts h
  refine ⟨h1, fun i f e => ?_, fun i j f g ei ej hf hg hk => key_once h2 ei ej hf hg hk, fun b hb => bok_parts (boks_at h3 hb), fun i f e hu => ?_⟩
  ·obtain ⟨hi, _⟩ := List.getElem?_eq_some_iff.1 e
   obtain ⟨⟨g, eg, hg⟩, _⟩ := frs_at h2 hi
   rw [e] at eg
   injection eg with eg
   rw [eg]; exact hg
  ·obtain ⟨b, ch, hb, e1, h4, _⟩ := tv_in h e hu
   exact ⟨b, ch, hb, e1, h4⟩
 ·intro h
  obtain ⟨h1, h2, h3, h4⟩ := h.sz
  have hb : boks t t.bs.length = true := boks_of fun b hb => by
   obtain ⟨ch, e, hc⟩ := h.ch b hb
   unfold bok
   rw [e]
   exact List.all_eq_true.2 hc
  have hf : frs t.fs t.fs.length = true := frs_of h.ok (fun i hi => dupf_of fun j f g hj ej ei hu hg hk => by have := h.key j i f g ej ei hu hg hk; omega) _ (Nat.le_refl _)
  have hs : bsum t t.bs.length = nus t.fs t.fs.length := by
   rw [← uni_len, nus_eq _ _ (Nat.le_refl _)]
   apply Nat.le_antisymm
   ·refine len_sub (uni_nodup hb) fun x hx => ?_
    obtain ⟨b', ch, _, e1, h1⟩ := uni_mem hx
    obtain ⟨g, e2, hu2⟩ := bch_mem e1 x h1
    obtain ⟨hx, _⟩ := List.getElem?_eq_some_iff.1 e2
    rw [List.mem_filter, List.mem_range]
    exact ⟨hx, by unfold usedAt; rw [e2]; exact hu2⟩
   ·refine len_sub (List.nodup_range.filter _) fun x hx => ?_
    rw [List.mem_filter, List.mem_range] at hx
    obtain ⟨hx1, hx2⟩ := hx
    unfold usedAt at hx2
    rw [List.getElem?_eq_getElem hx1] at hx2
    obtain ⟨b, ch, hb', e, hm⟩ := h.cov x _ (List.getElem?_eq_getElem hx1) hx2
    exact uni_of hb' e hm
  unfold tv tsz
  rw [hf, hb, hs]
  simp [h1, h2, h3, h4]
theorem TV.map {t : Tab} (h : TV t) {s p r : Int} {i : Nat} {f0 : Fr} (hk : kval (s, p) = true) (hn : fnd t.fs s p = none) (hi : t.fs[i]? = some f0) (hu : f0.used = false) (hr : inR r 8 = true) :
  TV ⟨t.bs.set (bkt t s p) i, t.fs.set i ⟨true, s, p, r, t.bs.getD (bkt t s p) 0⟩⟩ := by
 obtain ⟨h1, h2, h3, h4⟩ := h.sz
 obtain ⟨hb, he⟩ := bkt_in hk h3
 obtain ⟨hil, _⟩ := List.getElem?_eq_some_iff.1 hi
 have hout : ∀ {b : Nat} {ch : List Nat}, bch t b = some ch → i ∉ ch := fun e hm => by
  obtain ⟨f, e1, hf⟩ := bch_mem e i hm
  rw [hi] at e1
  injection e1 with e1
  rw [e1] at hu
  rw [hu] at hf; cases hf
 have hcg : ∀ {k : Nat} {x : Int} {ch : List Nat} {f : Fr}, chn t.fs k x = some ch → i ∉ ch → chn (t.fs.set i f) k x = some ch := fun e hm =>
  chn_congr e fun j hj g eg => ⟨g, by rw [set_ne (by rintro rfl; exact hm hj)]; exact eg, rfl, rfl⟩
 have hbn : ∀ {b : Nat} {ch : List Nat}, b ≠ bkt t s p → bch t b = some ch → bch ⟨t.bs.set (bkt t s p) i, t.fs.set i ⟨true, s, p, r, t.bs.getD (bkt t s p) 0⟩⟩ b = some ch := fun hne e => by
  obtain ⟨x, ex, ec⟩ := bch_some e
  rw [bch_of (t := ⟨t.bs.set (bkt t s p) i, _⟩) (i := x) (by rw [set_ne (fun e => hne e.symm)]; exact ex)]
  simp only [List.length_set]
  exact hcg ec (hout e)
 have hbe : ∀ {ch : List Nat}, bch t (bkt t s p) = some ch → bch ⟨t.bs.set (bkt t s p) i, t.fs.set i ⟨true, s, p, r, t.bs.getD (bkt t s p) 0⟩⟩ (bkt t s p) = some (i :: ch) := fun {ch} e => by
  obtain ⟨x, ex, ec⟩ := bch_some e
  rw [bch_of (t := ⟨t.bs.set (bkt t s p) i, _⟩) (i := (i : Int)) (set_eq hb)]
  simp only [List.length_set]
  have hl := chn_lt' ec hil (hout e)
  obtain ⟨m, hm⟩ : ∃ m, t.fs.length = m + 1 := ⟨t.fs.length - 1, by omega⟩
  rw [hm, chn_step m (set_eq hil) rfl]
  have hx : t.bs.getD (bkt t s p) 0 = x := by rw [List.getD_eq_getElem?_getD, ex]; rfl
  simp only [hx]
  rw [chn_more (show ch.length ≤ m by omega) (hcg (chn_self ec) (hout e))]
  rfl
 have hok' : ∀ {b j : Nat}, j ≠ i → hok t b j = true → hok ⟨t.bs.set (bkt t s p) i, t.fs.set i ⟨true, s, p, r, t.bs.getD (bkt t s p) 0⟩⟩ b j = true := fun hne e => by
  unfold hok at e ⊢
  simp only [List.length_set]
  rw [set_ne (fun e => hne e.symm)]
  exact e
 refine ⟨by simp only [List.length_set]; exact h.sz, fun j f e => ?_, fun j k f g ej ek hf hg hkk => ?_, fun b hb' => ?_, fun j f e hf => ?_⟩
 ·by_cases hj : i = j
  ·subst hj
   rw [set_eq hil] at e
   injection e with e
   subst e
   simp [frok, hk, hr]
  ·rw [set_ne hj] at e
   exact h.ok j f e
 ·by_cases hj : i = j
  ·subst hj
   rw [set_eq hil] at ej
   injection ej with ej
   subst ej
   by_cases hk2 : i = k
   ·exact hk2
   ·rw [set_ne hk2] at ek
    exact absurd hkk.symm (fnd_none hn ek hg)
  ·rw [set_ne hj] at ej
   by_cases hk2 : i = k
   ·subst hk2
    rw [set_eq hil] at ek
    injection ek with ek
    subst ek
    exact absurd hkk (fnd_none hn ej hf)
   ·rw [set_ne hk2] at ek
    exact h.key j k f g ej ek hf hg hkk
 ·simp only [List.length_set] at hb'
  obtain ⟨ch, e, hc⟩ := h.ch b hb'
  by_cases hbb : b = bkt t s p
  ·subst hbb
   refine ⟨_, hbe e, fun j hj => ?_⟩
   rcases List.mem_cons.1 hj with hji | hm
   ·subst hji
    unfold hok
    simp only [List.length_set]
    rw [set_eq hil]
    simp only
    rw [decide_eq_true_eq]
    exact he
   ·exact hok' (by rintro rfl; exact hout e hm) (hc j hm)
  ·exact ⟨ch, hbn hbb e, fun j hj => hok' (by rintro rfl; exact hout e hj) (hc j hj)⟩
 ·by_cases hj : i = j
  ·subst hj
   obtain ⟨ch, e1, _⟩ := h.ch _ hb
   exact ⟨_, _, by simp only [List.length_set]; exact hb, hbe e1, by simp⟩
  ·rw [set_ne hj] at e
   obtain ⟨b, ch, hb', e1, hm⟩ := h.cov j f e hf
   by_cases hbb : b = bkt t s p
   ·subst hbb
    exact ⟨_, _, by simp only [List.length_set]; exact hb', hbe e1, by simp [hm]⟩
   ·exact ⟨b, ch, by simp only [List.length_set]; exact hb', hbn hbb e1, hm⟩
theorem chn_next {fs : List Fr} {k : Nat} {x : Int} {ch : List Nat} (h : chn fs k x = some ch) {j i : Nat} {f : Fr} (hj : j ∈ ch) (e : fs[j]? = some f) (hn : f.n = (i : Int)) : i ∈ ch ∧ ∃ a r, ch = a ++ j :: i :: r := by
 obtain ⟨g, e1, hu, a, r, e2, h3⟩ := chn_mem h j hj
 rw [e] at e1
 injection e1 with e1
 subst e1
 obtain ⟨j', k', f', r', h4, h5, h6, h7, h8, h9⟩ := chn_cons h3 (by omega)
 have hjj : j' = j := by omega
 subst hjj
 rw [e] at h6
 injection h6 with h6
 subst h6
 injection h9 with _ h9
 subst h9
 rw [hn] at h8
 obtain ⟨i', _, _, r'', h10, _, _, _, _, h11⟩ := chn_cons h8 (by omega)
 have : i' = i := by omega
 subst this
 rw [h11] at e2
 exact ⟨by rw [e2]; simp, a, r'', e2⟩
theorem chn_cut {fs : List Fr} {i : Nat} {n : Int} {φ : Fr → Fr} (h1 : ∀ f, (φ f).used = f.used) (h2 : ∀ f, f.n ≠ (i : Int) → (φ f).n = f.n) (h3 : ∀ f, f.used = true → f.n = (i : Int) → (φ f).n = n) {fi : Fr} (hi : fs[i]? = some fi) (hn : fi.n = n) :
  ∀ {a r : List Nat} {k : Nat} {x : Int}, a ≠ [] → chn fs k x = some (a ++ i :: r) → chn ((fs.map φ).set i frz) k x = some (a ++ r) := by
 have hget : ∀ {j : Nat} {f : Fr}, j ≠ i → fs[j]? = some f → ((fs.map φ).set i frz)[j]? = some (φ f) := fun hne e => by
  rw [set_ne (fun e => hne e.symm), List.getElem?_map, e]; rfl
 intro a
 induction a with
 | nil => intro r k x h; exact absurd rfl h
 | cons j a ih =>
  intro r k x _ h
  have hnd := chn_nodup h
  have hx : x ≠ -1 := by rintro rfl; rw [chn_neg] at h; injection h with h; cases h
  obtain ⟨j', k', f, r', rfl, rfl, e, hu, hr, hc⟩ := chn_cons h hx
  injection hc with hjj hc
  subst hjj
  have hji : j ≠ i := by rintro rfl; simp at hnd
  have hstep := fun k => chn_step k (hget hji e) (by rw [h1]; exact hu)
  rw [hstep]
  subst hc
  cases a with
  | nil =>
   change chn fs k' f.n = some (i :: r) at hr
   have hni : f.n ≠ -1 := by rintro e2; rw [e2, chn_neg] at hr; injection hr with hr; cases hr
   obtain ⟨i', k2, g, r2, h4, h5, h6, h7, h8, h9⟩ := chn_cons hr hni
   injection h9 with h9 h10
   subst h9 h10
   rw [h3 f hu h4]
   rw [hi] at h6
   injection h6 with h6
   subst h6
   rw [hn] at h8
   subst h5
   have hnd2 : i ∉ r := by simp at hnd; exact hnd.2.1
   rw [chn_congr (fs' := (fs.map φ).set i frz) (chn_more (Nat.le_succ _) h8) (fun y hy g eg => by
    have hne : y ≠ i := by rintro rfl; exact hnd2 hy
    refine ⟨φ g, hget hne eg, h1 g, ?_⟩
    apply h2
    intro hgn
    exact hnd2 (chn_next h8 hy eg hgn).1)]
   rfl
  | cons j2 a =>
   have hni : f.n ≠ (i : Int) := by
    intro e2
    rw [e2] at hr
    obtain ⟨i', _, _, _, h4, _, _, _, _, h9⟩ := chn_cons hr (by omega)
    injection h9 with h9
    have : i' = i := by omega
    subst this
    subst h9
    simp at hnd
   rw [h2 f hni, ih (by simp) hr]
   rfl
theorem TV.unmap {t : Tab} (h : TV t) {i : Nat} {f0 : Fr} (hi : t.fs[i]? = some f0) (hu : f0.used = true) (hk : kval (f0.s, f0.p) = true) :
  TV (if t.bs.getD (bkt t f0.s f0.p) 0 = (i : Int) then ⟨t.bs.set (bkt t f0.s f0.p) f0.n, t.fs.set i frz⟩ else ⟨t.bs, (t.fs.map (relink i f0.n)).set i frz⟩) := by
 obtain ⟨_, _, hz3, _⟩ := h.sz
 obtain ⟨hil, _⟩ := List.getElem?_eq_some_iff.1 hi
 obtain ⟨hb, he⟩ := bkt_in hk hz3
 obtain ⟨ch0, e0, hc0⟩ := h.ch _ hb
 have hin : i ∈ ch0 := by
  obtain ⟨b, ch, hb', e1, hm⟩ := h.cov i f0 hi hu
  obtain ⟨ch2, e2, hc2⟩ := h.ch b hb'
  rw [e1] at e2
  injection e2 with e2
  subst e2
  obtain ⟨f, ef, hh⟩ := hok_parts (hc2 i hm)
  rw [hi] at ef
  injection ef with ef
  subst ef
  have : b = bkt t f0.s f0.p := by omega
  subst this
  rw [e1] at e0
  injection e0 with e0
  rw [← e0]; exact hm
 obtain ⟨x, ex, ec⟩ := bch_some e0
 have hx : t.bs.getD (bkt t f0.s f0.p) 0 = x := by rw [List.getD_eq_getElem?_getD, ex]; rfl
 obtain ⟨_, _, _, a, r, ea, hir⟩ := chn_mem ec i hin
 have hnd : (a ++ i :: r).Nodup := ea ▸ chn_nodup ec
 -- what both ways have in common
 have main : ∀ (bs' : List Int) (φ : Fr → Fr), bs'.length = t.bs.length → (∀ b, b ≠ bkt t f0.s f0.p → bs'[b]? = t.bs[b]?) → (∀ f, (φ f).used = f.used ∧ (φ f).s = f.s ∧ (φ f).p = f.p ∧ (φ f).r = f.r) → (∀ f, f.used = false → φ f = f) → (∀ f, f.n ≠ (i : Int) → (φ f).n = f.n) →
   bch ⟨bs', (t.fs.map φ).set i frz⟩ (bkt t f0.s f0.p) = some (a ++ r) → TV ⟨bs', (t.fs.map φ).set i frz⟩ := by
  intro bs' φ hl hbs p1 p2 p3 hch
  have hget : ∀ {j : Nat} {f : Fr}, j ≠ i → t.fs[j]? = some f → ((t.fs.map φ).set i frz)[j]? = some (φ f) := fun hne e => by
   rw [set_ne (fun e => hne e.symm), List.getElem?_map, e]; rfl
  have hget' : ∀ {j : Nat} {f : Fr}, j ≠ i → ((t.fs.map φ).set i frz)[j]? = some f → ∃ g, t.fs[j]? = some g ∧ f = φ g := fun {j f} hne e => by
   rw [set_ne (fun e => hne e.symm), List.getElem?_map] at e
   cases eg : t.fs[j]? with
   | none => rw [eg] at e; cases e
   | some g => rw [eg] at e; injection e with e; exact ⟨g, rfl, e.symm⟩
  have hgi : ((t.fs.map φ).set i frz)[i]? = some frz := set_eq (by rw [List.length_map]; exact hil)
  have hbn : ∀ {b : Nat} {ch : List Nat}, b ≠ bkt t f0.s f0.p → b < t.bs.length → bch t b = some ch → i ∉ ch ∧ bch ⟨bs', (t.fs.map φ).set i frz⟩ b = some ch := fun {b ch} hne hb' e => by
   have hni : i ∉ ch := fun hm => by
    obtain ⟨ch2, e2, hc2⟩ := h.ch b hb'
    rw [e] at e2
    injection e2 with e2
    subst e2
    obtain ⟨f, ef, hh⟩ := hok_parts (hc2 i hm)
    rw [hi] at ef
    injection ef with ef
    subst ef
    omega
   refine ⟨hni, ?_⟩
   obtain ⟨y, ey, ecy⟩ := bch_some e
   rw [bch_of (t := ⟨bs', (t.fs.map φ).set i frz⟩) (i := y) (by rw [hbs b hne]; exact ey)]
   simp only [List.length_set, List.length_map]
   exact chn_congr ecy fun j hj g eg => ⟨φ g, hget (by rintro rfl; exact hni hj) eg, (p1 g).1, p3 g fun hgn => hni (chn_next ecy hj eg hgn).1⟩
  have hok' : ∀ {b j : Nat}, j ≠ i → hok t b j = true → hok ⟨bs', (t.fs.map φ).set i frz⟩ b j = true := fun hne e => by
   obtain ⟨f, ef, hh⟩ := hok_parts e
   unfold hok
   rw [hget hne ef]
   simp only [hl]
   rw [decide_eq_true_eq, (p1 f).2.1, (p1 f).2.2.1]
   exact hh
  have har : ∀ j ∈ a ++ r, j ≠ i ∧ j ∈ ch0 := fun j hj => by
   refine ⟨?_, ?_⟩
   ·rintro rfl
    rw [List.nodup_append] at hnd
    rcases List.mem_append.1 hj with hm | hm
    ·exact hnd.2.2 j hm j (by simp) rfl
    ·exact (List.nodup_cons.1 hnd.2.1).1 hm
   ·rw [ea]
    rcases List.mem_append.1 hj with hm | hm
    ·exact List.mem_append.2 (.inl hm)
    ·exact List.mem_append.2 (.inr (by simp [hm]))
  refine ⟨by simp only [List.length_set, List.length_map, hl]; exact h.sz, fun j f e => ?_, fun j k f g ej ek hf hg hkk => ?_, fun b hb' => ?_, fun j f e hf => ?_⟩
  ·by_cases hj : j = i
   ·subst hj
    rw [hgi] at e
    injection e with e
    rw [← e]; decide
   ·obtain ⟨g, eg, rfl⟩ := hget' hj e
    have hg := h.ok j g eg
    cases hgu : g.used with
    | false => rw [p2 g hgu]; exact hg
    | true =>
     unfold frok at hg ⊢
     rw [(p1 g).1, (p1 g).2.1, (p1 g).2.2.1, (p1 g).2.2.2]
     rw [hgu] at hg ⊢
     simp only [if_true] at hg ⊢
     exact hg
  ·have hji : j ≠ i := by rintro rfl; rw [hgi] at ej; injection ej with ej; rw [← ej] at hf; cases hf
   have hki : k ≠ i := by rintro rfl; rw [hgi] at ek; injection ek with ek; rw [← ek] at hg; cases hg
   obtain ⟨f', ef, rfl⟩ := hget' hji ej
   obtain ⟨g', eg, rfl⟩ := hget' hki ek
   rw [(p1 f').1] at hf
   rw [(p1 g').1] at hg
   rw [(p1 f').2.1, (p1 f').2.2.1, (p1 g').2.1, (p1 g').2.2.1] at hkk
   exact h.key j k f' g' ef eg hf hg hkk
  ·simp only [hl] at hb'
   by_cases hbb : b = bkt t f0.s f0.p
   ·subst hbb
    refine ⟨_, hch, fun j hj => ?_⟩
    obtain ⟨h1, h2⟩ := har j hj
    exact hok' h1 (hc0 j h2)
   ·obtain ⟨ch, e1, hc⟩ := h.ch b hb'
    obtain ⟨h1, h2⟩ := hbn hbb hb' e1
    exact ⟨ch, h2, fun j hj => hok' (by rintro rfl; exact h1 hj) (hc j hj)⟩
  ·have hji : j ≠ i := by rintro rfl; rw [hgi] at e; injection e with e; rw [← e] at hf; cases hf
   obtain ⟨g, eg, rfl⟩ := hget' hji e
   rw [(p1 g).1] at hf
   obtain ⟨b, ch, hb', e1, hm⟩ := h.cov j g eg hf
   by_cases hbb : b = bkt t f0.s f0.p
   ·subst hbb
    rw [e0] at e1
    injection e1 with e1
    subst e1
    rw [ea] at hm
    refine ⟨_, _, by simp only [hl]; exact hb', hch, ?_⟩
    rcases List.mem_append.1 hm with hm | hm
    ·exact List.mem_append.2 (.inl hm)
    ·rcases List.mem_cons.1 hm with hm | hm
     ·exact absurd hm hji
     ·exact List.mem_append.2 (.inr hm)
   ·exact ⟨b, ch, by simp only [hl]; exact hb', (hbn hbb hb' e1).2, hm⟩
 rw [hx]
 by_cases hxi : x = (i : Int)
 ·rw [if_pos hxi]
  subst hxi
  have ha : a = [] := by
   cases a with
   | nil => rfl
   | cons j a =>
    exfalso
    rw [ea] at ec
    have := chn_same ec hir
    injection this with h1 h2
    have hl := congrArg List.length h2
    simp at hl
    omega
  subst ha
  have := main (t.bs.set (bkt t f0.s f0.p) f0.n) id (by simp) (fun b hb' => set_ne (fun e => hb' e.symm)) (fun f => ⟨rfl, rfl, rfl, rfl⟩) (fun f _ => rfl) (fun f _ => rfl) (by
   rw [List.map_id, bch_of (t := ⟨t.bs.set (bkt t f0.s f0.p) f0.n, t.fs.set i frz⟩) (i := f0.n) (set_eq hb)]
   simp only [List.length_set, List.nil_append]
   obtain ⟨i', k', g, r', h4, h5, h6, h7, h8, h9⟩ := chn_cons hir (by omega)
   injection h9 with h9 h10
   subst h9 h10
   rw [hi] at h6
   injection h6 with h6
   subst h6
   have hnr : i ∉ r := by simp at hnd; exact hnd.1
   exact chn_congr (chn_more (by omega) h8) fun j hj g eg => ⟨g, by rw [set_ne (by rintro rfl; exact hnr hj)]; exact eg, rfl, rfl⟩)
  rwa [List.map_id] at this
 ·rw [if_neg hxi]
  have hane : a ≠ [] := by
   rintro rfl
   rw [ea] at ec
   have hx1 : x ≠ -1 := by rintro rfl; rw [chn_neg] at ec; injection ec with ec; cases ec
   obtain ⟨i', _, _, _, h4, _, _, _, _, h9⟩ := chn_cons ec hx1
   injection h9 with h9
   subst h9
   exact hxi h4
  refine main t.bs (relink i f0.n) rfl (fun b _ => rfl) (fun f => by unfold relink; split <;> exact ⟨rfl, rfl, rfl, rfl⟩) (fun f hf => by unfold relink; rw [if_neg (by simp [hf])]) (fun f hf => by unfold relink; rw [if_neg (fun h => hf h.2)]) ?_
  rw [bch_of (t := ⟨t.bs, (t.fs.map (relink i f0.n)).set i frz⟩) (i := x) ex]
  simp only [List.length_set, List.length_map]
  rw [ea] at ec
  exact chn_cut (fun f => by unfold relink; split <;> rfl) (fun f hf => by unfold relink; rw [if_neg (fun h => hf h.2)]) (fun f hf hn => by unfold relink; rw [if_pos ⟨hf, hn⟩]) hi rfl hane ec
end Go.Proofs.YtibpnlojlfcpmaaGreatDoor
namespace Go.Proofs
open Go.Shelf
def Tryz.ksort_ren : Go.Shelf.Ren := ⟨fun | 6 => 75 | 15 => 150 | 14 => 149 | 28 => 209 | 29 => 210 | 20 => 201 | 21 => 202 | 22 => 203 | 23 => 204 | 24 => 205 | 25 => 206 | 26 => 207 | 27 => 208 | 46 => 235 | 47 => 236 | 48 => 237 | 49 => 238 | 50 => 239 | 57 => 246 | n => n, fun | 22 => 58 | 24 => 61 | 25 => 114 | 3 => 3 | 39 => 177 | 0 => 0 | 53 => 223 | 55 => 178 | 4 => 4 | 46 => 217 | 45 => 216 | 50 => 69 | 5 => 5 | 9 => 9 | 66 => 241 | 70 => 245 | 76 => 249 | 77 => 94 | n => n, fun | n => n⟩
theorem Tryz.ksort : Go.Proofs.SlLaysF0.n6 Tryz.prog Tryz.ksort_ren := {
 mixed := by kernel_rfl
 f6 := ⟨Tryz.f75.name, by decide, Tryz.func75.trans (congrArg some (by kernel_rfl))⟩
 f14 := ⟨Tryz.f149.name, by decide, Tryz.func149.trans (congrArg some (by kernel_rfl))⟩
 f15 := Tryz.func150.trans (congrArg some (by kernel_rfl))
 f20 := ⟨Tryz.f201.name, by decide, Tryz.func201.trans (congrArg some (by kernel_rfl))⟩
 f21 := ⟨Tryz.f202.name, by decide, Tryz.func202.trans (congrArg some (by kernel_rfl))⟩
 f22 := ⟨Tryz.f203.name, by decide, Tryz.func203.trans (congrArg some (by kernel_rfl))⟩
 f23 := ⟨Tryz.f204.name, by decide, Tryz.func204.trans (congrArg some (by kernel_rfl))⟩
 f24 := ⟨Tryz.f205.name, by decide, Tryz.func205.trans (congrArg some (by kernel_rfl))⟩
 f25 := ⟨Tryz.f206.name, by decide, Tryz.func206.trans (congrArg some (by kernel_rfl))⟩
 f26 := ⟨Tryz.f207.name, by decide, Tryz.func207.trans (congrArg some (by kernel_rfl))⟩
 f27 := ⟨Tryz.f208.name, by decide, Tryz.func208.trans (congrArg some (by kernel_rfl))⟩
 f28 := Tryz.func209.trans (congrArg some (by kernel_rfl))
 f29 := Tryz.func210.trans (congrArg some (by kernel_rfl))
 f46 := ⟨Tryz.f235.name, by decide, Tryz.func235.trans (congrArg some (by kernel_rfl))⟩
 f47 := Tryz.func236.trans (congrArg some (by kernel_rfl))
 f48 := Tryz.func237.trans (congrArg some (by kernel_rfl))
 f49 := ⟨Tryz.f238.name, by decide, Tryz.func238.trans (congrArg some (by kernel_rfl))⟩
 f50 := ⟨Tryz.f239.name, by decide, Tryz.func239.trans (congrArg some (by kernel_rfl))⟩
 f57 := ⟨Tryz.f246.name, by decide, Tryz.func246.trans (congrArg some (by kernel_rfl))⟩
 t0 := Tryz.underlying0
 a0 := Tryz.isAgg0
 z0 := Tryz.sizeOf0
 v0 := Tryz.zeroValue0
 t3 := Tryz.underlying3
 a3 := Tryz.isAgg3
 z3 := Tryz.sizeOf3
 v3 := Tryz.zeroValue3
 t4 := Tryz.underlying4
 a4 := Tryz.isAgg4
 z4 := Tryz.sizeOf4
 v4 := Tryz.zeroValue4
 t5 := Tryz.underlying5
 a5 := Tryz.isAgg5
 z5 := Tryz.sizeOf5
 v5 := Tryz.zeroValue5
 t9 := Tryz.underlying9
 a9 := Tryz.isAgg9
 z9 := Tryz.sizeOf9
 v9 := Tryz.zeroValue9
 t22 := Tryz.underlying58
 a22 := Tryz.isAgg58
 z22 := Tryz.sizeOf58
 v22 := Tryz.zeroValue58
 t25 := Tryz.underlying114
 a25 := Tryz.isAgg114
 z25 := Tryz.sizeOf114
 v25 := Tryz.zeroValue114
 t39 := Tryz.underlying177
 a39 := Tryz.isAgg177
 z39 := Tryz.sizeOf177
 v39 := Tryz.zeroValue177
 t45 := Tryz.underlying216
 a45 := Tryz.isAgg216
 z45 := Tryz.sizeOf216
 v45 := Tryz.zeroValue216
 t46 := Tryz.underlying217
 a46 := Tryz.isAgg217
 z46 := Tryz.sizeOf217
 v46 := Tryz.zeroValue217
 t50 := Tryz.underlying69
 a50 := Tryz.isAgg69
 z50 := Tryz.sizeOf69
 v50 := Tryz.zeroValue69
 t53 := Tryz.underlying223
 a53 := Tryz.isAgg223
 z53 := Tryz.sizeOf223
 v53 := Tryz.zeroValue223
 t55 := Tryz.underlying178
 a55 := Tryz.isAgg178
 z55 := Tryz.sizeOf178
 v55 := Tryz.zeroValue178
 t66 := Tryz.underlying241
 a66 := Tryz.isAgg241
 z66 := Tryz.sizeOf241
 v66 := Tryz.zeroValue241
 t70 := Tryz.underlying245
 a70 := Tryz.isAgg245
 z70 := Tryz.sizeOf245
 v70 := Tryz.zeroValue245
 t76 := Tryz.underlying249
 a76 := Tryz.isAgg249
 z76 := Tryz.sizeOf249
 v76 := Tryz.zeroValue249
 t77 := Tryz.underlying94
 a77 := Tryz.isAgg94
 z77 := Tryz.sizeOf94
 v77 := Tryz.zeroValue94 }
end Go.Proofs
