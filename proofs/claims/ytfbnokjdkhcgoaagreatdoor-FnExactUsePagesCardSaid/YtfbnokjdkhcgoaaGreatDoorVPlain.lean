/- A part of the proofs of this seat: Addr, Chain, Closed, Hash, Maps, Plain. -/
import Derived.Test.YtfbnokjdkhcgoaaGreatDoorRows
import Derived.JoinedOf
import Derived.KernelRfl
import Derived.Maps.OwnSet
import Derived.DeepKeys4
import Derived.Test.YtfbnokjdkhcgoaaGreatDoorVTab
set_option linter.unusedVariables false
set_option linter.unusedSimpArgs false
set_option maxRecDepth 1000000
namespace Go.Proofs.YtfbnokjdkhcgoaaGreatDoor
open Go.RowKit
def keyI (s p : Int) : Int := if 128 ≤ p then 0 else s
def mapOK (t : Tab) (s p fr r : Int) : Bool :=
 tv t && kval (s, p) && !decide (0 ≤ fndI t.fs s p) && inR fr t.fs.length && (match t.fs[fr.toNat]? with | some f => !f.used | none => false) && inR r 8
def bkt (t : Tab) (s p : Int) : Nat := (hsh s p t.bs.length).toNat
def mapT (t : Tab) (s p fr r : Int) : Tab := ⟨t.bs.set (bkt t s p) fr, t.fs.set fr.toNat ⟨true, s, p, r, t.bs.getD (bkt t s p) 0⟩⟩
def mapV (t : Tab) (s p fr r : Int) : Tab := if mapOK t s p fr r = true then mapT t s p fr r else tabz
def fOK (t : Tab) (s p : Int) : Bool := tv t && kval (s, p) && decide (0 ≤ fndI t.fs s p)
def relink (i n : Int) (f : Fr) : Fr := if f.used = true ∧ f.n = i then { f with n := n } else f
def unmT (t : Tab) (s p : Int) : Tab :=
 let i := fndI t.fs s p
 let n := (t.fs.getD i.toNat frz).n
 let b := bkt t s p
 if t.bs.getD b 0 = i then ⟨t.bs.set b n, t.fs.set i.toNat frz⟩ else ⟨t.bs, (t.fs.map (relink i n)).set i.toNat frz⟩
def unmV (t : Tab) (s p : Int) : Tab := if fOK t s p = true then unmT t s p else tabz
def tagv (n : Int) : Bool := decide (-1 ≤ n) && decide (n < 8)
def lnok (x : Ln) : Bool := if x.v = true then tagv x.t && inR x.p 256 && inR x.f 16 && inR x.r 8 else decide (x = lnz)
def clash (x y : Ln) : Bool := x.v && y.v && decide (x.p = y.p) && (decide (x.t = y.t) || decide (x.t = -1) || decide (y.t = -1))
def lok (ls : List Ln) : Nat → Bool
 | 0 => true
 | i + 1 => lok ls i && (match ls[i]? with | some x => lnok x && (ls.take i).all (fun y => !clash x y) | none => false)
def cav (c : Ca) : Bool := decide (1 ≤ c.ls.length) && decide (c.ls.length ≤ 8) && inR c.hand c.ls.length && lok c.ls c.ls.length && c.ls.any (fun x => !x.w)
def fits (tag page : Int) (x : Ln) : Bool := x.v && decide (x.p = page) && (decide (x.t = tag) || decide (x.t = -1))
def plc (ls : List Ln) (tag page : Int) : Option Nat := ls.findIdx? (fits tag page)
def plcI (ls : List Ln) (tag page : Int) : Int := match plc ls tag page with | some i => i | none => -1
def vicFrom (ls : List Ln) : Nat → Nat → Nat
 | 0, at_ => at_
 | k + 1, at_ => match ls[at_]? with
  | some x => if x.w = true then vicFrom ls k ((at_ + 1) % ls.length) else at_
  | none => at_
def vic (c : Ca) : Nat := match c.ls.findIdx? (fun x => !x.v) with
 | some i => i
 | none => vicFrom c.ls c.ls.length c.hand.toNat
def filC (c : Ca) (x : Ln) : Ca := ⟨c.ls.set (vic c) x, match c.ls[vic c]? with | some y => if y.v = true then ((vic c : Int) + 1) % c.ls.length else c.hand | none => c.hand⟩
def filOK (c : Ca) (x : Ln) : Bool := cav c && x.v && lnok x && !decide (0 ≤ plcI c.ls x.t x.p) && cav (filC c x)
def filV (c : Ca) (x : Ln) : Ca := if filOK c x = true then filC c x else caz
def tok (os : List (Int × Int)) (next : Int) : Nat → Bool
 | 0 => true
 | i + 1 => tok os next i && (match os[i]? with
  | some o => inR o.1 16 && decide (0 ≤ o.2) && decide (o.2 < next) && (match i with | 0 => true | j + 1 => (match os[j]? with | some q => decide (q.2 < o.2) | none => false)) && (os.take i).all (fun q => decide (¬ q.1 = o.1))
  | none => false)
def tgv (g : Tg) : Bool := decide (1 ≤ g.count) && decide (g.count ≤ 8) && decide (0 ≤ g.next) && decide (g.next ≤ g.count) && decide (0 ≤ g.round) && decide (g.round ≤ 1000000) && tok g.os g.next g.os.length
def own (os : List (Int × Int)) (s : Int) : Option Nat := os.findIdx? (fun o => decide (o.1 = s))
def ownI (os : List (Int × Int)) (s : Int) : Int := match own os s with | some i => i | none => -1
def spc (os : List (Int × Int)) (tag : Int) : Option Nat := os.findIdx? (fun o => decide (o.2 = tag))
def lnM (m : Ma) (x : Ln) : Bool :=
  if x.v = true then
    decide ((128 ≤ x.p) ↔ x.t = -1) && (!x.w || decide (128 ≤ x.p)) &&
    (let sp : Option Int := if 128 ≤ x.p then some 0 else match spc m.g.os x.t with | some i => some (m.g.os.getD i (0, 0)).1 | none => none
     match sp with
     | some s => (match fnd m.t.fs (keyI s x.p) x.p with | some i => decide ((i : Int) = x.f) && decide ((m.t.fs.getD i frz).r = x.r) | none => false)
     | none => false)
  else true
def frM (f : Fr) : Bool := !(f.used && decide (128 ≤ f.p) && !decide (f.s = 0))
def mav (m : Ma) : Bool := tv m.t && cav m.c && tgv m.g && decide (0 ≤ ownI m.g.os m.sp) && m.t.fs.all frM && m.c.ls.all (lnM m)
theorem inR_iff {n e : Int} : inR n e = true ↔ 0 ≤ n ∧ n < e := by unfold inR; rw [Bool.and_eq_true, decide_eq_true_eq, decide_eq_true_eq]
theorem bool_ff {b : Bool} (h : ¬ b = true) : b = false := by simpa using h
theorem l1Space_any (n : Int) (w : World) : Calls Tryz.prog 198 #[.int .i64 n] w fun r w' => r = .returned (.bool (inR n 16)) ∧ w = w' := by
 by_cases h0 : 0 ≤ n
 ·have H : Hid (inR n 16 = decide (n < 16)) := by simp [Hid, inR, h0]
  go_enter Tryz.func198, Tryz.ntmps198
  go_wp2
  go_ret
  exact ⟨by rw [H.out]; rfl, rfl⟩
 ·have H : Hid (inR n 16 = false) := by simp [Hid, inR, h0]
  go_enter Tryz.func198, Tryz.ntmps198
  go_wp2
  go_ret
  exact ⟨by rw [H.out]; rfl, rfl⟩
theorem l1Page_any (n : Int) (w : World) : Calls Tryz.prog 48 #[.int .i64 n] w fun r w' => r = .returned (.bool (inR n 256)) ∧ w = w' := by
 by_cases h0 : 0 ≤ n
 ·have H : Hid (inR n 256 = decide (n < 256)) := by simp [Hid, inR, h0]
  go_enter Tryz.func48, Tryz.ntmps48
  go_wp2
  go_ret
  exact ⟨by rw [H.out]; rfl, rfl⟩
 ·have H : Hid (inR n 256 = false) := by simp [Hid, inR, h0]
  go_enter Tryz.func48, Tryz.ntmps48
  go_wp2
  go_ret
  exact ⟨by rw [H.out]; rfl, rfl⟩
theorem one_box {w w1 : World} {t : TypeId} {cs : Array Value} (hb : Below (w.alloc (.cells cs t)).heap.size (w.alloc (.cells cs t)) w1) : Own w1 w.heap.size t cs ∧ Below w.heap.size w w1 :=
 ⟨(Own.new_ w t cs).below hb, bT (bA bR) hb⟩
theorem kval_iff {s p : Int} : kval (s, p) = true ↔ (0 ≤ s ∧ s < 16) ∧ (0 ≤ p ∧ p < 256) := by
 unfold kval; rw [Bool.and_eq_true, inR_iff, inR_iff]
theorem hsh_in {s p nb : Int} (h : kval (s, p) = true) (h1 : 1 ≤ nb) : 0 ≤ hsh s p nb ∧ hsh s p nb < nb := by
 obtain ⟨⟨h2, h3⟩, h4, h5⟩ := kval_iff.1 h
 unfold hsh
 have hm0 : 0 ≤ (s * 256 + p) * 2654435761 % 4294967296 := Int.emod_nonneg _ (by omega)
 have hm1 : (s * 256 + p) * 2654435761 % 4294967296 < 4294967296 := Int.emod_lt_of_pos _ (by omega)
 generalize (s * 256 + p) * 2654435761 % 4294967296 = m at *
 have h0 : 0 ≤ m * nb := Int.mul_nonneg hm0 (by omega)
 refine ⟨Int.ediv_nonneg h0 (by omega), Int.ediv_lt_of_lt_mul (by omega) ?_⟩
 rw [Int.mul_comm nb]
 exact Int.mul_lt_mul_of_pos_right hm1 (by omega)
theorem bkt_in {t : Tab} {s p : Int} (h : kval (s, p) = true) (h1 : 1 ≤ t.bs.length) : bkt t s p < t.bs.length ∧ hsh s p t.bs.length = (bkt t s p : Int) := by
 have := hsh_in (nb := t.bs.length) h (by omega)
 unfold bkt
 omega
theorem bucketsValid_any (n : Int) (w : World) : Calls Tryz.prog 74 #[.int .i64 n] w fun r w' => r = .returned (.bool (decide (1 ≤ n) && decide (n ≤ 16))) ∧ w = w' := by
 by_cases h0 : 1 ≤ n
 ·have H : Hid ((decide (1 ≤ n) && decide (n ≤ 16)) = decide (n ≤ 16)) := by simp [Hid, h0]
  go_enter Tryz.func74, Tryz.ntmps74
  go_wp2
  go_ret
  exact ⟨by rw [H.out]; rfl, rfl⟩
 ·have H : Hid ((decide (1 ≤ n) && decide (n ≤ 16)) = false) := by simp [Hid, h0]
  go_enter Tryz.func74, Tryz.ntmps74
  go_wp2
  go_ret
  exact ⟨by rw [H.out]; rfl, rfl⟩
theorem l2Buckets_any (n : Int) (w : World) : Calls Tryz.prog 195 #[.int .i64 n] w fun r w' => r = .returned (.bool (decide (1 ≤ n) && decide (n ≤ 16))) ∧ w = w' := by
 by_cases h0 : 1 ≤ n
 ·have H : Hid ((decide (1 ≤ n) && decide (n ≤ 16)) = decide (n ≤ 16)) := by simp [Hid, h0]
  go_enter Tryz.func195, Tryz.ntmps195
  go_wp2
  go_ret
  exact ⟨by rw [H.out]; rfl, rfl⟩
 ·have H : Hid ((decide (1 ≤ n) && decide (n ≤ 16)) = false) := by simp [Hid, h0]
  go_enter Tryz.func195, Tryz.ntmps195
  go_wp2
  go_ret
  exact ⟨by rw [H.out]; rfl, rfl⟩
theorem RightsValid_any (n : Int) (w : World) : Calls Tryz.prog 38 #[.int .i64 n] w fun r w' => r = .returned (.bool (inR n 8)) ∧ w = w' := by
 go_enter Tryz.func38, Tryz.ntmps38
 go_wp2_with (go_at_call 37; refine (within_any _ _ _).mono ?_; rintro e w' ⟨rfl, rfl⟩)
 go_ret
 exact ⟨rfl, rfl⟩
theorem inR8 (n : Int) : inR n 8 = (decide (0 ≤ n) && decide (n ≤ 7)) := by
 unfold inR
 by_cases h : n ≤ 7
 ·rw [decide_eq_true h, decide_eq_true (show n < 8 by omega)]
 ·rw [decide_eq_false h, decide_eq_false (show ¬ n < 8 by omega)]
theorem sRightsValid_any (n : Int) (w : World) : Calls Tryz.prog 49 #[.int .i64 n] w fun r w' => r = .returned (.bool (inR n 8)) ∧ w = w' := by
 by_cases h0 : 0 ≤ n
 ·have H : Hid (inR n 8 = decide (n ≤ 7)) := by show _ = _; rw [inR8]; simp [h0]
  go_enter Tryz.func49, Tryz.ntmps49
  go_wp2
  go_ret
  exact ⟨by rw [H.out]; rfl, rfl⟩
 ·have H : Hid (inR n 8 = false) := by show _ = _; rw [inR8]; simp [h0]
  go_enter Tryz.func49, Tryz.ntmps49
  go_wp2
  go_ret
  exact ⟨by rw [H.out]; rfl, rfl⟩
theorem sKeyValid_any (a b : Int) (w : World) : Calls Tryz.prog 212 #[.agg #[.int .i64 a, .int .i64 b]] w fun r w' => r = .returned (.bool (kval (a, b))) ∧ Below w.heap.size w w' := by
 by_cases h0 : inR a 16 = true
 ·have H : Hid (kval (a, b) = inR b 256) := by simp [Hid, kval, h0]
  go_enter Tryz.func212, Tryz.ntmps212
  go_wp2_with (first | (go_at_call 198; refine (l1Space_any _ _).mono ?_; rintro e w' ⟨rfl, rfl⟩) | (go_at_call 48; refine (l1Page_any _ _).mono ?_; rintro e w' ⟨rfl, rfl⟩))
  go_ret
  exact ⟨by rw [H.out]; rfl, bA bR⟩
 ·have h0 : inR a 16 = false := by simpa using h0
  have H : Hid (kval (a, b) = false) := by simp [Hid, kval, h0]
  go_enter Tryz.func212, Tryz.ntmps212
  go_wp2_with (first | (go_at_call 198; refine (l1Space_any _ _).mono ?_; rintro e w' ⟨rfl, rfl⟩) | (go_at_call 48; refine (l1Page_any _ _).mono ?_; rintro e w' ⟨rfl, rfl⟩))
  go_ret
  exact ⟨by rw [H.out]; rfl, bA bR⟩
theorem l2Hash_any (s p nb : Int) (w : World) (hk : kval (s, p) = true) (hn : 1 ≤ nb ∧ nb ≤ 16) :
  Calls Tryz.prog 94 #[.agg #[.int .i64 s, .int .i64 p], .int .i64 nb] w fun r w' => r = .returned (.int .i64 (hsh s p nb)) ∧ Below w.heap.size w w' := by
 obtain ⟨⟨h2, h3⟩, h4, h5⟩ := kval_iff.1 hk
 have hm0 : 0 ≤ (s * 256 + p) * 2654435761 % 4294967296 := Int.emod_nonneg _ (by omega)
 have hm1 : (s * 256 + p) * 2654435761 % 4294967296 < 4294967296 := Int.emod_lt_of_pos _ (by omega)
 have H : Hid (hsh s p nb = (s * 256 + p) * 2654435761 % 4294967296 * nb / 4294967296) := rfl
 have h0 : 0 ≤ (s * 256 + p) * 2654435761 % 4294967296 * nb := Int.mul_nonneg hm0 (by omega)
 have hb : (s * 256 + p) * 2654435761 % 4294967296 * nb ≤ 4294967296 * 16 := Int.mul_le_mul (by omega) hn.2 (by omega) (by omega)
 have hd0 : 0 ≤ (s * 256 + p) * 2654435761 % 4294967296 * nb / 4294967296 := Int.ediv_nonneg h0 (by omega)
 have hd1 : (s * 256 + p) * 2654435761 % 4294967296 * nb / 4294967296 ≤ 16 := by omega
 have k1 : IntKind.i64.wrap (s * 256) = s * 256 := IntWalk.i64_in _ (by omega)
 have k2 : IntKind.i64.wrap (s * 256 + p) = s * 256 + p := IntWalk.i64_in _ (by omega)
 have k3 : IntKind.i64.wrap ((s * 256 + p) * 2654435761) = (s * 256 + p) * 2654435761 := IntWalk.i64_in _ (by omega)
 have k4 : IntKind.i64.wrap ((s * 256 + p) * 2654435761 % 4294967296 * nb) = (s * 256 + p) * 2654435761 % 4294967296 * nb := IntWalk.i64_in _ (by omega)
 have k5 : IntKind.i64.wrap ((s * 256 + p) * 2654435761 % 4294967296 * nb / 4294967296) = (s * 256 + p) * 2654435761 % 4294967296 * nb / 4294967296 := IntWalk.i64_in _ (by omega)
 go_enter Tryz.func94, Tryz.ntmps94
 go_wp2
 go_ret
 exact ⟨by rw [H.out]; rfl, bA bR⟩
theorem hash_any (s p nb : Int) (w : World) (hk : kval (s, p) = true) (hn : 1 ≤ nb ∧ nb ≤ 16) :
  Calls Tryz.prog 59 #[.agg #[.int .i64 s, .int .i64 p], .int .i64 nb] w fun r w' => r = .returned (.int .i64 (hsh s p nb)) ∧ Below w.heap.size w w' := by
 obtain ⟨⟨h2, h3⟩, h4, h5⟩ := kval_iff.1 hk
 have hm0 : 0 ≤ (s * 256 + p) * 2654435761 % 4294967296 := Int.emod_nonneg _ (by omega)
 have hm1 : (s * 256 + p) * 2654435761 % 4294967296 < 4294967296 := Int.emod_lt_of_pos _ (by omega)
 have H : Hid (hsh s p nb = (s * 256 + p) * 2654435761 % 4294967296 * nb / 4294967296) := rfl
 have h0 : 0 ≤ (s * 256 + p) * 2654435761 % 4294967296 * nb := Int.mul_nonneg hm0 (by omega)
 have hb : (s * 256 + p) * 2654435761 % 4294967296 * nb ≤ 4294967296 * 16 := Int.mul_le_mul (by omega) hn.2 (by omega) (by omega)
 have hd0 : 0 ≤ (s * 256 + p) * 2654435761 % 4294967296 * nb / 4294967296 := Int.ediv_nonneg h0 (by omega)
 have hd1 : (s * 256 + p) * 2654435761 % 4294967296 * nb / 4294967296 ≤ 16 := by omega
 have k1 : IntKind.i64.wrap (s * 256) = s * 256 := IntWalk.i64_in _ (by omega)
 have k2 : IntKind.i64.wrap (s * 256 + p) = s * 256 + p := IntWalk.i64_in _ (by omega)
 have k3 : IntKind.i64.wrap ((s * 256 + p) * 2654435761) = (s * 256 + p) * 2654435761 := IntWalk.i64_in _ (by omega)
 have k4 : IntKind.i64.wrap ((s * 256 + p) * 2654435761 % 4294967296 * nb) = (s * 256 + p) * 2654435761 % 4294967296 * nb := IntWalk.i64_in _ (by omega)
 have k5 : IntKind.i64.wrap ((s * 256 + p) * 2654435761 % 4294967296 * nb / 4294967296) = (s * 256 + p) * 2654435761 % 4294967296 * nb / 4294967296 := IntWalk.i64_in _ (by omega)
 have u1 : IntKind.u64.wrap (s * 256 + p) = s * 256 + p := by rw [IntKind.wrap_u64]; omega
 have u2 : IntKind.u64.wrap ((s * 256 + p) * 2654435761) = (s * 256 + p) * 2654435761 := by rw [IntKind.wrap_u64]; omega
 have u3 : IntKind.u64.wrap nb = nb := by rw [IntKind.wrap_u64]; omega
 have u4 : IntKind.u64.wrap ((s * 256 + p) * 2654435761 % 4294967296 * nb) = (s * 256 + p) * 2654435761 % 4294967296 * nb := by rw [IntKind.wrap_u64]; omega
 go_enter Tryz.func59, Tryz.ntmps59
 go_wp2
 go_ret
 exact ⟨by rw [H.out]; rfl, bA bR⟩
theorem int_info2 : (Tryz.prog.info? 3).map (fun i => (i.zero, i.size, i.bytes)) = some (some (.int .i64 0), 1, 8) := by kernel_rfl
theorem run_append_i (base : Nat) (W : World) (v : Value) (n : Nat) (l : List Int) (x : Int) (hown : W.ownsRow base 3 1 v n (intE.cells l)) (hn : l.length = n) (hs : n ≤ 1048576) (hb : base ≤ W.heap.size) :
  ∃ v' w', (Builtin.append_ #[23, 23] 23 #[v, .slice (some ⟨W.heap.size, 0, none⟩) 1 1]).run Tryz.prog (W.alloc (.cells #[.int .i64 x] 3)) = .ok v' w' ∧
   w'.ownsRow base 3 1 v' (n + 1) (intE.cells (l ++ [x])) ∧ (W.alloc (.cells #[.int .i64 x] 3)).grownBy w' v.ownBlock ∧ (v'.ownBlock = v.ownBlock ∨ v'.ownBlock = some (W.heap.size + 1)) := by
 obtain ⟨i0, hi0, hz0, hz1, hz2⟩ := info_parts int_info2
 exact run_append_el intE 23 3 i0 _ 8 Tryz.underlying23 hi0 hz0 hz1 hz2 rfl (by omega) base W v n l x hown hn hs hb
theorem Rd.i1 {B : Nat} {w : World} {A : Option Addr} {l : List Int} (h : Rs intE B w A l) {k : Nat} {x : Int} (hk : l[k]? = some x) :
  ∃ b o, A = some ⟨b, o, none⟩ ∧ b < B ∧ w.cell? ⟨b, o + k, none⟩ = some (.int .i64 x) := by
 obtain ⟨b, o, e, hb, hc⟩ := h.el hk
 have := hc 0 _ rfl
 exact ⟨b, o, e, hb, by simpa [intE] using this⟩
theorem Rd.fr {B : Nat} {w : World} {A : Option Addr} {l : List Fr} (h : Rs frE B w A l) {k : Nat} {f : Fr} (hk : l[k]? = some f) :
  ∃ b o, A = some ⟨b, o, none⟩ ∧ b < B ∧ w.cell? ⟨b, o + k * 5, none⟩ = some (.bool f.used) ∧ w.cell? ⟨b, o + k * 5 + 1, none⟩ = some (.int .i64 f.s) ∧ w.cell? ⟨b, o + k * 5 + 2, none⟩ = some (.int .i64 f.p)
   ∧ w.cell? ⟨b, o + k * 5 + 3, none⟩ = some (.int .i64 f.r) ∧ w.cell? ⟨b, o + k * 5 + 4, none⟩ = some (.int .i64 f.n) := by
 obtain ⟨b, o, e, hb, hc⟩ := h.el hk
 exact ⟨b, o, e, hb, hc 0 _ rfl, hc 1 _ rfl, hc 2 _ rfl, hc 3 _ rfl, hc 4 _ rfl⟩
theorem fnd_chain {t : Tab} (h : tv t = true) {s p : Int} (hk : kval (s, p) = true) :
  ∃ ch, bch t (bkt t s p) = some ch ∧ (∀ i, fnd t.fs s p = some i → i ∈ ch) ∧ (∀ j ∈ ch, ∀ f, t.fs[j]? = some f → (f.s, f.p) = (s, p) → fnd t.fs s p = some j) := by
 obtain ⟨⟨_, _, h1, _⟩, h5, h3, _⟩ := tv_parts h
 obtain ⟨hb, he⟩ := bkt_in hk h1
 obtain ⟨ch, e, hc⟩ := bok_parts (boks_at h3 hb)
 refine ⟨ch, e, fun i hi => ?_, fun j hj f ef hf => ?_⟩
 ·obtain ⟨f, ef, hu, hkk⟩ := fnd_some hi
  obtain ⟨b, ch', _, e', hm, hh⟩ := tv_in h ef hu
  injection hkk with g1 g2
  rw [g1, g2, he] at hh
  have : b = bkt t s p := by omega
  subst this
  rw [e] at e'
  injection e' with e'
  rw [e']; exact hm
 ·obtain ⟨g, eg, hu⟩ := bch_mem e j hj
  rw [ef] at eg
  injection eg with eg
  subst eg
  exact fnd_of h5 ef hu hf
end Go.Proofs.YtfbnokjdkhcgoaaGreatDoor
namespace Go.Proofs.YtfbnokjdkhcgoaaGreatDoor
open Go.RowKit Go.Maps Go.WideMaps
theorem laidOutK : laidOutB Tryz.prog = true := by kernel_rfl
theorem klaw : Keyed Tryz.prog 54 := Keyed.of_law (deep_law_laid laidOutK (m := 2) (by omega) (of_decide_eq_true (by kernel_rfl)) (by kernel_rfl) (by rw [Tryz.underlying54]))
theorem kcellsOf : Program.cellsOf Tryz.prog 54 = 2 := by kernel_rfl
theorem icellsOf : Program.cellsOf Tryz.prog 3 = 1 := by kernel_rfl
theorem kkey : Program.keyType Tryz.prog 54 = true := by kernel_rfl
theorem ksize : 0 < Tryz.prog.types.size := of_decide_eq_true (by kernel_rfl)
def klit (x y : Int) : Lit := .string (keyBytes [.int .i64 x, .int .i64 y])
theorem key_of {x y : Int} (hx : (Lit.int .i64 x).wf = true) (hy : (Lit.int .i64 y).wf = true) : keyOf Tryz.prog 54 (.agg #[.int .i64 x, .int .i64 y]) = some (klit x y) := by
 obtain ⟨m, hm⟩ : ∃ m, Tryz.prog.types.size = m + 1 := ⟨_, (Nat.succ_pred_eq_of_pos ksize).symm⟩
 have hf : (Value.agg #[.int .i64 x, .int .i64 y]).formed Tryz.prog 54 = true := by
  unfold Value.formed
  rw [Tryz.underlying54]
  simp [kcellsOf]
 have hk : Tryz.prog.keyLits (Tryz.prog.types.size + 1) 54 [.int .i64 x, .int .i64 y] = some [.int .i64 x, .int .i64 y] := by
  rw [hm]
  unfold Program.keyLits
  rw [Tryz.underlying54]
  simp [kcellsOf]
  have h3 : ∀ z : Int, (Lit.int .i64 z).wf = true → Tryz.prog.keyLits (m + 1) 3 [.int .i64 z] = some [.int .i64 z] := by
   intro z hz
   unfold Program.keyLits
   rw [Tryz.underlying3]
   simp [hz]
  rw [icellsOf]
  show ((Tryz.prog.keyLits (m + 1) 3 [.int .i64 x]).bind (Option.map List.flatten ∘ fun a => ((Tryz.prog.keyLits (m + 1) 3 [.int .i64 y]).bind fun b => some [b]).bind fun c => some (a :: c))) = _
  rw [h3 x hx, h3 y hy]
  rfl
 unfold keyOf
 rw [Tryz.underlying54]
 show (if (Tryz.prog.keyType 54 && (Value.agg #[.int .i64 x, .int .i64 y]).formed Tryz.prog 54) = true then _ else _) = _
 rw [kkey, hf]
 show (Tryz.prog.keyLits (Tryz.prog.types.size + 1) 54 [.int .i64 x, .int .i64 y]).map _ = _
 rw [hk]
 rfl
theorem klit_inj {x y x' y' : Int} (hx : (Lit.int .i64 x).wf = true) (hy : (Lit.int .i64 y).wf = true) (hx' : (Lit.int .i64 x').wf = true) (hy' : (Lit.int .i64 y').wf = true) (h : klit x y = klit x' y') : (x, y) = (x', y') := by
 have h1 := key_of hx hy
 rw [h] at h1
 have := klaw.inj h1 (key_of hx' hy')
 injection this with e
 injection e with e
 injection e with e1 e2
 injection e2 with e2 _
 injection e1 with _ e1
 injection e2 with _ e2
 rw [e1, e2]
theorem kval_wf {x y : Int} (h : kval (x, y) = true) : (Lit.int .i64 x).wf = true ∧ (Lit.int .i64 y).wf = true := by
 unfold kval inR at h
 simp at h
 exact ⟨WalkArith.wf_i64 (by omega), WalkArith.wf_i64 (by omega)⟩
theorem plainElem_bool_inv {v : Value} {z : DataW Unit × List MemPlace} (h : plainElem Tryz.prog 4 v = some z) : ∃ a, v = .bool a ∧ z = (.lit (.bool a), []) := by
 unfold plainElem at h
 rw [Tryz.underlying4] at h
 cases v <;> simp at h
 obtain rfl := h
 exact ⟨_, rfl, rfl⟩
theorem bool_info : (Tryz.prog.info? 4).map (fun i => i.zero) = some (some (.bool false)) := by kernel_rfl
theorem zero_bool (w : World) : (zeroValue 4).run Tryz.prog w = .ok (.bool false) w := by
 obtain ⟨i, hi, hz⟩ := Option.map_eq_some_iff.1 bool_info
 simp [zeroValue, typeInfo, hi, hz]
structure SetD {α : Type} [DecidableEq α] (kof : α → Lit) (ok : α → Prop) (S : List α) (D : DataW Unit) : Prop where
 tidy : Tidy D
 siz : size D = S.length
 has_ : ∀ a, ok a → has D (kof a) = decide (a ∈ S)
 at_ : ∀ a, ok a → D.atKey (kof a) (.lit (.bool false)) = .lit (.bool (decide (a ∈ S)))
section
variable {α : Type} [DecidableEq α] {kof : α → Lit} {ok : α → Prop}
theorem SetD.nil_ : SetD kof ok [] (.map []) := ⟨tidy_empty, rfl, fun _ _ => rfl, fun _ _ => rfl⟩
theorem SetD.add {S : List α} {D : DataW Unit} {a : α} (h : SetD kof ok S D) (ha : ok a) (hkl : WideAt.IsKeyLit (kof a)) (hinj : ∀ a b, ok a → ok b → kof a = kof b → a = b) (hn : a ∉ S) : SetD kof ok (S ++ [a]) (D.put (kof a) (.lit (.bool true))) := by
 refine ⟨h.tidy.put hkl _, ?_, fun b hb => ?_, fun b hb => ?_⟩
 ·rw [size_put h.tidy, h.has_ a ha, h.siz]
  simp [hn]
 ·by_cases hk : kof b = kof a
  ·have := hinj b a hb ha hk
   subst this
   rw [has_put_same h.tidy.isMap hkl]
   simp
  ·rw [has_put_other hk, h.has_ b hb]
   have : b ≠ a := fun e => hk (by rw [e])
   simp [this]
 ·by_cases hk : kof b = kof a
  ·have := hinj b a hb ha hk
   subst this
   rw [atKey_put_same h.tidy.isMap hkl]
   simp
  ·rw [atKey_put_other hk, h.at_ b hb]
   have : b ≠ a := fun e => hk (by rw [e])
   simp [this]
end
def kok (a : Key) : Prop := (Lit.int .i64 a.1).wf = true ∧ (Lit.int .i64 a.2).wf = true
abbrev SetK (S : List Key) (D : DataW Unit) : Prop := SetD (fun a : Key => klit a.1 a.2) kok S D
theorem setk_add {S : List Key} {D : DataW Unit} {x y : Int} (h : SetK S D) (ha : kok (x, y)) (hn : (x, y) ∉ S) : SetK (S ++ [(x, y)]) (D.put (klit x y) (.lit (.bool true))) :=
 SetD.add (kof := fun a : Key => klit a.1 a.2) (a := (x, y)) h ha (klaw.key (key_of ha.1 ha.2)) (fun _ _ h1 h2 e => klit_inj h1.1 h1.2 h2.1 h2.2 e) hn
theorem setk_look {S : List Key} {D : DataW Unit} {w : World} {b n : Nat} {x y : Int} (ho : w.ownsMap Tryz.prog 54 (plainElem Tryz.prog 4) b n D) (h : SetK S D) (ha : kok (x, y)) :
  (Instr.lookup 120 (.map (some b)) (.agg #[.int .i64 x, .int .i64 y]) false).run Tryz.prog w = .ok (.bool (decide ((x, y) ∈ S))) w := by
 obtain ⟨v, ps, hrun, hv⟩ := ho.lookup klaw Tryz.underlying120 (zero_bool w) (plainElem_bool Tryz.underlying4 false) (key_of ha.1 ha.2)
 obtain ⟨c, rfl, hc⟩ := plainElem_bool_inv hv
 injection hc with hc
 rw [h.at_ (x, y) ha] at hc
 injection hc with hc
 injection hc with hc
 have e : c = decide ((x, y) ∈ S) := by rw [← hc]; exact decide_eq_decide.2 Iff.rfl
 rw [e] at hrun
 exact hrun
def iok (a : Int) : Prop := (Lit.int .i64 a).wf = true
abbrev SetI (S : List Int) (D : DataW Unit) : Prop := SetD (fun a : Int => Lit.int .i64 a) iok S D
theorem ilaw : Keyed Tryz.prog 3 := int_keyed Tryz.underlying3
theorem ikey_of {a : Int} (h : iok a) : keyOf Tryz.prog 3 (.int .i64 a) = some (.int .i64 a) := by
 unfold iok at h
 unfold keyOf
 rw [Tryz.underlying3]
 simp [mapKey, Tryz.underlying3, h]
theorem seti_add {S : List Int} {D : DataW Unit} {x : Int} (h : SetI S D) (ha : iok x) (hn : x ∉ S) : SetI (S ++ [x]) (D.put (.int .i64 x) (.lit (.bool true))) :=
 SetD.add (kof := fun a : Int => Lit.int .i64 a) (a := x) h ha (ilaw.key (ikey_of ha)) (fun _ _ _ _ e => by injection e) hn
theorem seti_look {S : List Int} {D : DataW Unit} {w : World} {b n : Nat} {x : Int} (ho : w.ownsMap Tryz.prog 3 (plainElem Tryz.prog 4) b n D) (h : SetI S D) (ha : iok x) :
  (Instr.lookup 121 (.map (some b)) (.int .i64 x) false).run Tryz.prog w = .ok (.bool (decide (x ∈ S))) w := by
 obtain ⟨v, ps, hrun, hv⟩ := ho.lookup ilaw Tryz.underlying121 (zero_bool w) (plainElem_bool Tryz.underlying4 false) (ikey_of ha)
 obtain ⟨c, rfl, hc⟩ := plainElem_bool_inv hv
 injection hc with hc
 rw [h.at_ x ha] at hc
 injection hc with hc
 injection hc with hc
 have e : c = decide (x ∈ S) := by rw [← hc]
 rw [e] at hrun
 exact hrun
end Go.Proofs.YtfbnokjdkhcgoaaGreatDoor
namespace Go.Proofs.YtfbnokjdkhcgoaaGreatDoor
theorem chars_of {s : String} {l : List Char} (h : s = String.ofList l) : s.toList = l := by rw [h, String.toList_ofList]
theorem head_cons {α : Type} {l : List α} {a : α} (h : l.head? = some a) : ∃ r, l = a :: r := by
 cases l with
 | nil => cases h
 | cons x r => exact ⟨r, by injection h with h; rw [h]⟩
theorem strip_cut (rest : List (List Char)) : stripLifts liftWords ("cut".toList :: rest) = ([], "cut".toList :: rest) := by
 simp only [liftWords, stripLifts]
 repeat (rw [if_neg (by decide)])
theorem mayEnter_of {P : Program} {rest : List (List Char)} (hW : behindMainWord (wordsSigns P.initOrder.toList) = "cut".toList :: rest)
  (l1 : P.laysLater = false) (l2 : P.bearsReflect = false) (l3 : P.doorFits [] = true) : P.mayEnter = true := by
 unfold Program.mayEnter
 rw [hW]
 simp only [strip_cut, l1, l2]
 rw [l3]
 have e1 : ("cut".toList == "gc".toList) = false := by decide
 have e2 : ("cut".toList == "spec".toList) = false := by decide
 have e3 : ("cut".toList == "carried".toList) = false := by decide
 have e4 : (("cut".toList :: rest).head? == some "cut".toList) = true := by rw [List.head?_cons]; decide
 rw [e1, e2, e3, e4]
 rfl
theorem lifts_of {P : Program} {r : List (List Char)} (hr : behindMainWord (wordsSigns P.initOrder.toList) = "cut".toList :: r) : P.liftsFinal = false := by
 have e4 : (("cut".toList :: r).head? == some "cut".toList) = true := by rw [List.head?_cons]; decide
 have e5 : (("cut".toList :: r).head? == some "carried".toList) = false := by rw [List.head?_cons]; decide
 unfold Program.liftsFinal Program.headLifts
 rw [hr]
 simp only [strip_cut, e4, e5]
 rfl
theorem make_of {P : Program} {r : List (List Char)} (hr : behindMainWord (wordsSigns P.initOrder.toList) = "cut".toList :: r) : P.make = some .cut := by
 have e1 : ("cut".toList == "gc".toList) = false := by decide
 have e2 : ("cut".toList == "spec".toList) = false := by decide
 have e3 : ("cut".toList == "cut".toList) = true := by decide
 unfold Program.make
 rw [hr]
 simp only [e1, e2, e3, Bool.or_self, Bool.true_or, Bool.false_eq_true, if_false, if_true]
set_option maxRecDepth 100000 in
theorem cut_head : ∃ r, behindMainWord (wordsSigns Tryz.prog.initOrder.toList) = "cut".toList :: r := by
 have h := chars_of (s := Tryz.prog.initOrder) rfl
 have hh : (behindMainWord (wordsSigns Tryz.prog.initOrder.toList)).head? = some "cut".toList := by
  rw [h]
  refine Eq.trans ?_ (Eq.refl _)
  kernel_rfl
 exact head_cons hh
theorem may_enter : Tryz.prog.mayEnter = true := by
 obtain ⟨r, hr⟩ := cut_head
 exact mayEnter_of hr (by kernel_rfl) (by kernel_rfl) (by kernel_rfl)
theorem lifts_final : Tryz.prog.liftsFinal = false := by
 obtain ⟨r, hr⟩ := cut_head
 exact lifts_of hr
theorem make_cut : Tryz.prog.make = some .cut := by
 obtain ⟨r, hr⟩ := cut_head
 exact make_of hr
end Go.Proofs.YtfbnokjdkhcgoaaGreatDoor
