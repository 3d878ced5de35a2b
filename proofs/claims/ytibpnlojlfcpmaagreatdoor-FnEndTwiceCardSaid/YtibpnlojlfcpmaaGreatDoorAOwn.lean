/- A part of the proofs of this seat: Cp3, Draw, Draw2, Eq, Ma, MapI, Move, Own, Plain, PpI, RowB, Same, Val. -/
import Derived.Maps.AppendAt
import Derived.Deep.AppendLies
import Derived.RegionTactic
import Derived.OwnWalk
import Derived.Deep.RegionHeldLaw
import Derived.Deep.RegionLaw
import Derived.Deep.RegionWith
import Derived.Test.YtibpnlojlfcpmaaGreatDoorADrpT
set_option linter.unusedVariables false
set_option linter.unusedSimpArgs false
set_option maxRecDepth 1000000
namespace Go.Proofs.YtibpnlojlfcpmaaGreatDoor
open Go.RowKit
section
variable {P : Program} (w : World)
theorem wp_append_rd {o : Oper} {a : Act} {K : Act → World → Prop} {Q : Exit → Act → World → Prop} (s x : Operand) (t : TypeId)
  (ho : o.op = .call { callee := .builtin .append, args := #[s, x], argTypes := #[t, t] })
  (base : Nat) (e : TypeId) (i : TypeInfo) (z : Value) (sz bytes : Nat) (ht : P.underlying t = some (.slice e)) (hi : P.info? e = some i) (hz : i.zero = some z)
  (hs : i.size = sz) (hby : i.bytes = bytes) (hzs : z.cells.size = sz) (hsz : 0 < sz)
  (v : Value) (n : Nat) (xs : List Value) (hv : a.eval s = v) (hown : w.ownsRow base e sz v n xs)
  (B : Nat) (A : Option Addr) (m c : Nat) (news : List Value) (hx : a.eval x = .slice A m c) (hr : Rd B w sz A m news) (h1 : ∀ u ∈ news, u.oneCell' = true)
  (h63 : n + m ≤ maxLen) (hbytes : (n + m) * bytes ≤ 140737488355328) (hbase : base ≤ w.heap.size)
  (h : ∀ v' w', w'.ownsRow base e sz v' (n + m) (xs ++ news) → w.grownBy w' v.ownBlock → (v'.ownBlock = v.ownBlock ∨ v'.ownBlock = some w.heap.size) → K (a.put o.dst v') w') : o.wp P a w K Q := by
 obtain ⟨v', w', hrun, h2, h3, h4⟩ := run_append_rd (P := P) w base t o.type e i z sz bytes ht hi hz hs hby hzs hsz v n xs hown B A m c news hr h1 h63 hbytes hbase
 unfold Oper.wp execOp
 simp only [ho, resolve, invoke, builtin, Sem.run_bind, Sem.run_pure, Result.andThen_ok, List.map_toArray, List.map_cons, List.map_nil, hv, hx, hrun]
 exact h v' w' h2 h3 h4
end
def mapOK (t : Tab) (s p fr r : Int) : Bool :=
 tv t && kval (s, p) && !decide (0 ≤ fndI t.fs s p) && inR fr t.fs.length && (match t.fs[fr.toNat]? with | some f => !f.used | none => false) && inR r 8
def mapT (t : Tab) (s p fr r : Int) : Tab := ⟨t.bs.set (bkt t s p) fr, t.fs.set fr.toNat ⟨true, s, p, r, t.bs.getD (bkt t s p) 0⟩⟩
def mapV (t : Tab) (s p fr r : Int) : Tab := if mapOK t s p fr r = true then mapT t s p fr r else tabz
def vicFrom (ls : List Ln) : Nat → Nat → Nat
 | 0, at_ => at_
 | k + 1, at_ => match ls[at_]? with
  | some x => if x.w = true then vicFrom ls k ((at_ + 1) % ls.length) else at_
  | none => at_
def vic (c : Ca) : Nat := match c.ls.findIdx? (fun x => !x.v) with
 | some i => i
 | none => vicFrom c.ls c.ls.length c.hand.toNat
def filC (c : Ca) (x : Ln) : Ca := ⟨c.ls.set (vic c) x, match c.ls[vic c]? with | some y => if y.v = true then ((vic c : Int) + 1) % c.ls.length else c.hand | none => c.hand⟩
def filOK (c : Ca) (x : Ln) : Bool := cav c && x.v && lnok x && !decide (0 ≤ plcI c.ls x.t x.p) && cav (filC c x)
def filV (c : Ca) (x : Ln) : Ca := if filOK c x = true then filC c x else caz
def wirC (c : Ca) (i : Int) (w : Bool) : Ca := ⟨c.ls.set i.toNat { c.ls.getD i.toNat lnz with w := w }, c.hand⟩
def wirOK (c : Ca) (i : Int) (w : Bool) : Bool := cav c && inR i c.ls.length && (c.ls.getD i.toNat lnz).v && cav (wirC c i w)
def wirV (c : Ca) (i : Int) (w : Bool) : Ca := if wirOK c i w = true then wirC c i w else caz
def takG (g : Tg) (s : Int) : Tg × Int × Bool × Bool :=
 if (tgv g && inR s 16) = true then
  match own g.os s with
  | some i => (g, (g.os.getD i (0, 0)).2, false, true)
  | none =>
   if g.next = g.count then
    if g.round = 1000000 then (tgz, 0, false, false)
    else (⟨g.count, 1, g.round + 1, [(s, 0)]⟩, 0, true, true)
   else (⟨g.count, g.next + 1, g.round, g.os ++ [(s, g.next)]⟩, g.next, false, true)
 else (tgz, 0, false, false)
theorem neq_ln (f g : Ln) (w : World) : (binOp .neq 129 (lnV f) (lnV g)).run Tryz.prog w = .ok (.bool !(decide (f = g))) w := neq_of (fun e w => eqIn_ln e f g w) w
theorem eqIn_ow (e : Nat) (a b c d : Int) (w : World) : (Op.equalIn (e + 3) 126 (.agg #[.int .i64 a, .int .i64 b]) (.agg #[.int .i64 c, .int .i64 d])).run Tryz.prog w = .ok (keq a b c d) w := by
 have hu : Tryz.prog.underlying 126 = some (.struct (Tryz.prog.fieldsOf 126)) := by kernel_rfl
 have hp : Tryz.prog.stoodInHeld 126 = false := by kernel_rfl
 have hf : (Tryz.prog.fieldsOf 126).toList.map (fun f => (f.name, f.type, f.offset)) = [("Space", 3, 0), ("Tag", 3, 1)] := by kernel_rfl
 rw [run_equalIn_struct w (e + 2) _ _ _ hu hp]
 obtain ⟨f, g, hl, h1, h2⟩ := two_of hf
 rw [hl]
 simp only [Prod.mk.injEq] at h1 h2
 obtain ⟨n1, t1, o1⟩ := h1
 obtain ⟨n2, t2, o2⟩ := h2
 simp [Op.eqFields, n1, t1, o1, n2, t2, o2, part, run_equalIn_int, Tryz.underlying3, go_sem, keq]
 by_cases e1 : a = c <;> by_cases e2 : b = d <;> simp [e1, e2]
theorem neq_ow (a b c d : Int) (w : World) : (binOp .neq 126 (.agg #[.int .i64 a, .int .i64 b]) (.agg #[.int .i64 c, .int .i64 d])).run Tryz.prog w = .ok (.bool !(keq a b c d)) w := neq_of (fun e w => eqIn_ow e a b c d w) w
def putOK (m : Ma) (s p fr r : Int) : Bool := mav m && decide (keyI s p = s) && mapOK m.t s p fr r
def putV (m : Ma) (s p fr r : Int) : Ma := if putOK m s p fr r = true then { m with t := mapV m.t s p fr r } else maz
theorem gA {a w : World} {row : Option Nat} (h : a.grownBy w row) {o : Obj} : a.grownBy (w.alloc o) row :=
 ⟨h.os, h.tape, h.output, Nat.le_trans h.size (by simp), fun i hi hne => (Below.heap_alloc w o i (Nat.lt_of_lt_of_le hi h.size)).trans (h.block i hi hne)⟩
theorem gR {a : World} {row : Option Nat} : a.grownBy a row := World.grownBy.refl a row
theorem mapOK_false {t : Tab} {s p fr r : Int} (h : mapOK t s p fr r = false) : mapV t s p fr r = tabz := by unfold mapV; rw [h]; rfl
theorem putOK_false {m : Ma} {s p fr r : Int} (h : putOK m s p fr r = false) : putV m s p fr r = maz := by unfold putV; rw [h]; rfl
theorem mav_put {m : Ma} {s p fr r : Int} (h : putOK m s p fr r = true) : mav (putV m s p fr r) = true := by
 have hV : putV m s p fr r = { m with t := mapV m.t s p fr r } := by unfold putV; rw [if_pos h]
 unfold putOK at h
 simp only [Bool.and_eq_true, decide_eq_true_eq] at h
 obtain ⟨⟨hm, hk⟩, hok⟩ := h
 have hT : mapV m.t s p fr r = mapT m.t s p fr r := by unfold mapV; rw [if_pos hok]
 unfold mapOK at hok
 simp only [Bool.and_eq_true] at hok
 obtain ⟨⟨⟨⟨⟨htv, hkv⟩, hnf⟩, hin⟩, hu⟩, hr⟩ := hok
 have M := mav_MV.1 hm
 have hnf' : fnd m.t.fs s p = none := by
  cases e : fnd m.t.fs s p with
  | none => rfl
  | some i => unfold fndI at hnf; rw [e] at hnf; simp at hnf
 obtain ⟨hi0, hi1⟩ := inR_iff.1 hin
 obtain ⟨k, rfl⟩ := Int.eq_ofNat_of_zero_le hi0
 rw [Int.toNat_natCast] at hu
 cases ef : m.t.fs[k]? with
 | none => rw [ef] at hu; cases hu
 | some f0 =>
 rw [ef] at hu
 have hu0 : f0.used = false := by simpa using hu
 have hTV := M.t.map hkv hnf' ef hu0 hr
 have hmt : mapT m.t s p (k : Int) r = ⟨m.t.bs.set (bkt m.t s p) k, m.t.fs.set k ⟨true, s, p, r, m.t.bs.getD (bkt m.t s p) 0⟩⟩ := by unfold mapT; rw [Int.toNat_natCast]
 rw [hV, hT, hmt]
 have hkl := (List.getElem?_eq_some_iff.1 ef).1
 refine mav_MV.2 ⟨hTV, M.c, M.g, M.o, fun i f hi => ?_, fun i x hi => ?_⟩
 ·simp only at hi
  rw [List.getElem?_set] at hi
  split at hi
  ·injection hi with hi
   rw [← hi]
   unfold frM
   unfold keyI at hk
   by_cases h128 : 128 ≤ p
   ·rw [if_pos h128] at hk
    simp [← hk]
   ·simp [h128]
  ·exact M.f i f hi
 ·refine lnM_keep (m := m) rfl (fun s' j hs' hj => ?_) (M.l i x hi)
  obtain ⟨f, e1, e2, e3⟩ := fnd_some hj
  have hne : k ≠ j := by rintro rfl; rw [ef] at e1; injection e1 with e1; rw [e1, e2] at hu0; cases hu0
  have e4 : (m.t.fs.set k ⟨true, s, p, r, m.t.bs.getD (bkt m.t s p) 0⟩)[j]? = some f := by rw [List.getElem?_set, if_neg hne]; exact e1
  exact ⟨hTV.fnd e4 e2 e3, by rw [getD_at e4, getD_at e1]⟩
theorem xor_nat (a b : Nat) (ha : a < 9223372036854775808) (hb : b < 9223372036854775808) : bits .xor .i64 (a : Int) (b : Int) = ((a ^^^ b : Nat) : Int) := by
 have hx : a ^^^ b < 2 ^ 63 := Nat.xor_lt_two_pow (by omega) (by omega)
 have h1 : (BitVec.ofInt 64 (a : Int)).toNat = a := by rw [BitVec.ofInt_natCast, BitVec.toNat_ofNat]; exact Nat.mod_eq_of_lt (by omega)
 have h2 : (BitVec.ofInt 64 (b : Int)).toNat = b := by rw [BitVec.ofInt_natCast, BitVec.toNat_ofNat]; exact Nat.mod_eq_of_lt (by omega)
 show IntKind.i64.wrap ((BitVec.ofInt 64 (a : Int) ^^^ BitVec.ofInt 64 (b : Int)).toNat : Int) = _
 rw [BitVec.toNat_xor, h1, h2]
 exact IntWalk.i64_in _ (by omega)
def Picked (n : Int) (B : Nat) (w : World) (g p : Nat) (e : Ending) (w' : World) : Prop :=
 ∃ r : Int, e = .returned (.int .i64 r) ∧ 0 ≤ r ∧ (1 ≤ n → r < n) ∧ Rdr B w' g (p + 1) ∧ w.grownBy w' (some g)
theorem rdr_set {B : Nat} {w : World} {g p : Nat} {A : Option Addr} {n c : Nat} (ho : Own w g 172 #[.slice A n c, .int .i64 p]) (hb : Bytes B w A n) (hn : n ≤ 2000) (hg : B ≤ g) (k : Nat) :
  Rdr B ((w.setCell ⟨g, 1, none⟩ (.int .i64 ((p : Int) + 1))).drewN k) g (p + 1) ∧ w.grownBy ((w.setCell ⟨g, 1, none⟩ (.int .i64 ((p : Int) + 1))).drewN k) (some g) := by
 refine ⟨⟨A, n, c, ?_, hb.keep fun q hq => ?_, hn, hg⟩, ?_⟩
 ·have h := ho.set_ 1 (.int .i64 ((p : Int) + 1))
  have e : ((p : Int) + 1) = ((p + 1 : Nat) : Int) := by omega
  rw [e] at h ⊢
  exact h
 ·exact World.cell?_setCell_other w ⟨g, 1, none⟩ q _ (fun e => by subst e; exact absurd hq (by simp; omega))
 ·exact ⟨rfl, rfl, rfl, by simp [World.setCell], fun i _ hne => Below.heap_setCell w ⟨g, 1, none⟩ _ i (by rintro rfl; exact hne rfl)⟩
theorem emod_in {v n : Int} (hn : 1 ≤ n) : 0 ≤ v % n ∧ (1 ≤ n → v % n < n) := ⟨Int.emod_nonneg _ (by omega), fun _ => Int.emod_lt_of_pos _ (by omega)⟩
set_option maxHeartbeats 1000000 in
theorem pick_any (B g p : Nat) (n : Int) (w : World) (h : Rdr B w g p) (hp : p ≤ 1000000) (hn : n ≤ 1000000) :
  Calls Tryz.prog 95 #[.pointer (some ⟨g, 0, none⟩), .int .i64 n] w (Picked n B w g p) := by
 obtain ⟨A, len, c, ho, hb, hl, hg⟩ := h.ok
 have c0 := ho.cell_ 0 (v := .slice A len c) rfl
 have c1 := ho.cell_ 1 (v := .int .i64 p) rfl
 have f0 := ho.free 0
 have f1 := ho.free 1
 have HO := Hd ho
 have HB := Hd hb
 clear ho hb h
 by_cases h1 : n < 1
 ·go_enter Tryz.func95, Tryz.ntmps95
  go_wp2
  go_ret
  exact ⟨0, rfl, by omega, fun h => by omega, rdr_set HO.out HB.out hl hg 0⟩
 ·by_cases hz : len = 0
  ·subst hz
   go_enter Tryz.func95, Tryz.ntmps95
   go_wp2
   go_ret
   exact ⟨0, rfl, by omega, fun h => by omega, rdr_set HO.out HB.out hl hg 0⟩
  ·have hpos : (0 : Int) < (len : Int) := by omega
   have hne : ((len : Int) == 0) = false := by simp; omega
   by_cases hlt : p < len
   ·obtain ⟨b, o, v, rfl, hbb, hc, hv1⟩ := HB.out.at_ p hlt
    go_enter Tryz.func95, Tryz.ntmps95
    go_wp2
    go_ret
    exact ⟨_, rfl, (emod_in (by omega)).1, (emod_in (by omega)).2, rdr_set HO.out HB.out hl hg 0⟩
   ·obtain ⟨b, o, v, rfl, hbb, hc, hv1⟩ := HB.out.at_ (p % len) (Nat.mod_lt _ (by omega))
    obtain ⟨b', o', v2, e', _, hc2, hv21⟩ := HB.out.at_ ((p * 7 + 3) % len) (Nat.mod_lt _ (by omega))
    injection e' with e'
    injection e' with e1 e2
    subst e1 e2
    have r1 : ((p : Int)).tmod (len : Int) = ((p % len : Nat) : Int) := rfl
    have r2 : ((p : Int) * 7 + 3).tmod (len : Int) = (((p * 7 + 3) % len : Nat) : Int) := by
     rw [show (p : Int) * 7 + 3 = ((p * 7 + 3 : Nat) : Int) by omega]; rfl
    have r3 : ((p : Int)).tdiv (len : Int) = ((p / len : Nat) : Int) := rfl
    have hm1 : p % len < len := Nat.mod_lt _ (by omega)
    have hm2 : (p * 7 + 3) % len < len := Nat.mod_lt _ (by omega)
    have hq : p / len ≤ p := Nat.div_le_self _ _
    generalize p % len = j1 at *
    generalize (p * 7 + 3) % len = j2 at *
    generalize p / len = j3 at *
    have a1 : IntKind.i64.wrap ((p : Int) * 7) = (p : Int) * 7 := IntWalk.i64_in _ (by omega)
    have a2 : IntKind.i64.wrap ((p : Int) * 7 + 3) = (p : Int) * 7 + 3 := IntWalk.i64_in _ (by omega)
    have a3 : IntKind.i64.wrap ((v : Int) * 131) = (v : Int) * 131 := IntWalk.i64_in _ (by omega)
    have a4 : IntKind.i64.wrap ((v2 : Int) * 1117) = (v2 : Int) * 1117 := IntWalk.i64_in _ (by omega)
    have a5 : IntKind.i64.wrap ((v : Int) * 131 + (v2 : Int) * 1117) = (v : Int) * 131 + (v2 : Int) * 1117 := IntWalk.i64_in _ (by omega)
    have a6 : IntKind.i64.wrap ((p : Int) * 29) = (p : Int) * 29 := IntWalk.i64_in _ (by omega)
    have a7 : IntKind.i64.wrap ((v : Int) * 131 + (v2 : Int) * 1117 + (p : Int) * 29) = (v : Int) * 131 + (v2 : Int) * 1117 + (p : Int) * 29 := IntWalk.i64_in _ (by omega)
    have a8 : IntKind.i64.wrap ((j3 : Int) * 53) = (j3 : Int) * 53 := IntWalk.i64_in _ (by omega)
    have a9 : IntKind.i64.wrap ((v : Int) * 131 + (v2 : Int) * 1117 + (p : Int) * 29 + (j3 : Int) * 53) = (v : Int) * 131 + (v2 : Int) * 1117 + (p : Int) * 29 + (j3 : Int) * 53 := IntWalk.i64_in _ (by omega)
    go_enter Tryz.func95, Tryz.ntmps95
    go_wp2
    go_quiet (fail)
    clear r1 r2 r3 a1 a2 a3 a4 a5 a6 a7 a8 a9 hc hc2 c0 c1 f0 f1
    have hE : ∃ X : Nat, (v : Int) * 131 + (v2 : Int) * 1117 + (p : Int) * 29 + (j3 : Int) * 53 = (X : Int) ∧ X ≤ 1000000000 := ⟨v * 131 + v2 * 1117 + p * 29 + j3 * 53, by omega, by omega⟩
    obtain ⟨X, hX, hXb⟩ := hE
    rw [hX]
    clear hX
    have hx : bits .xor .i64 (X : Int) ((X : Int) / 64) = ((X ^^^ (X / 64) : Nat) : Int) := by
     rw [show ((X : Int) / 64) = ((X / 64 : Nat) : Int) from rfl]
     exact xor_nat X (X / 64) (by omega) (by omega)
    generalize X ^^^ (X / 64) = R at hx
    go_wp2
    go_ret
    exact ⟨_, rfl, (emod_in (by omega)).1, (emod_in (by omega)).2, rdr_set HO.out HB.out hl hg _⟩
theorem byte_info : (Tryz.prog.info? 5).map (fun i => (i.zero, i.size, i.bytes)) = some (some (.int .u8 0), 1, 1) := by kernel_rfl
theorem rdr_alloc {B : Nat} {w : World} {g p : Nat} (h : Rdr B w g p) (o : Obj) : Rdr B (w.alloc o) g p := rdr_grown h (World.grownBy_alloc w o none)
def Numbered (zs : List Int) (B : Nat) (w : World) (g p : Nat) (e : Ending) (w' : World) : Prop :=
 ∃ r : Int, e = .returned (.int .i64 r) ∧ r ∈ zs ∧ Rdr B w' g (p + 1) ∧ w.grownBy w' (some g)
set_option maxRecDepth 100000 in
theorem num_any (B g p g2 : Nat) (zs : List Int) (w : World) (h : Rdr B w g p) (hz : Own w g2 3 (zs.map (Value.int .i64)).toArray) (hne : g2 ≠ g) (hp : p ≤ 1000000) (h1 : 1 ≤ zs.length) (h2 : zs.length ≤ 1000) :
  Calls Tryz.prog 72 #[.pointer (some ⟨g, 0, none⟩), .slice (some ⟨g2, 0, none⟩) zs.length zs.length] w (Numbered zs B w g p) := by
 have HZ := Hd hz
 clear hz
 go_enter Tryz.func72, Tryz.ntmps72
 go_wp2_with fail
 refine (pick_any B g p zs.length w h hp (by omega)).mono ?_
 rintro e w1 ⟨r, rfl, hr0, hr1, hrd, hg⟩
 obtain ⟨i, rfl⟩ := Int.eq_ofNat_of_zero_le hr0
 have hi : i < zs.length := by have := hr1 (by omega); omega
 have hi2 : (i : Int) < (zs.length : Int) := by omega
 have hc : w1.cell? ⟨g2, i, none⟩ = some (.int .i64 zs[i]) := hg.cell (HZ.out.cell_ i (by simp [hi])) (by simp; omega)
 have hm : Hid (zs[i] ∈ zs) := List.getElem_mem hi
 generalize zs[i] = z at hc hm
 clear hr1
 have HRD := Hd hrd
 have HG := Hd hg
 clear hrd hg
 go_wp2
 go_ret
 exact ⟨_, rfl, hm.out, HRD.out, HG.out⟩
set_option maxHeartbeats 1000000 in
theorem l3CopyO_any (vb vf : Value) (t : Tab) (w : World) (hT : TaR w vb vf t) (h1 : t.bs.length ≤ 1048576) (h2 : t.fs.length ≤ 1048576) :
    Calls Tryz.prog 157 #[.agg #[vb, vf]] w (Post2 fun v w' => ∃ v1 v2, v = .agg #[v1, v2] ∧ w'.ownsRow w.heap.size 3 1 v1 t.bs.length (intE.cells t.bs) ∧ w'.ownsRow w.heap.size 66 5 v2 t.fs.length (frE.cells t.fs) ∧ Below w.heap.size w w') := by
  obtain ⟨Ab, cb, rfl, hbc, hbm, hB⟩ := hT.b
  obtain ⟨Af, cf, rfl, hfc, hfm, hF⟩ := hT.f
  obtain ⟨i0, hi0, hz0, hz1, hz2⟩ := info_parts int_info2
  obtain ⟨j0, hj0, hy0, hy1, hy2⟩ := info_parts fr_info
  have hbx := (Own.new_ w 40 #[.slice Ab t.bs.length cb, .slice Af t.fs.length cf]).alloc (o := .cells #[.slice none 0 0, .slice none 0 0] 40)
  have hbo := ownAt (W := w.alloc (.cells #[.slice Ab t.bs.length cb, .slice Af t.fs.length cf] 40)) (g := w.heap.size + 1) (t := 40) (cs := #[.slice none 0 0, .slice none 0 0]) (by simp)
  have hb0 : Below w.heap.size w ((w.alloc (.cells #[.slice Ab t.bs.length cb, .slice Af t.fs.length cf] 40)).alloc (.cells #[.slice none 0 0, .slice none 0 0] 40)) := bA (bA bR)
  have hs0 : ((w.alloc (.cells #[.slice Ab t.bs.length cb, .slice Af t.fs.length cf] 40)).alloc (.cells #[.slice none 0 0, .slice none 0 0] 40)).heap.size = w.heap.size + 2 := by simp
  generalize hW : (w.alloc (.cells #[.slice Ab t.bs.length cb, .slice Af t.fs.length cf] 40)).alloc (.cells #[.slice none 0 0, .slice none 0 0] 40) = W0 at hbx hbo hb0 hs0
  have q0 := hbx.cell_ 0 (v := .slice Ab t.bs.length cb) rfl
  have q1 := hbx.cell_ 1 (v := .slice Af t.fs.length cf) rfl
  have HX0 := Hd hbx
  have HO0 := Hd hbo
  have HB0 := Hd hb0
  have HBR := Hd hB
  have HFR := Hd hF
  clear hbx hbo hb0 hB hF hT
  go_enter Tryz.func157, Tryz.ntmps157
  go_wp2
  go_region_held_law (fun w' => w'.cell? ⟨w.heap.size, 0, none⟩ = some (.slice Ab t.bs.length cb) ∧ w'.cell? ⟨w.heap.size, 1, none⟩ = some (.slice Af t.fs.length cf)) (go_keep) (first
    | (refine step_copy intE 22 22 3 i0 _ _ Tryz.underlying22 hi0 hz0 hz1 hz2 rfl (by omega) (w.heap.size + 2) rfl (.tmp 3) (.tmp 5) rfl rfl _ Ab cb t.bs rfl rfl (ownAt (W := W0) (by simp [hs0])) (by first | omega | (simp [hs0] <;> omega)) w.heap.size (HBR.out.below (by first | exact bA (bD HB0.out) | exact bA (bA (bD HB0.out)))) h1 (by first | omega | (simp [hs0] <;> omega)) ?_
       intro v1 w1 hown1 hg1
       obtain ⟨A1, c1, rfl, _⟩ := slm_own rfl hown1
       have HB1 : Hid (Below w.heap.size w w1) := bG (by first | exact bA (bD HB0.out) | exact bA (bA (bD HB0.out))) hg1 (fun k hk => by injection hk with hk; omega)
       have hx1 := own_other (by first | exact HX0.out.drew.alloc (o := .cells #[] 3) | exact (HX0.out.drew.alloc (o := .cells #[] 3)).alloc (o := .cells #[] 66) | exact (HX0.out.drew.alloc (o := .cells #[] 66)).alloc (o := .cells #[] 3)) hg1 (by first | omega | (simp [hs0] <;> omega))
       have ho1 := own_other (by first | exact HO0.out.drew.alloc (o := .cells #[] 3) | exact (HO0.out.drew.alloc (o := .cells #[] 3)).alloc (o := .cells #[] 66) | exact (HO0.out.drew.alloc (o := .cells #[] 66)).alloc (o := .cells #[] 3)) hg1 (by first | omega | (simp [hs0] <;> omega))
       have d0 := hx1.cell_ 0 (v := .slice Ab t.bs.length cb) rfl
       have d1 := hx1.cell_ 1 (v := .slice Af t.fs.length cf) rfl
       have HX1 := Hd hx1
       have HO1 := Hd ho1
       have HW1 := Hd hown1
       have hs1 : w.heap.size + 3 ≤ w1.heap.size := Nat.le_trans (by first | omega | (simp [hs0] <;> omega)) hg1.size
       skip
       clear hown1 hg1 hx1 ho1)
    | (refine step_copy intE 22 22 3 i0 _ _ Tryz.underlying22 hi0 hz0 hz1 hz2 rfl (by omega) (w.heap.size + 2) rfl (.tmp 3) (.tmp 5) rfl rfl _ Ab cb t.bs rfl rfl (ownAt (W := W0) (by simp [hs0])).alloc (by first | omega | (simp [hs0] <;> omega)) w.heap.size (HBR.out.below (by first | exact bA (bD HB0.out) | exact bA (bA (bD HB0.out)))) h1 (by first | omega | (simp [hs0] <;> omega)) ?_
       intro v1 w1 hown1 hg1
       obtain ⟨A1, c1, rfl, _⟩ := slm_own rfl hown1
       have HB1 : Hid (Below w.heap.size w w1) := bG (by first | exact bA (bD HB0.out) | exact bA (bA (bD HB0.out))) hg1 (fun k hk => by injection hk with hk; omega)
       have hx1 := own_other (by first | exact HX0.out.drew.alloc (o := .cells #[] 3) | exact (HX0.out.drew.alloc (o := .cells #[] 3)).alloc (o := .cells #[] 66) | exact (HX0.out.drew.alloc (o := .cells #[] 66)).alloc (o := .cells #[] 3)) hg1 (by first | omega | (simp [hs0] <;> omega))
       have ho1 := own_other (by first | exact HO0.out.drew.alloc (o := .cells #[] 3) | exact (HO0.out.drew.alloc (o := .cells #[] 3)).alloc (o := .cells #[] 66) | exact (HO0.out.drew.alloc (o := .cells #[] 66)).alloc (o := .cells #[] 3)) hg1 (by first | omega | (simp [hs0] <;> omega))
       have d0 := hx1.cell_ 0 (v := .slice Ab t.bs.length cb) rfl
       have d1 := hx1.cell_ 1 (v := .slice Af t.fs.length cf) rfl
       have HX1 := Hd hx1
       have HO1 := Hd ho1
       have HW1 := Hd hown1
       have hs1 : w.heap.size + 3 ≤ w1.heap.size := Nat.le_trans (by first | omega | (simp [hs0] <;> omega)) hg1.size
       have HF1 := Hd (own_other (ownAt (W := W0.drew.alloc (.cells #[] 3)) (g := w.heap.size + 3) (t := 66) (cs := #[]) (by simp [hs0])) hg1 (by first | omega | (simp [hs0] <;> omega)))
       clear hown1 hg1 hx1 ho1)
    | (refine step_copy intE 22 22 3 i0 _ _ Tryz.underlying22 hi0 hz0 hz1 hz2 rfl (by omega) (w.heap.size + 2) rfl (.tmp 3) (.tmp 5) rfl rfl _ Ab cb t.bs rfl rfl (ownAt (W := W0.alloc (.cells #[] 66)) (by simp [hs0])) (by first | omega | (simp [hs0] <;> omega)) w.heap.size (HBR.out.below (by first | exact bA (bD HB0.out) | exact bA (bA (bD HB0.out)))) h1 (by first | omega | (simp [hs0] <;> omega)) ?_
       intro v1 w1 hown1 hg1
       obtain ⟨A1, c1, rfl, _⟩ := slm_own rfl hown1
       have HB1 : Hid (Below w.heap.size w w1) := bG (by first | exact bA (bD HB0.out) | exact bA (bA (bD HB0.out))) hg1 (fun k hk => by injection hk with hk; omega)
       have hx1 := own_other (by first | exact HX0.out.drew.alloc (o := .cells #[] 3) | exact (HX0.out.drew.alloc (o := .cells #[] 3)).alloc (o := .cells #[] 66) | exact (HX0.out.drew.alloc (o := .cells #[] 66)).alloc (o := .cells #[] 3)) hg1 (by first | omega | (simp [hs0] <;> omega))
       have ho1 := own_other (by first | exact HO0.out.drew.alloc (o := .cells #[] 3) | exact (HO0.out.drew.alloc (o := .cells #[] 3)).alloc (o := .cells #[] 66) | exact (HO0.out.drew.alloc (o := .cells #[] 66)).alloc (o := .cells #[] 3)) hg1 (by first | omega | (simp [hs0] <;> omega))
       have d0 := hx1.cell_ 0 (v := .slice Ab t.bs.length cb) rfl
       have d1 := hx1.cell_ 1 (v := .slice Af t.fs.length cf) rfl
       have HX1 := Hd hx1
       have HO1 := Hd ho1
       have HW1 := Hd hown1
       have hs1 : w.heap.size + 3 ≤ w1.heap.size := Nat.le_trans (by first | omega | (simp [hs0] <;> omega)) hg1.size
       have HF1 := Hd (own_other (ownAt (W := W0.drew) (g := w.heap.size + 2) (t := 66) (cs := #[]) (by simp [hs0])).alloc hg1 (by first | omega | (simp [hs0] <;> omega)))
       clear hown1 hg1 hx1 ho1)
    | (refine step_copy frE 38 38 66 j0 _ _ Tryz.underlying38 hj0 hy0 hy1 hy2 rfl (by omega) (w.heap.size + 2) rfl (.tmp 7) (.tmp 9) rfl rfl _ Af cf t.fs rfl rfl (by first | exact HF1.out | exact Own.new_ _ _ _) (by first | omega | (simp [hs0] <;> omega)) w.heap.size (HFR.out.below (by first | exact HB1.out | exact bA HB1.out)) h2 (by first | omega | (simp [hs0] <;> omega)) ?_
       intro v2 w2 hown2 hg2
       have hm2 := slm_own rfl hown2
       obtain ⟨A2, c2, rfl, _⟩ := slm_own rfl hown2
       have hk1 : w2.ownsRow (w.heap.size + 2) 3 intE.sz (.slice A1 t.bs.length c1) t.bs.length (intE.cells t.bs) := by
         first
           | exact HW1.out.kept hg2 (own_ne (e2 := 66) HW1.out HF1.out (by decide))
           | exact (HW1.out.alloc (.cells #[] 66)).kept hg2 (own_ne (e2 := 66) (HW1.out.alloc (.cells #[] 66)) (Own.new_ w1 66 #[]) (by decide))
       have HM1 : Hid (w2.ownsRow (w.heap.size + 2) 3 1 (.slice A1 t.bs.length c1) t.bs.length (intE.cells t.bs)) := hk1
       have HM2 : Hid (w2.ownsRow (w.heap.size + 2) 66 5 (.slice A2 t.fs.length c2) t.fs.length (frE.cells t.fs)) := hown2
       have HB2 : Hid (Below w.heap.size w w2) := bG (by first | exact HB1.out | exact bA HB1.out) hg2 (fun k hk => by injection hk with hk; omega)
       have hx2 := own_other (by first | exact HX1.out | exact HX1.out.alloc (o := .cells #[] 66)) hg2 (by first | omega | (simp [hs0] <;> omega))
       have ho2 := own_other (by first | exact HO1.out | exact HO1.out.alloc (o := .cells #[] 66)) hg2 (by first | omega | (simp [hs0] <;> omega))
       have f0 := hx2.cell_ 0 (v := .slice Ab t.bs.length cb) rfl
       have f1 := hx2.cell_ 1 (v := .slice Af t.fs.length cf) rfl
       have p0 := ho2.free 0
       have p1 := ho2.free 1
       have p2 := ho2.cell_ 0 (v := .slice none 0 0) rfl
       have p3 := ho2.cell_ 1 (v := .slice none 0 0) rfl
       have HO2 := Hd ho2
       clear hown2 hg2 hx2 ho2 hm2 hk1))
  all_goals
    go_wp2
    have o3 := (HO2.out.set_ 0 (.slice A1 t.bs.length c1)).set_ 1 (.slice A2 t.fs.length c2)
    have t0 := o3.cell_ 0 (v := .slice A1 t.bs.length c1) rfl
    have t1 := o3.cell_ 1 (v := .slice A2 t.fs.length c2) rfl
    have hN1 := ownsRow_setCell_below (ownsRow_setCell_below HM1.out (a := ⟨w.heap.size + 1, 0, none⟩) (by show w.heap.size + 1 < w.heap.size + 2; omega) (.slice A1 t.bs.length c1)) (a := ⟨w.heap.size + 1, 1, none⟩) (by show w.heap.size + 1 < w.heap.size + 2; omega) (.slice A2 t.fs.length c2)
    have hN2 := ownsRow_setCell_below (ownsRow_setCell_below HM2.out (a := ⟨w.heap.size + 1, 0, none⟩) (by show w.heap.size + 1 < w.heap.size + 2; omega) (.slice A1 t.bs.length c1)) (a := ⟨w.heap.size + 1, 1, none⟩) (by show w.heap.size + 1 < w.heap.size + 2; omega) (.slice A2 t.fs.length c2)
    refine bodyPost_ret (v := .agg #[.slice A1 t.bs.length c1, .slice A2 t.fs.length c2]) (by simp [results, Tryz.results157, go_sem, t0, t1]) rfl ⟨_, rfl, _, _, rfl, own_mono hN1 (by omega), own_mono hN2 (by omega), bS (bS HB2.out (by simp)) (by simp)⟩
theorem eqInts_same (A B : Option Addr) (c d : Nat) (l : List Int) (w : World) (ha : Rs intE w.heap.size w A l) (hb : Rs intE w.heap.size w B l) (hl : l.length ≤ 9223372036854775807) :
  Calls Tryz.prog 160 #[.slice A l.length c, .slice B l.length d] w fun r w' => r = .returned (.bool true) ∧ Below w.heap.size w w' := by
 have HA := Hd ha
 have HB := Hd hb
 clear ha hb
 go_enter Tryz.func160, Tryz.ntmps160
 go_wp2
 go_loopw [13] (fun u wr => ∃ k : Nat, k ≤ l.length ∧ u = .int .i64 k ∧ Below w.heap.size w wr) (fun u _ => l.length - (intOf u).toNat)
 case atStart => exact ⟨0, by omega, rfl, bR⟩
 case round =>
  obtain ⟨k, hk, rfl, hbi⟩ := hrel
  have HBI := Hd hbi
  by_cases hlt : k < l.length
  ·obtain ⟨x, ex⟩ : ∃ x, l[k]? = some x := ⟨_, List.getElem?_eq_getElem hlt⟩
   obtain ⟨b1, o1, rfl, _, d0⟩ := (HA.out.below hbi).i1 ex
   obtain ⟨b2, o2, rfl, _, e0⟩ := (HB.out.below hbi).i1 ex
   have hne : ∀ W : World, True := by
    intro W
    first | (have h := neq_fr x x W; simpa using h) | (have h := neq_ln x x W; simpa using h) | (have h := neq_ow x.1 x.2 x.1 x.2 W; simpa [keq] using h) | trivial
   clear ex hbi
   go_wp2
   go_quiet (fail)
   go_wp2
   go_roundw
   case rel => exact ⟨k + 1, by omega, by go_num, bDN HBI.out⟩
   case measure => simp [intOf]; omega
  ·obtain rfl : k = l.length := by omega
   go_wp2
   go_ret
   exact ⟨rfl, hbi⟩
theorem eqFrs_same (A B : Option Addr) (c d : Nat) (l : List Fr) (w : World) (ha : Rs frE w.heap.size w A l) (hb : Rs frE w.heap.size w B l) (hl : l.length ≤ 9223372036854775807) :
  Calls Tryz.prog 161 #[.slice A l.length c, .slice B l.length d] w fun r w' => r = .returned (.bool true) ∧ Below w.heap.size w w' := by
 have HA := Hd ha
 have HB := Hd hb
 clear ha hb
 go_enter Tryz.func161, Tryz.ntmps161
 go_wp2
 go_loopw [13] (fun u wr => ∃ k : Nat, k ≤ l.length ∧ u = .int .i64 k ∧ Below w.heap.size w wr) (fun u _ => l.length - (intOf u).toNat)
 case atStart => exact ⟨0, by omega, rfl, bR⟩
 case round =>
  obtain ⟨k, hk, rfl, hbi⟩ := hrel
  have HBI := Hd hbi
  by_cases hlt : k < l.length
  ·obtain ⟨x, ex⟩ : ∃ x, l[k]? = some x := ⟨_, List.getElem?_eq_getElem hlt⟩
   obtain ⟨b1, o1, rfl, _, d0, d1, d2, d3, d4⟩ := (HA.out.below hbi).fr ex
   obtain ⟨b2, o2, rfl, _, e0, e1, e2, e3, e4⟩ := (HB.out.below hbi).fr ex
   have hne : ∀ W : World, (binOp .neq 66 (.agg #[.bool x.used, .int .i64 x.s, .int .i64 x.p, .int .i64 x.r, .int .i64 x.n]) (.agg #[.bool x.used, .int .i64 x.s, .int .i64 x.p, .int .i64 x.r, .int .i64 x.n])).run Tryz.prog W = .ok (.bool false) W := by
    intro W
    first | (have h := neq_fr x x W; simpa using h) | (have h := neq_ln x x W; simpa using h) | (have h := neq_ow x.1 x.2 x.1 x.2 W; simpa [keq] using h) | trivial
   clear ex hbi
   go_wp2
   go_quiet (fail)
   go_wp2
   go_roundw
   case rel => exact ⟨k + 1, by omega, by go_num, bDN HBI.out⟩
   case measure => simp [intOf]; omega
  ·obtain rfl : k = l.length := by omega
   go_wp2
   go_ret
   exact ⟨rfl, hbi⟩
theorem eqLns_same (A B : Option Addr) (c d : Nat) (l : List Ln) (w : World) (ha : Rs lnE w.heap.size w A l) (hb : Rs lnE w.heap.size w B l) (hl : l.length ≤ 9223372036854775807) :
  Calls Tryz.prog 102 #[.slice A l.length c, .slice B l.length d] w fun r w' => r = .returned (.bool true) ∧ Below w.heap.size w w' := by
 have HA := Hd ha
 have HB := Hd hb
 clear ha hb
 go_enter Tryz.func102, Tryz.ntmps102
 go_wp2
 go_loopw [13] (fun u wr => ∃ k : Nat, k ≤ l.length ∧ u = .int .i64 k ∧ Below w.heap.size w wr) (fun u _ => l.length - (intOf u).toNat)
 case atStart => exact ⟨0, by omega, rfl, bR⟩
 case round =>
  obtain ⟨k, hk, rfl, hbi⟩ := hrel
  have HBI := Hd hbi
  by_cases hlt : k < l.length
  ·obtain ⟨x, ex⟩ : ∃ x, l[k]? = some x := ⟨_, List.getElem?_eq_getElem hlt⟩
   obtain ⟨b1, o1, rfl, _, d0, d1, d2, d3, d4, d5⟩ := (HA.out.below hbi).ln ex
   obtain ⟨b2, o2, rfl, _, e0, e1, e2, e3, e4, e5⟩ := (HB.out.below hbi).ln ex
   have hne : ∀ W : World, (binOp .neq 129 (.agg #[.bool x.v, .int .i64 x.t, .int .i64 x.p, .int .i64 x.f, .int .i64 x.r, .bool x.w]) (.agg #[.bool x.v, .int .i64 x.t, .int .i64 x.p, .int .i64 x.f, .int .i64 x.r, .bool x.w])).run Tryz.prog W = .ok (.bool false) W := by
    intro W
    first | (have h := neq_fr x x W; simpa using h) | (have h := neq_ln x x W; simpa using h) | (have h := neq_ow x.1 x.2 x.1 x.2 W; simpa [keq] using h) | trivial
   clear ex hbi
   go_wp2
   go_quiet (fail)
   go_wp2
   go_roundw
   case rel => exact ⟨k + 1, by omega, by go_num, bDN HBI.out⟩
   case measure => simp [intOf]; omega
  ·obtain rfl : k = l.length := by omega
   go_wp2
   go_ret
   exact ⟨rfl, hbi⟩
theorem eqOws_same (A B : Option Addr) (c d : Nat) (l : List (Int × Int)) (w : World) (ha : Rs owE w.heap.size w A l) (hb : Rs owE w.heap.size w B l) (hl : l.length ≤ 9223372036854775807) :
  Calls Tryz.prog 162 #[.slice A l.length c, .slice B l.length d] w fun r w' => r = .returned (.bool true) ∧ Below w.heap.size w w' := by
 have HA := Hd ha
 have HB := Hd hb
 clear ha hb
 go_enter Tryz.func162, Tryz.ntmps162
 go_wp2
 go_loopw [13] (fun u wr => ∃ k : Nat, k ≤ l.length ∧ u = .int .i64 k ∧ Below w.heap.size w wr) (fun u _ => l.length - (intOf u).toNat)
 case atStart => exact ⟨0, by omega, rfl, bR⟩
 case round =>
  obtain ⟨k, hk, rfl, hbi⟩ := hrel
  have HBI := Hd hbi
  by_cases hlt : k < l.length
  ·obtain ⟨x, ex⟩ : ∃ x, l[k]? = some x := ⟨_, List.getElem?_eq_getElem hlt⟩
   obtain ⟨b1, o1, rfl, _, d0, d1⟩ := (HA.out.below hbi).ow ex
   obtain ⟨b2, o2, rfl, _, e0, e1⟩ := (HB.out.below hbi).ow ex
   have hne : ∀ W : World, (binOp .neq 126 (.agg #[.int .i64 x.1, .int .i64 x.2]) (.agg #[.int .i64 x.1, .int .i64 x.2])).run Tryz.prog W = .ok (.bool false) W := by
    intro W
    first | (have h := neq_fr x x W; simpa using h) | (have h := neq_ln x x W; simpa using h) | (have h := neq_ow x.1 x.2 x.1 x.2 W; simpa [keq] using h) | trivial
   clear ex hbi
   go_wp2
   go_quiet (fail)
   go_wp2
   go_roundw
   case rel => exact ⟨k + 1, by omega, by go_num, bDN HBI.out⟩
   case measure => simp [intOf]; omega
  ·obtain rfl : k = l.length := by omega
   go_wp2
   go_ret
   exact ⟨rfl, hbi⟩
theorem slr_len {α : Type} {E : Enc α} {w : World} {v : Value} {l : List α} (h : SlR E w v l) : l.length ≤ 9223372036854775807 := by
 obtain ⟨A, c, _, h1, h2, _⟩ := h
 simp only [maxLen] at h2
 omega
theorem TableSame_same (a1 a2 b1 b2 : Value) (t : Tab) (w : World) (ha : TaR w a1 a2 t) (hb : TaR w b1 b2 t) :
  Calls Tryz.prog 87 #[.agg #[a1, a2], .agg #[b1, b2]] w fun r w' => r = .returned (.bool true) ∧ Below w.heap.size w w' := by
 have l1 := slr_len ha.b
 have l2 := slr_len ha.f
 obtain ⟨A1, c1, rfl, _, _, h1⟩ := ha.b
 obtain ⟨A2, c2, rfl, _, _, h2⟩ := ha.f
 obtain ⟨B1, d1, rfl, _, _, k1⟩ := hb.b
 obtain ⟨B2, d2, rfl, _, _, k2⟩ := hb.f
 have hx := (Own.new_ w 40 #[.slice A1 t.bs.length c1, .slice A2 t.fs.length c2]).alloc (o := .cells #[.slice B1 t.bs.length d1, .slice B2 t.fs.length d2] 40)
 have hy := ownAt (W := w.alloc (.cells #[.slice A1 t.bs.length c1, .slice A2 t.fs.length c2] 40)) (g := w.heap.size + 1) (t := 40) (cs := #[.slice B1 t.bs.length d1, .slice B2 t.fs.length d2]) (by simp)
 have hb0 : Below w.heap.size w ((w.alloc (.cells #[.slice A1 t.bs.length c1, .slice A2 t.fs.length c2] 40)).alloc (.cells #[.slice B1 t.bs.length d1, .slice B2 t.fs.length d2] 40)) := bA (bA bR)
 generalize hW : (w.alloc (.cells #[.slice A1 t.bs.length c1, .slice A2 t.fs.length c2] 40)).alloc (.cells #[.slice B1 t.bs.length d1, .slice B2 t.fs.length d2] 40) = W0 at hx hy hb0
 have q0 := hx.cell_ 0 (v := .slice A1 t.bs.length c1) rfl
 have q1 := hy.cell_ 0 (v := .slice B1 t.bs.length d1) rfl
 have HX := Hd hx
 have HY := Hd hy
 have HB0 := Hd hb0
 have H1 := Hd h1
 have H2 := Hd h2
 have K1 := Hd k1
 have K2 := Hd k2
 clear hx hy hb0 h1 h2 k1 k2 ha hb
 go_enter Tryz.func87, Tryz.ntmps87
 go_wp2_with fail
 refine (eqInts_same A1 B1 c1 d1 t.bs _ (H1.out.now (Nat.le_refl _) HB0.out) (K1.out.now (Nat.le_refl _) HB0.out) l1).mono ?_
 rintro e w1 ⟨rfl, hb1⟩
 have hx1 := HX.out.below hb1
 have hy1 := HY.out.below hb1
 have HB1 := Hd (bT HB0.out hb1)
 clear q0 q1 hb1
 have q0 := hx1.cell_ 1 (v := .slice A2 t.fs.length c2) rfl
 have q1 := hy1.cell_ 1 (v := .slice B2 t.fs.length d2) rfl
 clear hx1 hy1
 go_wp2_with fail
 refine (eqFrs_same A2 B2 c2 d2 t.fs _ (H2.out.now (Nat.le_refl _) HB1.out) (K2.out.now (Nat.le_refl _) HB1.out) l2).mono ?_
 rintro e w2 ⟨rfl, hb2⟩
 have HB2 := Hd (bT HB1.out hb2)
 clear q0 q1 hb2
 go_wp2
 go_ret
 exact ⟨rfl, HB2.out⟩
theorem CacheSame_same (a1 b1 : Value) (c : Ca) (w : World) (ha : SlR lnE w a1 c.ls) (hb : SlR lnE w b1 c.ls) :
  Calls Tryz.prog 36 #[.agg #[a1, .int .i64 c.hand], .agg #[b1, .int .i64 c.hand]] w fun r w' => r = .returned (.bool true) ∧ Below w.heap.size w w' := by
 have l1 := slr_len ha
 obtain ⟨A1, c1, rfl, _, _, h1⟩ := ha
 obtain ⟨B1, d1, rfl, _, _, k1⟩ := hb
 have H1 := Hd h1
 have K1 := Hd k1
 clear h1 k1
 go_enter Tryz.func36, Tryz.ntmps36
 go_wp2_with fail
 refine (eqLns_same A1 B1 c1 d1 c.ls _ (H1.out.now (Nat.le_refl _) (bA (bA bR))) (K1.out.now (Nat.le_refl _) (bA (bA bR))) l1).mono ?_
 rintro e w1 ⟨rfl, hb1⟩
 have HB1 := Hd (bT (bA (bA bR)) hb1)
 clear hb1
 go_wp2
 go_ret
 exact ⟨rfl, HB1.out⟩
theorem TagsSame_same (a1 b1 : Value) (g : Tg) (w : World) (ha : SlR owE w a1 g.os) (hb : SlR owE w b1 g.os) :
  Calls Tryz.prog 88 #[.agg #[.int .i64 g.count, .int .i64 g.next, .int .i64 g.round, a1], .agg #[.int .i64 g.count, .int .i64 g.next, .int .i64 g.round, b1]] w fun r w' => r = .returned (.bool true) ∧ Below w.heap.size w w' := by
 have l1 := slr_len ha
 obtain ⟨A1, c1, rfl, _, _, h1⟩ := ha
 obtain ⟨B1, d1, rfl, _, _, k1⟩ := hb
 have H1 := Hd h1
 have K1 := Hd k1
 clear h1 k1
 go_enter Tryz.func88, Tryz.ntmps88
 go_wp2_with fail
 refine (eqOws_same A1 B1 c1 d1 g.os _ (H1.out.now (Nat.le_refl _) (bA (bA bR))) (K1.out.now (Nat.le_refl _) (bA (bA bR))) l1).mono ?_
 rintro e w1 ⟨rfl, hb1⟩
 have HB1 := Hd (bT (bA (bA bR)) hb1)
 clear hb1
 go_wp2
 go_ret
 exact ⟨rfl, HB1.out⟩
set_option maxHeartbeats 1000000 in
theorem MachineSame_same (a1 a2 a3 a4 b1 b2 b3 b4 : Value) (m : Ma) (w : World) (ha : MaR w a1 a2 a3 a4 m) (hb : MaR w b1 b2 b3 b4 m) :
  Calls Tryz.prog 29 #[.agg #[a1, a2, a3, .int .i64 m.c.hand, .int .i64 m.g.count, .int .i64 m.g.next, .int .i64 m.g.round, a4, .int .i64 m.sp], .agg #[b1, b2, b3, .int .i64 m.c.hand, .int .i64 m.g.count, .int .i64 m.g.next, .int .i64 m.g.round, b4, .int .i64 m.sp]] w fun r w' => r = .returned (.bool true) ∧ Below w.heap.size w w' := by
 have hx := (Own.new_ w 48 #[a1, a2, a3, .int .i64 m.c.hand, .int .i64 m.g.count, .int .i64 m.g.next, .int .i64 m.g.round, a4, .int .i64 m.sp]).alloc (o := .cells #[b1, b2, b3, .int .i64 m.c.hand, .int .i64 m.g.count, .int .i64 m.g.next, .int .i64 m.g.round, b4, .int .i64 m.sp] 48)
 have hy := ownAt (W := w.alloc (.cells #[a1, a2, a3, .int .i64 m.c.hand, .int .i64 m.g.count, .int .i64 m.g.next, .int .i64 m.g.round, a4, .int .i64 m.sp] 48)) (g := w.heap.size + 1) (t := 48) (cs := #[b1, b2, b3, .int .i64 m.c.hand, .int .i64 m.g.count, .int .i64 m.g.next, .int .i64 m.g.round, b4, .int .i64 m.sp]) (by simp)
 have hb0 : Below w.heap.size w ((w.alloc (.cells #[a1, a2, a3, .int .i64 m.c.hand, .int .i64 m.g.count, .int .i64 m.g.next, .int .i64 m.g.round, a4, .int .i64 m.sp] 48)).alloc (.cells #[b1, b2, b3, .int .i64 m.c.hand, .int .i64 m.g.count, .int .i64 m.g.next, .int .i64 m.g.round, b4, .int .i64 m.sp] 48)) := bA (bA bR)
 obtain ⟨A1, c1, rfl, _⟩ := ha.t.b
 obtain ⟨A2, c2, rfl, _⟩ := ha.t.f
 obtain ⟨A3, c3, rfl, _⟩ := ha.l
 obtain ⟨A4, c4, rfl, _⟩ := ha.o
 obtain ⟨B1, d1, rfl, _⟩ := hb.t.b
 obtain ⟨B2, d2, rfl, _⟩ := hb.t.f
 obtain ⟨B3, d3, rfl, _⟩ := hb.l
 obtain ⟨B4, d4, rfl, _⟩ := hb.o
 generalize hW : (w.alloc (.cells #[.slice A1 m.t.bs.length c1, .slice A2 m.t.fs.length c2, .slice A3 m.c.ls.length c3, .int .i64 m.c.hand, .int .i64 m.g.count, .int .i64 m.g.next, .int .i64 m.g.round, .slice A4 m.g.os.length c4, .int .i64 m.sp] 48)).alloc (.cells #[.slice B1 m.t.bs.length d1, .slice B2 m.t.fs.length d2, .slice B3 m.c.ls.length d3, .int .i64 m.c.hand, .int .i64 m.g.count, .int .i64 m.g.next, .int .i64 m.g.round, .slice B4 m.g.os.length d4, .int .i64 m.sp] 48) = W0 at hx hy hb0
 obtain ⟨p0a, p1a, p2a, p3a, p4a, p5a, p6a, p7a, p8a⟩ := cells9 hx
 obtain ⟨p0b, p1b, p2b, p3b, p4b, p5b, p6b, p7b, p8b⟩ := cells9 hy
 have HX := Hd hx
 have HY := Hd hy
 have HA := Hd ha
 have HB := Hd hb
 have HB0 := Hd hb0
 clear hx hy ha hb hb0
 go_enter Tryz.func29, Tryz.ntmps29
 go_wp2_with fail
 refine (TableSame_same _ _ _ _ m.t _ (HA.out.t.now HB0.out) (HB.out.t.now HB0.out)).mono ?_
 rintro e w1 ⟨rfl, hb1⟩
 clear p0a p1a p2a p3a p4a p5a p6a p7a p8a p0b p1b p2b p3b p4b p5b p6b p7b p8b
 have HX1 := Hd (HX.out.below hb1)
 have HY1 := Hd (HY.out.below hb1)
 have HB1 := Hd (bT HB0.out hb1)
 clear hb1
 obtain ⟨p0a, p1a, p2a, p3a, p4a, p5a, p6a, p7a, p8a⟩ := cells9 HX1.out
 obtain ⟨p0b, p1b, p2b, p3b, p4b, p5b, p6b, p7b, p8b⟩ := cells9 HY1.out
 go_wp2_with fail
 refine (CacheSame_same _ _ m.c _ (HA.out.l.now HB1.out) (HB.out.l.now HB1.out)).mono ?_
 rintro e w2 ⟨rfl, hb2⟩
 clear p0a p1a p2a p3a p4a p5a p6a p7a p8a p0b p1b p2b p3b p4b p5b p6b p7b p8b
 have HX2 := Hd (HX1.out.below hb2)
 have HY2 := Hd (HY1.out.below hb2)
 have HB2 := Hd (bT HB1.out hb2)
 clear hb2
 obtain ⟨p0a, p1a, p2a, p3a, p4a, p5a, p6a, p7a, p8a⟩ := cells9 HX2.out
 obtain ⟨p0b, p1b, p2b, p3b, p4b, p5b, p6b, p7b, p8b⟩ := cells9 HY2.out
 go_wp2_with fail
 refine (TagsSame_same _ _ m.g _ (HA.out.o.now HB2.out) (HB.out.o.now HB2.out)).mono ?_
 rintro e w3 ⟨rfl, hb3⟩
 clear p0a p1a p2a p3a p4a p5a p6a p7a p8a p0b p1b p2b p3b p4b p5b p6b p7b p8b
 have HX3 := Hd (HX2.out.below hb3)
 have HY3 := Hd (HY2.out.below hb3)
 have HB3 := Hd (bT HB2.out hb3)
 clear hb3
 obtain ⟨p0a, p1a, p2a, p3a, p4a, p5a, p6a, p7a, p8a⟩ := cells9 HX3.out
 obtain ⟨p0b, p1b, p2b, p3b, p4b, p5b, p6b, p7b, p8b⟩ := cells9 HY3.out
 go_wp2
 go_ret
 exact ⟨rfl, HB3.out⟩
def IsRow (k : IntKind) (w : World) (a : Option Addr) (len cap : Nat) (zs : List Int) : Prop :=
 (a = none ∧ len = 0 ∧ cap = 0 ∧ zs = []) ∨
 ∃ x, a = some x ∧ len ≤ cap ∧ cap ≤ maxLen ∧ zs.length = cap ∧ (∀ i, i < zs.length → w.cell? (x.add i) = some (.int k (zs.getD i 0))) ∧ ∀ n ∈ zs, (Lit.int k n).wf = true
theorem row_cap {w : World} {a : Option Addr} {len cap : Nat} {zs : List Int} (h : IsRow .u8 w a len cap zs) : len ≤ cap := by
 rcases h with ⟨_, rfl, rfl, _⟩ | ⟨x, _, h, _⟩
 ·exact Nat.le_refl _
 ·exact h
theorem wf_u8_in {n : Int} (h : (Lit.int .u8 n).wf = true) : 0 ≤ n ∧ n ≤ 255 := by
 simp [Lit.wf, IntKind.min, IntKind.max, IntKind.signed, IntKind.bits] at h
 omega
theorem row_bytes {w : World} {a : Option Addr} {len cap : Nat} {zs : List Int} (h : IsRow .u8 w a len cap zs) : Bytes w.heap.size w a len := by
 rcases h with ⟨_, rfl, _, _⟩ | ⟨x, rfl, hlc, _, hz, hc, hw⟩
 ·exact ⟨fun j hj => absurd hj (by omega)⟩
 ·refine ⟨fun j hj => ?_⟩
  obtain ⟨b, o, s⟩ := x
  have h0 := hc 0 (by omega)
  have hs : s = none := by simpa [Addr.add] using World.cell?_spot h0
  subst hs
  have h1 := hc j (by omega)
  rw [add_lit_] at h1
  have hm : zs.getD j 0 ∈ zs := by
   have e : zs.getD j 0 = zs[j]'(by omega) := by rw [List.getD_eq_getElem?_getD, List.getElem?_eq_getElem (by omega)]; rfl
   rw [e]; exact List.getElem_mem _
  obtain ⟨h2, h3⟩ := wf_u8_in (hw _ hm)
  obtain ⟨v, hv⟩ := Int.eq_ofNat_of_zero_le h2
  rw [hv] at h1 h3
  exact ⟨b, o, v, rfl, World.block_lt_of_cell? w _ h1, h1, by omega⟩
end Go.Proofs.YtibpnlojlfcpmaaGreatDoor
