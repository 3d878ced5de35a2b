import Derived.Test.YtebodfciiikokaaDel
import Derived.Deep.RegionLaw
import Derived.Deep.RegionWith
namespace Go.Proofs.Ytebodfciiikokaa
open Go.RowKit

section
variable {P : Program} {w : World}
/-- a call of a named function, in a region that draws its order -/
theorem step_call {ops : Array Oper} {o : Oper} {a : Act} {K : Act → World → Prop} {Q : Exit → Act → World → Prop} {E : Prop} (hgd : o.guard = none) {f : FuncId} {args : Array Value} {R : Value → World → Prop}
    (hx : (execOp a.eval o).run P w = .ok (.enter f args) w) (hc : Calls P f args w (Post2 R)) (h : ∀ v w', R v w' → K (a.put o.dst v) w') : if Region.wanted o (yielded ops a.tmps) = true then Oper.wp P o a w K Q else E := by
  have hw : Region.wanted o (yielded ops a.tmps) = true := by simp [Region.wanted, hgd]
  rw [if_pos hw]
  unfold Oper.wp
  rw [hx, Oper.upon_enter]
  refine hc.mono ?_
  rintro e w' ⟨v, rfl, hr⟩
  exact h v w' hr
end
theorem step_append_run {P : Program} {w : World} {ops : Array Oper} {o : Oper} {a : Act} {K : Act → World → Prop} {Q : Exit → Act → World → Prop} {E : Prop} (hgd : o.guard = none) (s x : Operand) (t : TypeId)
    (ho : o.op = .call { callee := .builtin .append, args := #[s, x], argTypes := #[t, t] }) (v y v' : Value) (w' : World) (hv : a.eval s = v) (hx : a.eval x = y)
    (hrun : (Builtin.append_ #[t, t] o.type #[v, y]).run P w = .ok v' w') (h : K (a.put o.dst v') w') : if Region.wanted o (yielded ops a.tmps) = true then Oper.wp P o a w K Q else E := by
  have hw : Region.wanted o (yielded ops a.tmps) = true := by simp [Region.wanted, hgd]
  rw [if_pos hw]
  unfold Oper.wp execOp
  simp only [ho, resolve, invoke, builtin, Sem.run_bind, Sem.run_pure, Result.andThen_ok, List.map_toArray, List.map_cons, List.map_nil, hv, hx, hrun]
  exact h
theorem gA {a w : World} {row : Option Nat} (h : a.grownBy w row) {o : Obj} : a.grownBy (w.alloc o) row :=
  ⟨h.os, h.tape, h.output, Nat.le_trans h.size (by simp), fun i hi hne => (Below.heap_alloc w o i (Nat.lt_of_lt_of_le hi h.size)).trans (h.block i hi hne)⟩
theorem gD {a w : World} {row : Option Nat} (h : a.grownBy w row) : a.grownBy w.drew row := ⟨h.os, h.tape, h.output, h.size, h.block⟩
theorem gR {a : World} {row : Option Nat} : a.grownBy a row := World.grownBy.refl a row
theorem gB {a w w' : World} {row : Option Nat} (h : a.grownBy w row) (hb : Below w.heap.size w w') : a.grownBy w' row :=
  h.trans ⟨hb.os, hb.tape, hb.output, hb.size, fun k hk _ => hb.block k hk⟩
theorem gT {a b c : World} {row : Option Nat} (h : a.grownBy b row) (k : b.grownBy c row) : a.grownBy c row := h.trans k
theorem rd_key1 {W : World} {b : Nat} {x y : Int} (h0 : W.cell? ⟨b, 0, none⟩ = some (.int .i64 x)) (h1 : W.cell? ⟨b, 1, none⟩ = some (.int .i64 y)) : Rd (b + 1) W 2 (some ⟨b, 0, none⟩) 1 (kcells [(x, y)]) :=
  ⟨rfl, fun _ => ⟨b, 0, rfl, by omega, fun j u hu => by
    rw [Nat.zero_add]
    match j, hu with
    | 0, hu => simp [kcells] at hu; subst hu; exact h0
    | 1, hu => simp [kcells] at hu; subst hu; exact h1
    | j + 2, hu => simp [kcells] at hu⟩⟩

theorem grown_own {W w w' : World} {g : Nat} (hg : W.grownBy w (some g)) (h : w.grownBy w' (some g)) : W.grownBy w' (some g) := hg.trans h

set_option maxHeartbeats 1000000 in
set_option maxRecDepth 1000000 in
theorem moveBack_any (base g c : Nat) (l : List Key) (i : Int) (w : World) (hown : w.ownsRow base 50 2 (.slice (some ⟨g, 0, none⟩) l.length c) l.length (kcells l))
    (hs : l.length ≤ 1048576) (hb : base ≤ w.heap.size) (h0 : 0 ≤ i) (h1 : i < l.length) (k : Key) (hk : l[i.toNat]? = some k) :
    Calls Try.prog 58 #[.slice (some ⟨g, 0, none⟩) l.length c, .int .i64 i] w
      (Post2 fun v w' => w'.ownsRow base 50 2 v l.length (kcells (l.eraseIdx i.toNat ++ [k])) ∧ w.grownBy w' (some g)) := by
  obtain ⟨i, rfl⟩ := Int.eq_ofNat_of_zero_le h0
  rw [Int.toNat_natCast] at hk ⊢
  obtain ⟨x, y⟩ := k
  obtain ⟨A, c', e1, hlc, hcm, hrd⟩ := own_rd hown
  injection e1 with e1 _ e2
  subst e1 e2
  have hil : i < l.length := by omega
  obtain ⟨b, o, e3, hbb, c1, c2⟩ := hrd.key hil
  injection e3 with e3
  injection e3 with e3 e4
  subst e3 e4
  rw [List.getElem?_eq_getElem hil] at hk
  injection hk with hk
  rw [hk] at c1 c2
  rw [Nat.zero_add] at c1 c2
  have HO := Lib.hid hown
  have hle : (l.eraseIdx i).length = l.length - 1 := List.length_eraseIdx_of_lt hil
  have HL := Lib.hid hle
  clear hown hrd hk hle
  go_enter Try.func58, Try.ntmps58
  go_wp2
  have HO1 : Hid (((w.alloc (.cells #[.int .i64 x, .int .i64 y] 50))).ownsRow base 50 2 (.slice (some ⟨g, 0, none⟩) l.length c) l.length (kcells l)) := HO.out.alloc _
  have hwr : IntKind.i64.wrap ((i : Int) + 1) = (i : Int) + 1 := IntWalk.i64_in _ (by omega)
  obtain ⟨i0, hi0, hz0, hz1, hz2⟩ := info_parts key_info
  have hm1 : l.length - 1 + 1 ≤ maxLen := by simp only [maxLen]; omega
  have hm2 : (l.length - 1 + 1) * 16 ≤ 140737488355328 := by omega
  go_region_law (first
    | (refine step_call rfl (by go_simp) (delete_any base g c l i _ (HO1.out.alloc (.cells #[.int .i64 x, .int .i64 y] 50)) (by omega) (by omega)) ?_
       rintro v w' ⟨rfl, hown', hg'⟩
       have q0 := hg'.cell (a := ⟨w.heap.size, 0, none⟩) (v := .int .i64 x) ((Own.new_ w _ _).drew.alloc.cell_ 0 rfl) (by simp; omega)
       have q1 := hg'.cell (a := ⟨w.heap.size, 1, none⟩) (v := .int .i64 y) ((Own.new_ w _ _).drew.alloc.cell_ 1 rfl) (by simp; omega)
       have r0 := hg'.cell (a := ⟨w.heap.size + 1, 0, none⟩) (v := .int .i64 x) (by simp) (by simp; omega)
       have r1 := hg'.cell (a := ⟨w.heap.size + 1, 1, none⟩) (v := .int .i64 y) (by simp) (by simp; omega)
       have HO2 := Lib.hid hown'
       have HG := Lib.hid hg'
       have hbs : base ≤ w'.heap.size := Nat.le_trans hb (Nat.le_trans (by simp <;> omega) hg'.size)
       clear hown' hg')
    | (refine step_call rfl (by go_simp) (delete_any base g c l i _ (HO1.out) (by omega) (by omega)) ?_
       rintro v w' ⟨rfl, hown', hg'⟩
       have q0 := hg'.cell (a := ⟨w.heap.size, 0, none⟩) (v := .int .i64 x) ((Own.new_ w _ _).drew.cell_ 0 rfl) (by simp; omega)
       have q1 := hg'.cell (a := ⟨w.heap.size, 1, none⟩) (v := .int .i64 y) ((Own.new_ w _ _).drew.cell_ 1 rfl) (by simp; omega)
       have HO2 := Lib.hid hown'
       have HG := Lib.hid hg'
       have hbs : base ≤ w'.heap.size := Nat.le_trans hb (Nat.le_trans (by simp) hg'.size)
       clear hown' hg')
    | (obtain ⟨v2, w2, hrun, hown2, hg2, _⟩ := run_append_key base w' _ (l.length - 1) (l.eraseIdx i) x y HO2.out HL.out (by omega) hbs
       have HO3 := Lib.hid hown2
       have HG2 := Lib.hid hg2
       clear hown2 hg2
       refine step_append_run rfl (.tmp 14) (.tmp 16) 23 rfl _ _ _ _ (by simp [Act.eval]) (by simp [Act.eval]) hrun ?_
       clear hrun)
    | (obtain ⟨v2, w2, hrun, hown2, hg2, _⟩ := run_append_rd (P := Try.prog) w' base 23 23 50 i0 _ 2 16 Try.underlying23 hi0 hz0 hz1 hz2 rfl (by omega) _ (l.length - 1) (kcells (l.eraseIdx i)) HO2.out _ _ 1 1 (kcells [(x, y)]) (rd_key1 r0 r1) (kcells_one _) hm1 hm2 hbs
       have HO3 := Lib.hid hown2
       have HG2 := Lib.hid hg2
       clear hown2 hg2
       refine step_append_run rfl (.tmp 14) (.tmp 16) 23 rfl _ _ _ _ (by simp [Act.eval]) (by simp [Act.eval]) hrun ?_
       clear hrun))
  all_goals
    go_wp2
    go_ret
    have HO4 := HO3.out
    rw [show l.length - 1 + 1 = l.length by omega] at HO4
    try rw [← kcells_append] at HO4
    refine ⟨_, rfl, HO4, ?_⟩
    first
      | exact gT (gA (gT (gD (gA gR)) HG.out)) HG2.out
      | exact gT (gT (gA (gD (gA gR))) HG.out) HG2.out
end Go.Proofs.Ytebodfciiikokaa
