/- A part of the proofs of this seat: Oth, Reg, RelD, Sz, TchP, TchS, WpP. -/
import Derived.Test.YtibpnlojlfcpmaaGreatDoorAFilS
set_option linter.unusedVariables false
set_option linter.unusedSimpArgs false
set_option maxRecDepth 1000000
namespace Go.Proofs.YtibpnlojlfcpmaaGreatDoor
open Go.RowKit
theorem stS_same (ty : TypeId) (n : Nat) (v : World) : stS ty n v v := ⟨Oth.of_below bR, fun g cs h1 h2 => ⟨cs, h1, h2⟩⟩
theorem stS_set {ty : TypeId} {n : Nat} {v : World} {g i : Nat} {cs : Array Value} {u : Value} (ho : Own v g ty cs) : stS ty n v (v.setCell ⟨g, i, none⟩ u) := by
 have same : ∀ (g' : Nat) (e : TypeId) (cs' : Array Value), Own v g' e cs' → g' = g → e = ty ∧ cs' = cs := by
  rintro g' e cs' h rfl
  unfold Own at h ho
  rw [ho] at h
  injection h with h
  injection h with h1 h2
  exact ⟨h2.symm, h1.symm⟩
 refine ⟨⟨by simp, fun g' e cs' h hne => ?_⟩, fun g' cs' hn h => ?_⟩
 ·by_cases hg : g' = g
  ·exact absurd (same g' e cs' h hg).1 hne
  ·exact h.far hg
 ·by_cases hg : g' = g
  ·subst hg
   obtain ⟨_, rfl⟩ := same g' ty cs' h rfl
   exact ⟨_, by simpa using hn, ho.set_ i u⟩
  ·exact ⟨cs', hn, h.far hg⟩
theorem stS_trans {ty : TypeId} {n : Nat} {v v' v'' : World} (h : stS ty n v v') (k : stS ty n v' v'') : stS ty n v v'' := by
 refine ⟨⟨Nat.le_trans h.1.1 k.1.1, fun g e cs o hne => k.1.2 g e cs (h.1.2 g e cs o hne) hne⟩, fun g cs hn o => ?_⟩
 obtain ⟨cs', e1, e2⟩ := h.2 g cs hn o
 exact k.2 g cs' e1 e2
def tln (m : Ma) (p fr : Int) : Ln := ⟨true, tagT m m.sp p, p, fr, (m.t.fs.getD fr.toNat frz).r, false⟩
theorem MV.fill {m : Ma} (M : MV m) {p : Int} (hp : inR p 256 = true) (hmiss : ¬ 0 ≤ plcI m.c.ls (tagT m m.sp p) p) {k : Nat} (hf : fnd m.t.fs (keyI m.sp p) p = some k) :
  filOK m.c (tln m p k) = true ∧ mav { m with c := filC m.c (tln m p k) } = true := by
 obtain ⟨f, ef, hu, hfk⟩ := fnd_some hf
 obtain ⟨htag, hsp⟩ := M.tag p
 have hkl := (List.getElem?_eq_some_iff.1 ef).1
 have hr : (m.t.fs.getD (k : Int).toNat frz).r = f.r := by rw [Int.toNat_natCast, getD_at ef]
 have hfr := M.t.ok k f ef
 unfold frok at hfr
 rw [hu, if_pos rfl, Bool.and_eq_true] at hfr
 have hl : lnok (tln m p k) = true := by
  unfold lnok tln
  simp only [if_true, Bool.and_eq_true]
  refine ⟨⟨⟨tagT_ok M.g _ _, hp⟩, inR_iff.2 ⟨by omega, ?_⟩⟩, by rw [hr]; exact hfr.2⟩
  have := M.t.sz
  omega
 have hcl : ∀ (i : Nat) (y : Ln), m.c.ls[i]? = some y → clash (tln m p k) y = false := by
  intro i y e
  refine bool_ff fun h => ?_
  unfold clash tln at h
  simp only [Bool.and_eq_true, Bool.or_eq_true, decide_eq_true_eq] at h
  obtain ⟨⟨⟨_, hv⟩, hyp⟩, ht⟩ := h
  have hfit : fits (tagT m m.sp p) p y = true := by
   refine fits_iff.2 ⟨hv, hyp.symm, ?_⟩
   rcases ht with (ht | ht) | ht
   ·exact .inl ht.symm
   ·obtain ⟨_, _, _, _, _, _, h5, _⟩ := lnM_some hv (M.l i y e)
    exact .inr (h5.1 (by rw [← hyp]; exact htag.2 ht))
   ·exact .inr ht
  rw [plcI_none hmiss e] at hfit
  cases hfit
 have hcv := M.c.fill hl rfl hcl
 refine ⟨?_, ?_⟩
 ·unfold filOK
  rw [cav_CV.2 M.c, hl, cav_CV.2 hcv, show (tln m p k).t = tagT m m.sp p from rfl, show (tln m p k).p = p from rfl, decide_eq_false hmiss]
  rfl
 ·refine mav_MV.2 ⟨M.t, hcv, M.g, M.o, M.f, fun i x hi => ?_⟩
  simp only [filC] at hi
  rw [List.getElem?_set] at hi
  have hvi := vic_in M.c
  split at hi
  ·injection hi with hi
   rw [← hi]
   obtain ⟨s, hs1, hs2⟩ := hsp (tln m p k) rfl rfl
   exact lnM_mk (m := { m with c := filC m.c (tln m p k) }) (s := s) (i := k) hs1 (by show fnd m.t.fs (keyI s p) p = some k; rw [hs2]; exact hf) rfl (by show (m.t.fs.getD k frz).r = (m.t.fs.getD (k : Int).toNat frz).r; rw [Int.toNat_natCast]) htag (fun h => by cases h)
  ·exact M.l i x hi
def tchO (m : Ma) (p n : Int) : Bool := mav m && inR p 256 && inR n 8
def tchH (m : Ma) (p : Int) : Int := plcI m.c.ls (tagT m m.sp p) p
def tchK (m : Ma) (p : Int) : Int := fndI m.t.fs (keyI m.sp p) p
def tchFr (m : Ma) (p : Int) : Int := if 0 ≤ tchH m p then (m.c.ls.getD (tchH m p).toNat lnz).f else if 0 ≤ tchK m p then tchK m p else 0
def tchV (m : Ma) (p n : Int) : Ma := if tchO m p n = true then (if 0 ≤ tchH m p then m else if 0 ≤ tchK m p then { m with c := filC m.c (tln m p (tchK m p)) } else m) else maz
def tchF (m : Ma) (p n : Int) : Int := if tchO m p n = true then tchFr m p else 0
def tchA (m : Ma) (p n : Int) : Bool := alw (m.t.fs.getD (tchFr m p).toNat frz).r n
def tchR (m : Ma) (p n : Int) : Int := if tchO m p n = true then (if 0 ≤ tchH m p then (if tchA m p n = true then 1 else 4) else if 0 ≤ tchK m p then (if tchA m p n = true then 2 else 4) else 3) else 0
theorem tchO_no {m : Ma} {p n : Int} (h : tchO m p n = false) : tchV m p n = maz ∧ tchF m p n = 0 ∧ tchR m p n = 0 := by
 unfold tchV tchF tchR
 rw [h]
 exact ⟨rfl, rfl, rfl⟩
theorem fndI_fnd {fs : List Fr} {s p : Int} (h : 0 ≤ fndI fs s p) : ∃ k : Nat, fndI fs s p = (k : Int) ∧ fnd fs s p = some k := by
 unfold fndI at h ⊢
 cases e : fnd fs s p with
 | none => rw [e] at h; simp at h
 | some i => exact ⟨i, rfl, rfl⟩
theorem tchO_parts {m : Ma} {p n : Int} (h : tchO m p n = true) : MV m ∧ inR p 256 = true ∧ inR n 8 = true := by
 unfold tchO at h
 simp only [Bool.and_eq_true] at h
 exact ⟨mav_MV.1 h.1.1, h.1.2, h.2⟩
theorem mav_tch {m : Ma} {p n : Int} (h : tchO m p n = true) : mav (tchV m p n) = true := by
 obtain ⟨M, hp, hn⟩ := tchO_parts h
 unfold tchV
 rw [if_pos h]
 split
 ·exact mav_MV.2 M
 ·rename_i h1
  split
  ·rename_i h2
   obtain ⟨k, hk, hf⟩ := fndI_fnd (show 0 ≤ fndI m.t.fs (keyI m.sp p) p from h2)
   have := (M.fill hp h1 hf).2
   rw [show tchK m p = (k : Int) from hk]
   exact this
  ·exact mav_MV.2 M
theorem MV.hit {m : Ma} (M : MV m) {p : Int} (h : 0 ≤ tchH m p) : ∃ (k i : Nat) (x : Ln) (f : Fr), tchH m p = (k : Int) ∧ m.c.ls[k]? = some x ∧ x.f = (i : Int) ∧ m.t.fs[i]? = some f ∧ f.used = true ∧ f.r = x.r ∧ tchFr m p = (i : Int) ∧ fnd m.t.fs (keyI m.sp p) p = some i := by
 obtain ⟨k, x, hk, ex, hx⟩ := plcI_lt (show 0 ≤ plcI m.c.ls (tagT m m.sp p) p from h)
 obtain ⟨h1, h2, h3⟩ := fits_iff.1 hx
 obtain ⟨s, i, a1, a2, a3, a4, a5, a6⟩ := lnM_some h1 (M.l k x ex)
 obtain ⟨f, ef, hu, hfk⟩ := fnd_some a2
 rw [getD_at ef] at a4
 have hkk : tchH m p = (k : Int) := hk
 refine ⟨k, i, x, f, hkk, ex, a3.symm, ef, hu, a4, ?_, ?_⟩
 ·unfold tchFr
  rw [if_pos h, hkk, Int.toNat_natCast, List.getD_eq_getElem?_getD, ex]
  exact a3.symm
 ·rw [← h2]
  have hks : keyI s x.p = keyI m.sp x.p := by
   by_cases h128 : 128 ≤ x.p
   ·unfold keyI; rw [if_pos h128, if_pos h128]
   ·rcases h3 with h3 | h3
    ·obtain ⟨s', hs1, hs2⟩ := (M.tag p).2 x h2 h3
     rw [a1] at hs1
     injection hs1 with hs1
     rw [hs1, h2]; exact hs2
    ·exact absurd (a5.2 h3) h128
  rw [← hks]; exact a2
def wpC (m : Ma) (p : Int) : Ca := (tchV m p 0).c
def wpI (m : Ma) (p : Int) : Int := plcI (wpC m p).ls (-1) p
def wpO (m : Ma) (p : Int) : Bool := tchO m p 0 && !decide (tchR m p 0 = 3) && decide (128 ≤ p) && wirOK (wpC m p) (wpI m p) true
def wpV (m : Ma) (p : Int) : Ma := if wpO m p = true then { tchV m p 0 with c := wirC (wpC m p) (wpI m p) true } else maz
theorem wpO_no {m : Ma} {p : Int} (h : wpO m p = false) : wpV m p = maz := by unfold wpV; rw [h]; rfl
theorem mav_wire {m : Ma} {p : Int} (h : wpO m p = true) : mav (wpV m p) = true := by
 have hV : wpV m p = { tchV m p 0 with c := wirC (wpC m p) (wpI m p) true } := by unfold wpV; rw [if_pos h]
 unfold wpO at h
 simp only [Bool.and_eq_true, decide_eq_true_eq] at h
 obtain ⟨⟨⟨h1, _⟩, h3⟩, h4⟩ := h
 have M := mav_MV.1 (mav_tch h1)
 unfold wirOK at h4
 simp only [Bool.and_eq_true] at h4
 obtain ⟨⟨⟨_, hin⟩, hvv⟩, hc⟩ := h4
 obtain ⟨hi0, hi1⟩ := inR_iff.1 hin
 obtain ⟨k, x, hk, ex, hx⟩ := plcI_lt (show 0 ≤ plcI (wpC m p).ls (-1) p from hi0)
 have hwi : wpI m p = (k : Int) := hk
 obtain ⟨hxv, hxp, hxt⟩ := fits_iff.1 hx
 have hwc : wirC (wpC m p) (wpI m p) true = ⟨(wpC m p).ls.set k { x with w := true }, (wpC m p).hand⟩ := by
  unfold wirC
  rw [hwi, Int.toNat_natCast, List.getD_eq_getElem?_getD, ex]
  rfl
 rw [hwc] at hc
 rw [hV, hwc]
 refine mav_MV.2 ⟨M.t, cav_CV.1 hc, M.g, M.o, M.f, fun i y hi => ?_⟩
 simp only at hi
 rw [List.getElem?_set] at hi
 split at hi
 ·split at hi
  ·injection hi with hi
   rw [← hi]
   obtain ⟨s, j, b1, b2, b3, b4, b5, b6⟩ := lnM_some hxv (M.l k x ex)
   exact lnM_mk (m := { tchV m p 0 with c := ⟨(wpC m p).ls.set k { x with w := true }, (wpC m p).hand⟩ }) (s := s) (i := j) b1 b2 b3 b4 b5 (fun _ => by show 128 ≤ x.p; rw [hxp]; exact h3)
  ·cases hi
 ·exact M.l i y hi
structure Sz (k : Nat) (m : Ma) : Prop where
 b1 : 1 ≤ m.t.bs.length
 b : m.t.bs.length ≤ k
 f : m.t.fs.length ≤ k
 l : m.c.ls.length ≤ k
 o : m.g.os.length ≤ k
theorem Sz.up {k k' : Nat} {m : Ma} (h : Sz k m) (hk : k ≤ k') : Sz k' m := ⟨h.b1, Nat.le_trans h.b hk, Nat.le_trans h.f hk, Nat.le_trans h.l hk, Nat.le_trans h.o hk⟩
theorem Sz.of {m : Ma} (h : mav m = true) : Sz 16 m := by
 obtain ⟨h1, h2, h3, _⟩ := mav_parts h
 have a := (tv_parts h1).1
 have b := cav_parts h2
 have c := tgv_parts h3
 have d := tok_len c.2 c.1.2.2.1
 exact ⟨by omega, by omega, by omega, by omega, by omega⟩
def Drawn (B k : Nat) (w : World) (g p n : Nat) (v : Value) (w' : World) : Prop :=
 ∃ (m : Ma) (v1 v2 v3 v4 : Value) (q : Nat), v = .agg #[v1, v2, v3, .int .i64 m.c.hand, .int .i64 m.g.count, .int .i64 m.g.next, .int .i64 m.g.round, v4, .int .i64 m.sp] ∧ MaM B w' v1 v2 v3 v4 m ∧ Sz k m ∧ Rdr B w' g q ∧ q ≤ p + n ∧ w.grownBy w' (some g)
def kds {S : World → World → Prop} {si : Nat} (ks : List (KD S si)) (j : Nat) (u : Value) (v : World) : Prop := match ks[j]? with | some k => k.P j u v | none => True
def tK (S : World → World → Prop) (si i : Nat) (v v' : World) : Prop := if i = si then S v v' else Below v.heap.size v v'
theorem kds_keep {S : World → World → Prop} {si : Nat} {ks : List (KD S si)} {i j : Nat} {u : Value} {v v' : World} (hij : i ≠ j) (h : kds ks j u v) (ht : tK S si i v v') : kds ks j u v' := by
 unfold kds at h ⊢
 cases hk : ks[j]? with
 | none => trivial
 | some k =>
  rw [hk] at h
  unfold tK at ht
  split at ht
  ·rename_i hi
   exact k.ks j u v v' (by omega) h ht
  ·exact k.kb j u v v' h ht
theorem tK_below {S : World → World → Prop} {si i : Nat} {v v' : World} (hi : i ≠ si) (h : Below v.heap.size v v') : tK S si i v v' := by
 unfold tK
 rw [if_neg hi]
 exact h
theorem tK_same {S : World → World → Prop} (hS : ∀ v, S v v) {si i : Nat} {v : World} : tK S si i v v := by
 unfold tK
 split
 ·exact hS v
 ·exact bR
theorem tK_store {S : World → World → Prop} {si : Nat} {v v' : World} (h : S v v') : tK S si si v v' := by
 unfold tK
 rw [if_pos rfl]
 exact h
theorem wp_region_rel3 {P : Program} {ops : Array Oper} {Q : Exit → Act → World → Prop} {id : Nat} {a : Act} {w : World} (hm : P.follows .mixedOrders = true) (ds : List Nat) (rds : List (List Nat)) (C : (Nat → Bool) → World → Prop)
    (R : Nat → (Nat → Value) → World → Prop) (T : Nat → World → World → Prop) (hB : relB .any ops ds rds = true) (hC : C (fun _ => false) w.drew)
    (hR : ∀ j x y v, (∀ s ∈ rds.getD j [], x s = y s) → R j x v → R j y v)
    (hT : ∀ i j x v v', i ≠ j → R j x v → T i v v' → R j x v')
    (step : ∀ i o, ops[i]? = some o → ∀ D x v, D i = false → (∀ j oj, ops[j]? = some oj → D j = true → ∀ e ∈ oj.after, Region.binds .any e = true → D e.on = true) → C D v → (∀ k, (∃ e ∈ o.after, Region.binds .any e = true ∧ e.on = k) → R k x v) → ∀ K : Act → World → Prop,
      (∀ u v', T i v v' → C (fun j => if j = i then true else D j) v' → R i (upd x o.dst u) v' → K ((fillA ds x a).put o.dst u) v') → o.wp P (fillA ds x a) v K Q)
    (fin : ∀ D x v, (∀ i, i < ops.size → D i = true) → C D v → (∀ i, i < ops.size → R i x v) → Q .normal (fillA ds x a) v) : (Code.region id ops true).wp P Q a w := by
  refine wp_region_any hm ?_
  refine wpAny_inv (fun L a' v => ∃ x, a' = fillA ds x a ∧ C (fun j => L.getD j false) v ∧ L.size = ops.size ∧ (∀ j, L.getD j false = true → R j x v) ∧
    ∀ j o, ops[j]? = some o → L.getD j false = true → ∀ e ∈ o.after, Region.binds .any e = true → L.getD e.on false = true) ?_ ?_ _ _ _ _ (left_le _ _) ?_
  · rintro L a' v ⟨x, rfl, hCv, hsz, hL, hcl⟩ i hi
    obtain ⟨h0, o, ho, hdep⟩ := mem_ready.1 hi
    obtain ⟨b1, b2, b3, b4⟩ := relB_at hB ho
    have hisz := (Array.getElem?_eq_some_iff.1 ho).1
    have h0' : L.getD i false = false := by rw [← getD_both_ (by omega)]; exact h0
    unfold wpOp
    rw [ho]
    simp only [Region.wanted, b1, if_true]
    refine .inl (step i o ho _ x v h0' (fun j oj hoj hj e he hb => hcl j oj hoj hj e he hb) hCv (fun k ⟨e, he, hb, hk⟩ => hk ▸ hL _ (hdep e he hb)) _ (fun u v' hTv hCv' hRi => ?_))
    refine ⟨upd x o.dst u, fill_put b2, ?_, by simpa using hsz, fun j hj => ?_, fun j oj hoj hj e he hb => ?_⟩
    · have e : (fun j => (L.setIfInBounds i true).getD j false) = (fun j => if j = i then true else L.getD j false) := funext fun j => by
        by_cases hij : j = i
        · subst hij; simp [hsz, hisz]
        · rw [if_neg hij, getD_set_ne false (fun h => hij h.symm)]
      show C (fun j => (L.setIfInBounds i true).getD j false) v'
      rw [e]
      exact hCv'
    · by_cases hij : i = j
      · subst hij; exact hRi
      · rw [getD_set_ne false hij] at hj
        have hj2 : j < ops.size := by
          rcases Nat.lt_or_ge j L.size with h | h
          · omega
          · simp [Array.getElem?_eq_none h] at hj
        obtain ⟨oj, hoj⟩ : ∃ oj, ops[j]? = some oj := ⟨_, Array.getElem?_eq_getElem hj2⟩
        refine hR j x _ v' (fun s hs => ?_) (hT i j x v v' hij (hL j hj) hTv)
        by_cases hd : o.dst = some s
        · obtain ⟨e, he, hb, hon⟩ := (relB_at hB hoj).2.2.2 i o s ho hij hd hs
          have h1 := hcl j oj hoj hj e he hb
          rw [hon, ← getD_both_ (by omega), h0] at h1
          cases h1
        · unfold upd; rw [if_neg (fun h => hd h.symm)]
    · by_cases hij : i = j
      · subst hij
        rw [ho] at hoj
        injection hoj with hoj
        subst hoj
        exact getD_set_true (hdep e he hb)
      · rw [getD_set_ne false hij] at hj
        exact getD_set_true (hcl j oj hoj hj e he hb)
  · rintro L a' v ⟨x, rfl, hCv, hsz, hL, hcl⟩ hr
    have hall : ∀ n j, j < n → j < ops.size → L.getD j false = true := by
      intro n
      induction n with
      | zero => intro j h; exact absurd h (by omega)
      | succ n ih =>
        intro j hj hjs
        obtain ⟨oj, hoj⟩ : ∃ oj, ops[j]? = some oj := ⟨_, Array.getElem?_eq_getElem hjs⟩
        by_cases hd : L.getD j true = true
        · rw [← getD_both_ (by omega)]; exact hd
        · have hmem : j ∈ Region.ready .any ops L := mem_ready.2 ⟨by simpa using hd, oj, hoj, fun e he hb => by
            have h1 := (relB_at hB hoj).2.2.1 e he hb
            exact ih e.on (by omega) (by omega)⟩
          rw [hr] at hmem
          cases hmem
    exact fin _ x v (fun i hi => hall (i + 1) i (by omega) hi) hCv (fun i hi => hL i (hall (i + 1) i (by omega) hi))
  · refine ⟨fun s => a.tmps.getD s undef, (fill_self ds a).symm, ?_, by simp, fun j hj => ?_, fun j o ho hj => ?_⟩
    · refine Eq.mp (congrArg (fun d => C d w.drew) ?_) hC
      funext j
      rcases Nat.lt_or_ge j ops.size with h | h
      · simp [h]
      · simp [h]
    all_goals
      exfalso
      rcases Nat.lt_or_ge j ops.size with h | h
      · simp [h] at hj
      · simp [h] at hj
theorem wp_region_rel2 {P : Program} {ops : Array Oper} {Q : Exit → Act → World → Prop} {id : Nat} {a : Act} {w : World} (hm : P.follows .mixedOrders = true) (ds : List Nat) (rds : List (List Nat)) (C : (Nat → Bool) → World → Prop)
    (R : Nat → (Nat → Value) → World → Prop) (T : Nat → World → World → Prop) (hB : relB .any ops ds rds = true) (hC : C (fun _ => false) w.drew)
    (hR : ∀ j x y v, (∀ s ∈ rds.getD j [], x s = y s) → R j x v → R j y v)
    (hT : ∀ i j x v v', i ≠ j → R j x v → T i v v' → R j x v')
    (step : ∀ i o, ops[i]? = some o → ∀ D x v, D i = false → C D v → (∀ k, (∃ e ∈ o.after, Region.binds .any e = true ∧ e.on = k) → R k x v) → ∀ K : Act → World → Prop,
      (∀ u v', T i v v' → C (fun j => if j = i then true else D j) v' → R i (upd x o.dst u) v' → K ((fillA ds x a).put o.dst u) v') → o.wp P (fillA ds x a) v K Q)
    (fin : ∀ D x v, (∀ i, i < ops.size → D i = true) → C D v → (∀ i, i < ops.size → R i x v) → Q .normal (fillA ds x a) v) : (Code.region id ops true).wp P Q a w :=
  wp_region_rel3 hm ds rds C R T hB hC hR hT (fun i o ho D x v hD _ hCv hd K hK => step i o ho D x v hD hCv hd K hK) fin
theorem own_gr {w w' : World} {b g : Nat} {t : TypeId} {cs : Array Value} (h : Own w b t cs) (hg : w.grownBy w' (some g)) (hne : b ≠ g) : Own w' b t cs := (hg.block b h.lt (by simpa using hne)).trans h
def small (n : Int) : Prop := -1000 ≤ n ∧ n ≤ 1000001
theorem cn_le (D : Nat → Bool) : ∀ l : List Nat, cn D l ≤ l.length
  | [] => Nat.le_refl _
  | a :: l => by
    have := cn_le D l
    unfold cn
    simp only [List.length_cons]
    split <;> omega
theorem cn_more {D : Nat → Bool} {i : Nat} (hD : D i = false) : ∀ {l : List Nat}, i ∈ l → l.Nodup → cn (fun j => if j = i then true else D j) l = cn D l + 1
  | [], h, _ => by simp at h
  | a :: l, h, hn => by
    obtain ⟨h1, h2⟩ := List.nodup_cons.1 hn
    unfold cn
    by_cases ha : a = i
    · subst ha
      rw [cn_same h1, if_pos rfl, hD]
      simp; omega
    · rw [cn_more hD (by simp at h; rcases h with h | h; exact absurd h.symm ha; exact h) h2, if_neg ha]
      omega
theorem cn_zero : ∀ l : List Nat, cn (fun _ => false) l = 0
 | [] => rfl
 | a :: l => by unfold cn; rw [cn_zero l]; rfl
theorem cn_all {D : Nat → Bool} : ∀ {l : List Nat}, (∀ i ∈ l, D i = true) → cn D l = l.length
  | [], _ => rfl
  | a :: l, h => by
    unfold cn
    rw [cn_all (fun i hi => h i (by simp [hi])), h a (by simp), if_pos rfl]
    simp; omega
def tX (si i : Nat) (v v' : World) : Prop := if i = si then stS 48 9 v v' else othR v v'
def kxs {si : Nat} (ks : List (KX si)) (j : Nat) (x : Nat → Value) (v : World) : Prop := match ks[j]? with | some k => k.P j x v | none => True
theorem kxs_loc {si : Nat} {ks : List (KX si)} : ∀ j x y v, (∀ s ∈ (ks.map KX.rd).getD j [], x s = y s) → kxs ks j x v → kxs ks j y v := by
 intro j x y v h hp
 unfold kxs at hp ⊢
 cases hk : ks[j]? with
 | none => trivial
 | some k =>
  rw [hk] at hp
  refine k.loc j x y v (fun s hs => h s ?_) hp
  rw [List.getD_eq_getElem?_getD, List.getElem?_map, hk]
  exact hs
theorem kxs_keep {si : Nat} {ks : List (KX si)} : ∀ i j x v v', i ≠ j → kxs ks j x v → tX si i v v' → kxs ks j x v' := by
 intro i j x v v' hij hp ht
 unfold kxs at hp ⊢
 cases hk : ks[j]? with
 | none => trivial
 | some k =>
  rw [hk] at hp
  unfold tX at ht
  split at ht
  ·rename_i hi
   exact k.ks j x v v' (by omega) hp ht
  ·exact k.kb j x v v' hp ht
theorem tX_oth {si i : Nat} {v v' : World} (hi : i ≠ si) (h : othR v v') : tX si i v v' := by unfold tX; rw [if_neg hi]; exact h
theorem tX_below {si i : Nat} {v v' : World} (hi : i ≠ si) (h : Below v.heap.size v v') : tX si i v v' := tX_oth hi (Oth.of_below h)
theorem tX_same {si i : Nat} {v : World} (hi : i ≠ si) : tX si i v v := tX_below hi bR
theorem tX_store {si : Nat} {v v' : World} (h : stS 48 9 v v') : tX si si v v' := by unfold tX; rw [if_pos rfl]; exact h
section
variable {si : Nat}
def KX.sat (s : Nat) (q : Value → Prop) : KX si where
 rd := [s]
 P := fun _ x _ => q (x s)
 loc := fun _ x y _ h hp => by rw [← h s (by simp)]; exact hp
 kb := fun _ _ _ _ h _ => h
 ks := fun _ _ _ _ _ h _ => h
def KX.fst (t s B : Nat) (f : Ma → Value → Value → Value → Value → Value → Prop) : KX si where
 rd := [t, s]
 P := fun _ x v => ∃ (m : Ma) (e1 e2 e3 e4 : Value), f m e1 e2 e3 e4 (x t) ∧ x s = .agg #[e1, e2, e3, .int .i64 m.c.hand, .int .i64 m.g.count, .int .i64 m.g.next, .int .i64 m.g.round, e4, .int .i64 m.sp] ∧ MaM B v e1 e2 e3 e4 m
 loc := fun _ x y _ h hp => by rw [← h s (by simp), ← h t (by simp)]; exact hp
 kb := fun _ _ _ _ ⟨m, e1, e2, e3, e4, h1, h2, h3⟩ ho => ⟨m, e1, e2, e3, e4, h1, h2, h3.oth ho (by decide) (by decide) (by decide) (by decide)⟩
 ks := fun _ _ _ _ _ ⟨m, e1, e2, e3, e4, h1, h2, h3⟩ hs => ⟨m, e1, e2, e3, e4, h1, h2, h3.oth hs.1 (by decide) (by decide) (by decide) (by decide)⟩
end
section
variable {B g q : Nat} {F : List (Nat × TypeId × Array Value)} {w : World} {vb vf vl vo : Value} {m : Ma} {v v' : World}
theorem DC.read (h : DC B w g q F vb vf vl vo m v) {q' : Nat} (hr : Rdr B v' g q') (hg : v.grownBy v' (some g)) : DC B w g q' F vb vf vl vo m v' :=
 ⟨hr, gT h.gr hg, h.mm.gr h.rd hg, fun e he => (h.oth hg).2 _ _ _ (h.ob e he) (h.ty e he), h.ty⟩
end
theorem stS_set9 {v : World} {b : Nat} {cs : Array Value} (ho : Own v b 48 cs) (u0 u1 u2 u3 u4 u5 u6 u7 u8 : Value) :
  stS 48 9 v (((((((((v.setCell ⟨b, 0, none⟩ u0).setCell ⟨b, 1, none⟩ u1).setCell ⟨b, 2, none⟩ u2).setCell ⟨b, 3, none⟩ u3).setCell ⟨b, 4, none⟩ u4).setCell ⟨b, 5, none⟩ u5).setCell ⟨b, 6, none⟩ u6).setCell ⟨b, 7, none⟩ u7).setCell ⟨b, 8, none⟩ u8) := by
 have o1 := ho.set_ 0 u0
 have o2 := o1.set_ 1 u1
 have o3 := o2.set_ 2 u2
 have o4 := o3.set_ 3 u3
 have o5 := o4.set_ 4 u4
 have o6 := o5.set_ 5 u5
 have o7 := o6.set_ 6 u6
 have o8 := o7.set_ 7 u7
 exact stS_trans (stS_trans (stS_trans (stS_trans (stS_trans (stS_trans (stS_trans (stS_trans (stS_set ho) (stS_set o1)) (stS_set o2)) (stS_set o3)) (stS_set o4)) (stS_set o5)) (stS_set o6)) (stS_set o7)) (stS_set o8)
def okM (m : Ma) (e1 e2 e3 e4 u : Value) : Prop := ∃ ok : Bool, u = .tuple #[.agg #[e1, e2, e3, .int .i64 m.c.hand, .int .i64 m.g.count, .int .i64 m.g.next, .int .i64 m.g.round, e4, .int .i64 m.sp], .bool ok] ∧ (ok = true → Sz 17 m)
def okM4 (m : Ma) (e1 e2 e3 e4 u : Value) : Prop := ∃ (a b : Int) (ok : Bool), u = .tuple #[.agg #[e1, e2, e3, .int .i64 m.c.hand, .int .i64 m.g.count, .int .i64 m.g.next, .int .i64 m.g.round, e4, .int .i64 m.sp], .int .i64 a, .int .i64 b, .bool ok] ∧ (ok = true → Sz 17 m)
def isN (u : Value) : Prop := ∃ z : Int, u = .int .i64 z
def isK (u : Value) : Prop := ∃ a b : Int, u = .agg #[.int .i64 a, .int .i64 b]
theorem tpl_get {vs ws : Array Value} {i : Nat} {u z : Value} {y : Value} (h1 : y = .tuple vs) (h2 : vs[i]? = some u) (h3 : y = .tuple ws) (h4 : ws[i]? = some z) : u = z := by
 rw [h1] at h3
 injection h3 with h3
 subst h3
 rw [h2] at h4
 injection h4
section
variable {B g q si i : Nat} {w v v' : World} {F : List (Nat × TypeId × Array Value)} {vb vf vl vo : Value} {m : Ma} {l : List Nat} {nb : Option Nat} {D : Nat → Bool}
theorem CX.same (h : CX B w g q F vb vf vl vo m l si nb D v) (hi : i ∉ l) (hs : i ≠ si) : CX B w g q F vb vf vl vo m l si nb (fun j => if j = i then true else D j) v := by
 unfold CX
 rw [cn_same hi]
 exact ⟨h.1, fun b hb hd => h.2 b hb (upd_f hs hd)⟩
theorem CX.read (h : CX B w g q F vb vf vl vo m l si nb D v) (hD : D i = false) (hi : i ∈ l) (hn : l.Nodup) (hs : i ≠ si) (hr : Rdr B v' g (q + cn D l + 1)) (hg : v.grownBy v' (some g)) : CX B w g q F vb vf vl vo m l si nb (fun j => if j = i then true else D j) v' := by
 unfold CX
 rw [cn_more hD hi hn, ← Nat.add_assoc]
 exact ⟨h.1.read hr hg, fun b hb hd => let ⟨cs, h1, h2⟩ := h.2 b hb (upd_f hs hd); ⟨cs, h1, (h.1.oth hg).2 _ _ _ h2 (by decide)⟩⟩
theorem CX.store {b : Nat} (h : CX B w g q F vb vf vl vo m l si nb D v) (hi : si ∉ l) (hw : w.heap.size ≤ b) (hg : g < w.heap.size) (hm : ∀ e ∈ F, e.1 ≠ b) {cs : Array Value} (ho : Own v b 48 cs) (u0 u1 u2 u3 u4 u5 u6 u7 u8 : Value) :
  CX B w g q F vb vf vl vo m l si nb (fun j => if j = si then true else D j) (((((((((v.setCell ⟨b, 0, none⟩ u0).setCell ⟨b, 1, none⟩ u1).setCell ⟨b, 2, none⟩ u2).setCell ⟨b, 3, none⟩ u3).setCell ⟨b, 4, none⟩ u4).setCell ⟨b, 5, none⟩ u5).setCell ⟨b, 6, none⟩ u6).setCell ⟨b, 7, none⟩ u7).setCell ⟨b, 8, none⟩ u8) := by
 unfold CX
 rw [cn_same hi]
 exact ⟨h.1.set9 hw hg hm ho u0 u1 u2 u3 u4 u5 u6 u7 u8, fun _ _ hd => by simp at hd⟩
end
theorem len_nine {cs : List Value} (h : cs.length = 9) : ∃ c0 c1 c2 c3 c4 c5 c6 c7 c8, cs = [c0, c1, c2, c3, c4, c5, c6, c7, c8] := by
 match cs, h with
 | [c0, c1, c2, c3, c4, c5, c6, c7, c8], _ => exact ⟨c0, c1, c2, c3, c4, c5, c6, c7, c8, rfl⟩
def PageP (B : Nat) (w : World) (g p : Nat) (e : Ending) (w' : World) : Prop := ∃ z : Int, e = .returned (.int .i64 z) ∧ Rdr B w' g (p + 1) ∧ w.grownBy w' (some g)
theorem l6Page_any (B g p : Nat) (w : World) (h : Rdr B w g p) (hp : p ≤ 1000000) : Calls Tryz.prog 175 #[.pointer (some ⟨g, 0, none⟩)] w (PageP B w g p) := by
 have hl := rdr_lt h
 have HR := Hd (rdr_alloc h (.cells #[.int .i64 1, .int .i64 2, .int .i64 3, .int .i64 4, .int .i64 200, .int .i64 201, .int .i64 5] 3))
 clear h
 go_enter Tryz.func175, Tryz.ntmps175
 go_wp2_with fail
 refine (num_any B g p w.heap.size [1, 2, 3, 4, 200, 201, 5] _ HR.out (Own.new_ w _ _) (by omega) hp (by simp) (by simp)).mono ?_
 rintro e w' ⟨r, rfl, hr, hrd, hg⟩
 have HRD := Hd hrd
 have HG := Hd (gT (gA gR) hg)
 clear hrd hg
 go_wp2
 go_ret
 exact ⟨r, rfl, HRD.out, HG.out⟩
set_option maxHeartbeats 4000000 in
theorem l6Fill_any (vb vf vl vo : Value) (m : Ma) (p : Int) (k : Nat) (w : World) (hM : MaR w vb vf vl vo m) (hm : mav m = true) (hk : k < m.t.fs.length) (hok : filOK m.c (tln m p k) = true) :
  Calls Tryz.prog 230 #[.agg #[vb, vf, vl, .int .i64 m.c.hand, .int .i64 m.g.count, .int .i64 m.g.next, .int .i64 m.g.round, vo, .int .i64 m.sp], .int .i64 p, .int .i64 k, .int .i64 (tagT m m.sp p)] w (Post2 fun v w' => ∃ v1 v2 v3 v4, v = .tuple #[.agg #[v1, v2, v3, .int .i64 ({ m with c := filC m.c (tln m p k) } : Ma).c.hand, .int .i64 ({ m with c := filC m.c (tln m p k) } : Ma).g.count, .int .i64 ({ m with c := filC m.c (tln m p k) } : Ma).g.next, .int .i64 ({ m with c := filC m.c (tln m p k) } : Ma).g.round, v4, .int .i64 ({ m with c := filC m.c (tln m p k) } : Ma).sp], .int .i64 (vic m.c)] ∧ MaM w.heap.size w' v1 v2 v3 v4 { m with c := filC m.c (tln m p k) } ∧ Below w.heap.size w w') := by
 obtain ⟨a1, a2, a3, a4⟩ := mav_len hm
 obtain ⟨W0, hW, hbx, hbo, hb0, hs0⟩ := box2 w #[vb, vf, vl, .int .i64 m.c.hand, .int .i64 m.g.count, .int .i64 m.g.next, .int .i64 m.g.round, vo, .int .i64 m.sp] 48 #[.slice none 0 0, .slice none 0 0, .slice none 0 0, .int .i64 0, .int .i64 0, .int .i64 0, .int .i64 0, .slice none 0 0, .int .i64 0] 48
 obtain ⟨m0q, m1q, m2q, m3q, m4q, m5q, m6q, m7q, m8q⟩ := cells9 hbx
 have HX0 := Hd hbx
 have HO0 := Hd hbo
 have HB0 := Hd hb0
 have HM := Hd hM
 clear hbx hbo hb0 hM
 clear m0q m1q m2q m3q m4q m5q m6q m7q m8q
 go_enter Tryz.func230, Tryz.ntmps230
 obtain ⟨m00, m10, m20, m30, m40, m50, m60, m70, m80⟩ := cells9 HX0.out
 go_wp2_with fail
 refine (l6Copy_any vb vf vl vo m _ (HM.out.now HB0.out) a1 a2 a3 a4).mono ?_
 rintro e w3 ⟨_, rfl, q1, q2, q3, q4, rfl, hM3, hb3⟩
 have hM3' := hM3.mono (B' := w.heap.size + 2) (Nat.le_of_eq hs0.symm)
 have hs3 : w.heap.size + 2 ≤ w3.heap.size := Nat.le_trans (Nat.le_of_eq hs0.symm) hb3.size
 obtain ⟨B1, d1, rfl, _⟩ := hM3.t.b
 obtain ⟨B2, d2, rfl, _⟩ := hM3.t.f
 obtain ⟨B3, d3, rfl, _⟩ := hM3.l
 obtain ⟨B4, d4, rfl, _⟩ := hM3.o
 have HX3 := Hd (HX0.out.below hb3)
 have HR3 := Hd (HO0.out.below hb3)
 have HB3 := Hd (bT HB0.out hb3)
 clear m00 m10 m20 m30 m40 m50 m60 m70 m80
 have ho4 := Own.new_ w3 48 #[.slice B1 m.t.bs.length d1, .slice B2 m.t.fs.length d2, .slice B3 m.c.ls.length d3, .int .i64 m.c.hand, .int .i64 m.g.count, .int .i64 m.g.next, .int .i64 m.g.round, .slice B4 m.g.os.length d4, .int .i64 m.sp]
 have hb4 : Below w3.heap.size w3 (w3.alloc (.cells #[.slice B1 m.t.bs.length d1, .slice B2 m.t.fs.length d2, .slice B3 m.c.ls.length d3, .int .i64 m.c.hand, .int .i64 m.g.count, .int .i64 m.g.next, .int .i64 m.g.round, .slice B4 m.g.os.length d4, .int .i64 m.sp] 48)) := bA bR
 generalize hW4 : w3.alloc (.cells #[.slice B1 m.t.bs.length d1, .slice B2 m.t.fs.length d2, .slice B3 m.c.ls.length d3, .int .i64 m.c.hand, .int .i64 m.g.count, .int .i64 m.g.next, .int .i64 m.g.round, .slice B4 m.g.os.length d4, .int .i64 m.sp] 48) = w4 at ho4 hb4
 have HM4 := Hd (hM3'.now hb4)
 have HO4 := Hd ho4
 have HX4 := Hd (HX3.out.below hb4)
 have HR4 := Hd (HR3.out.below hb4)
 have HB4 := Hd (bT HB3.out hb4)
 have hs4 := hb4.size
 clear hM3 hM3' ho4 hb3 hb4
 obtain ⟨f, ef⟩ : ∃ f, m.t.fs[k]? = some f := ⟨_, List.getElem?_eq_getElem hk⟩
 have HTL : Hid (tln m p k = ⟨true, tagT m m.sp p, p, k, f.r, false⟩) := by show _ = _; unfold tln; rw [Int.toNat_natCast, getD_at ef]
 obtain ⟨Af, cf, rfl, hfc, hfm, hF⟩ := HM.out.t.f
 obtain ⟨bf, of, rfl, hbf, y0, y1, y2, y3, y4⟩ := (hF.now (Nat.le_refl _) HB4.out).fr ef
 have m04 := HX4.out.cell_ 0 (v := vb) rfl
 have m14 := HX4.out.cell_ 1 (v := .slice (some ⟨bf, of, none⟩) m.t.fs.length cf) rfl
 have m24 := HX4.out.cell_ 2 (v := vl) rfl
 have m34 := HX4.out.cell_ 3 (v := .int .i64 m.c.hand) rfl
 have hlx := HX4.out.lt
 have hlo := HO4.out.lt
 clear y0 y1 y2 y4 ef hF
 go_wp2_with fail
 have hox := Own.new_ w4 129 #[.bool true, .int .i64 (tagT m m.sp p), .int .i64 p, .int .i64 k, .int .i64 f.r, .bool false]
 have hb5 : Below w4.heap.size w4 (w4.alloc (.cells #[.bool true, .int .i64 (tagT m m.sp p), .int .i64 p, .int .i64 k, .int .i64 f.r, .bool false] 129)) := bA bR
 generalize hW5 : w4.alloc (.cells #[.bool true, .int .i64 (tagT m m.sp p), .int .i64 p, .int .i64 k, .int .i64 f.r, .bool false] 129) = w5 at hox hb5 ⊢
 have HM5 := Hd (HM4.out.now hb5)
 have HO5 := Hd (HO4.out.below hb5)
 have HX5 := Hd (HX4.out.below hb5)
 have HR5 := Hd (HR4.out.below hb5)
 have HB5 := Hd (bT HB4.out hb5)
 have hs5 := hb5.size
 have HFL := Hd (sFillLine_any vl m.c (tln m p k) w5 (HM.out.l.now HB5.out))
 rw [filOK_true hok, hok, show filA m.c (tln m p k) = vic m.c by unfold filA; rw [hok, if_pos rfl]] at HFL
 clear hb5 hox
 have HFL2 := HFL.out
 rw [show lnV (tln m p k) = .agg #[.bool true, .int .i64 (tagT m m.sp p), .int .i64 p, .int .i64 k, .int .i64 f.r, .bool false] by unfold lnV; rw [HTL.out]] at HFL2
 have HFL := Hd HFL2
 clear HFL2
 generalize hVC : filC m.c (tln m p k) = V at *
 refine HFL.out.mono ?_
 rintro e w6 ⟨_, rfl, v1, rfl, hL6, hb6⟩
 obtain ⟨B5, d5, rfl, hx5, hy5, hz5⟩ := hL6
 have ho7 := Own.new_ w6 43 #[.slice B5 V.ls.length d5, .int .i64 V.hand]
 have hb7 : Below w6.heap.size w6 (w6.alloc (.cells #[.slice B5 V.ls.length d5, .int .i64 V.hand] 43)) := bA bR
 have HL6 : Hid (SlM lnE 129 w5.heap.size w6 (.slice B5 V.ls.length d5) V.ls) := ⟨B5, d5, rfl, hx5, hy5, hz5⟩
 generalize hW7 : w6.alloc (.cells #[.slice B5 V.ls.length d5, .int .i64 V.hand] 43) = w7 at ho7 hb7
 have HM7 := Hd (HM5.out.now (bT hb6 hb7))
 have HO7 := Hd (HO5.out.below (bT hb6 hb7))
 have HR7 := Hd (HR5.out.below (bT hb6 hb7))
 have HB7 := Hd (bT HB5.out (bT hb6 hb7))
 have HL7 := Hd ((HL6.out.now hb7).mono (show w.heap.size + 2 ≤ w5.heap.size by omega))
 have HC7 := Hd ho7
 clear ho7 HL6 hb6 hb7 m04 m14 m24 m34 y3 HFL
 have c0 := HC7.out.cell_ 0 (v := .slice B5 V.ls.length d5) rfl
 have c1 := HC7.out.cell_ 1 (v := .int .i64 V.hand) rfl
 have hlc := HC7.out.lt
 obtain ⟨r0x, r1x, r2x, r3x, r4x, r5x, r6x, r7x, r8x⟩ := cells9 HR7.out
 obtain ⟨z0x, z1x, z2x, z3x, z4x, z5x, z6x, z7x, z8x⟩ := free9 HR7.out
 obtain ⟨p0o, p1o, p2o, p3o, p4o, p5o, p6o, p7o, p8o⟩ := cells9 HO7.out
 have g2 := HO7.out.free 2
 have g3 := HO7.out.free 3
 have hlr := HR7.out.lt
 have hlo7 := HO7.out.lt
 have hrn : w.heap.size + 1 ≠ w3.heap.size := by omega
 have hrm : w3.heap.size ≠ w.heap.size + 1 := by omega
 have hcn : w6.heap.size ≠ w3.heap.size := HC7.out.ne HO7.out (by decide)
 have hcm : w3.heap.size ≠ w6.heap.size := fun h => hcn h.symm
 go_wp2
 have g1 := (HR7.out.far (p := ⟨w3.heap.size, 2, none⟩) (u := .slice B5 V.ls.length d5) hrn).far (p := ⟨w3.heap.size, 3, none⟩) (u := .int .i64 V.hand) hrn
 have hmm : MaM (w.heap.size + 2) w7 (.slice B1 m.t.bs.length d1) (.slice B2 m.t.fs.length d2) (.slice B5 V.ls.length d5) (.slice B4 m.g.os.length d4) { m with c := V } := ⟨HM7.out.t, HL7.out, HM7.out.o⟩
 have hmm2 := (hmm.farT (u := .slice B5 V.ls.length d5) (i := 2) HO7.out).farT (u := .int .i64 V.hand) (i := 3) (HO7.out.set_ 2 (.slice B5 V.ls.length d5))
 have o3 := g1.set9 (.slice B1 m.t.bs.length d1) (.slice B2 m.t.fs.length d2) (.slice B5 V.ls.length d5) (.int .i64 V.hand) (.int .i64 m.g.count) (.int .i64 m.g.next) (.int .i64 m.g.round) (.slice B4 m.g.os.length d4) (.int .i64 m.sp)
 obtain ⟨p0t, p1t, p2t, p3t, p4t, p5t, p6t, p7t, p8t⟩ := cells9 o3
 refine bodyPost_ret (v := .tuple #[.agg #[.slice B1 m.t.bs.length d1, .slice B2 m.t.fs.length d2, .slice B5 V.ls.length d5, .int .i64 ({ m with c := V } : Ma).c.hand, .int .i64 ({ m with c := V } : Ma).g.count, .int .i64 ({ m with c := V } : Ma).g.next, .int .i64 ({ m with c := V } : Ma).g.round, .slice B4 m.g.os.length d4, .int .i64 ({ m with c := V } : Ma).sp], .int .i64 (vic m.c)]) (by simp [results, Tryz.results230, go_sem, p0t, p1t, p2t, p3t, p4t, p5t, p6t, p7t, p8t]) rfl ⟨_, rfl, _, _, _, _, by rw [hVC], ?_, ?_⟩
 ·rw [hVC]
  exact (hmm2.far9 g1 _ _ _ _ _ _ _ _ _).mono (by omega)
 ·repeat (refine bS ?_ (by simp <;> omega))
  exact HB7.out
end Go.Proofs.YtibpnlojlfcpmaaGreatDoor
