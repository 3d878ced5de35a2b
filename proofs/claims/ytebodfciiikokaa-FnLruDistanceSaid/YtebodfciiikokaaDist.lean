import Derived.Test.YtebodfciiikokaaSWork
namespace Go.Proofs.Ytebodfciiikokaa
open Go.RowKit

/-- where the last use lies: how many keys lie between -/
theorem tw_none (x : Key) : ∀ (l : List Key), x ∉ l → l.takeWhile (Tr.ne x) = l := by
  intro l
  induction l with
  | nil => intro _; rfl
  | cons a l ih =>
    intro h
    have ha : a ≠ x := by rintro rfl; simp at h
    rw [List.takeWhile_cons, if_pos (by simp [Tr.ne, ha]), ih (by simp at h; exact h.2)]
theorem gap_at {l : List Key} {i j : Nat} {x : Key} (hj : j < i) (e : l[j]? = some x) (hn : x ∉ (l.take i).drop (j + 1)) :
    x ∈ l.take i ∧ Tr.gap (l.take i) x = Tr.nd ((l.take i).drop (j + 1)) := by
  have e' : (l.take i)[j]? = some x := by rw [List.getElem?_take, if_pos hj]; exact e
  obtain ⟨hjl, he⟩ := List.getElem?_eq_some_iff.1 e'
  refine ⟨he ▸ List.getElem_mem hjl, ?_⟩
  unfold Tr.gap
  have hs : l.take i = (l.take i).take j ++ x :: (l.take i).drop (j + 1) := by
    conv => lhs; rw [← List.take_append_drop j (l.take i), List.drop_eq_getElem_cons hjl, he]
  have hr : (l.take i).reverse = ((l.take i).drop (j + 1)).reverse ++ x :: ((l.take i).take j).reverse := by
    conv => lhs; rw [hs]
    simp
  rw [hr, List.takeWhile_append_of_pos (by
    intro a ha
    simp [Tr.ne]
    rintro rfl
    exact hn (List.mem_reverse.1 ha))]
  rw [List.takeWhile_cons, if_neg (by simp [Tr.ne]), List.append_nil, Tr.nd_reverse]
def dsl (t : List Key) : List Int := (List.range t.length).map fun i => Tr.dist t i
def dsv (t : List Key) : List Int := if tval t = true then dsl t else []
theorem dsl_get (t : List Key) (k : Nat) (hk : k < t.length) : (dsl t)[k]? = some (Tr.dist t k) := by simp [dsl, hk]
theorem dsl_length (t : List Key) : (dsl t).length = t.length := by simp [dsl]
theorem dsl_take (t : List Key) (k : Nat) (hk : k < t.length) : (dsl t).take (k + 1) = (dsl t).take k ++ [Tr.dist t k] := by
  rw [List.take_add_one, dsl_get t k hk]; rfl
theorem dist_hit {t : List Key} {i j : Nat} {x : Key} (hj : j < i) (hi : i < t.length) (e : t[j]? = some x) (ei : t[i]? = some x) (hn : x ∉ (t.take i).drop (j + 1)) : Tr.dist t i = (Tr.nd ((t.take i).drop (j + 1)) : Int) := by
  obtain ⟨h1, h2⟩ := gap_at hj e hn
  obtain ⟨_, rfl⟩ := List.getElem?_eq_some_iff.1 ei
  rw [Tr.dist_of t i hi, if_pos h1, h2]
theorem dist_miss {t : List Key} {i : Nat} {x : Key} (hi : i < t.length) (ei : t[i]? = some x) (hn : x ∉ t.take i) : Tr.dist t i = -1 := by
  obtain ⟨_, rfl⟩ := List.getElem?_eq_some_iff.1 ei
  rw [Tr.dist_of t i hi, if_neg hn]
theorem tval_parts {t : List Key} (h : tval t = true) : t.all kval = true ∧ t.length ≤ 40 := by
  unfold tval at h
  rw [Bool.and_eq_true, decide_eq_true_eq] at h
  exact ⟨h.2, h.1⟩
theorem not_mem_drop_zero {l : List Key} {x : Key} (h : x ∉ l.drop 0) : x ∉ l := by simpa using h
theorem drop_not {l : List Key} {p : Nat} {x z : Key} (e : l[p]? = some z) (hz : z ≠ x) (h : x ∉ l.drop (p + 1)) : x ∉ l.drop p := by
  rw [drop_pred e, List.mem_cons]
  exact fun h' => h'.elim (fun e => hz e.symm) h

theorem dsv_le (t : List Key) : (dsv t).length ≤ 40 := by
  unfold dsv
  split
  · rename_i h
    rw [dsl_length]
    exact (tval_parts h).2
  · simp
set_option maxHeartbeats 1000000 in
theorem DistancesOf_mine (T : Option Addr) (tc : Nat) (t : List Key) (w : World) (ht : Ks w.heap.size w T t) (htc : t.length ≤ tc) (hl : t.length ≤ 9223372036854775807) :
    Calls Try.prog 24 #[.slice T t.length tc] w fun r w' => ∃ A c, r = .returned (.tuple #[.slice A (dsv t).length c, .bool (tval t)]) ∧ (dsv t).length ≤ c ∧ Mine w.heap.size w' A (dsv t) ∧ Below w.heap.size w w' := by
  have K := traceValid_any T tc t w ht hl
  by_cases hv : tval t = true
  · obtain ⟨hall, h40⟩ := tval_parts hv
    have HV : Hid (dsv t = dsl t) := by show _ = _; unfold dsv; rw [if_pos hv]
    have HW := Lib.hid hv
    rw [hv] at K
    have HK := Lib.hid K
    have HT := Lib.hid ht
    have HALL := Lib.hid hall
    obtain ⟨C0, hC0, hmk⟩ := make_any t.length (by omega)
    clear K ht hv hall
    go_enter Try.func24, Try.ntmps24
    go_wp2_with fail
    refine HK.out.mono ?_
    rintro e w1 ⟨rfl, hb1⟩
    go_wp2
    go_loopw [16] (fun u wr => ∃ (k : Nat) (cs : Array Value), k ≤ t.length ∧ u = .int .i64 k ∧ cs.size = t.length ∧ Hid (∀ j, j < k → cs[j]? = some (.int .i64 (Tr.dist t j))) ∧ Own wr w1.heap.size 3 cs ∧ Below w1.heap.size w1 wr) (fun u _ => t.length - (intOf u).toNat)
    case atStart => exact ⟨0, _, by omega, rfl, hC0, (fun j hj => absurd hj (by omega)), Own.new_ _ _ _, bA bR⟩
    case round =>
      obtain ⟨k, cs, hk, rfl, hcs, hc, hown, hb⟩ := hrel
      by_cases hlt : k < t.length
      · obtain ⟨w2, rfl⟩ : ∃ w2, w2 = wr := ⟨_, rfl⟩
        obtain ⟨b, o, x, y, hTe, hbb, c1, c2, e1⟩ := (HT.out.now (Nat.le_refl _) (bT hb1 hb)).key2 hlt
        subst hTe
        obtain ⟨v0, hcc⟩ : ∃ v, w2.cell? ⟨w1.heap.size, k, none⟩ = some v := ⟨_, (hown.cell k).trans (Array.getElem?_eq_getElem (by omega))⟩
        have hff := hown.free k
        have hgl := hown.lt
        have E1 := Lib.hid e1
        have HCS := Lib.hid hcs
        have ho1 := Lib.hid ((hown.set_ k (.int .i64 (-1))).alloc (o := .cells #[.int .i64 x, .int .i64 y] 50))
        have ho2 : Hid (Own ((w2.setCell ⟨w1.heap.size, k, none⟩ (.int .i64 (-1))).alloc (.cells #[.int .i64 x, .int .i64 y] 50)) w2.heap.size 50 #[.int .i64 x, .int .i64 y]) := by
          show Own _ _ _ _
          simpa using Own.new_ (w2.setCell ⟨w1.heap.size, k, none⟩ (.int .i64 (-1))) 50 #[.int .i64 x, .int .i64 y]
        have hb2 := bA (bS hb (p := ⟨w1.heap.size, k, none⟩) (Nat.le_refl _) (u := .int .i64 (-1))) (o := .cells #[.int .i64 x, .int .i64 y] 50)
        clear e1 hcs hown
        go_wp2
        clear hcc hff c1 c2
        go_loopw [7] (fun ju wi => ∃ (r : Nat) (J : Int), r ≤ k ∧ ju = .int .i64 J ∧ J = (r : Int) - 1 ∧ Hid ((x, y) ∉ (t.take k).drop r) ∧ Own wi w1.heap.size 3 (cs.setIfInBounds k (.int .i64 (-1))) ∧ Own wi w2.heap.size 50 #[.int .i64 x, .int .i64 y] ∧ Below w1.heap.size w1 wi) (fun u _ => (intOf u + 1).toNat)
        case atStart => exact ⟨k, _, Nat.le_refl _, rfl, rfl, (by show _ ∉ _; rw [List.drop_eq_nil_of_le (by simp; omega)]; simp), ho1.out, ho2.out, hb2⟩
        case round =>
          obtain ⟨r, J, hr, rfl, hJ, hnot, hown, hbox, hbi⟩ := hrel
          by_cases hgo : 1 ≤ r
          · obtain ⟨p, rfl⟩ : ∃ p, r = p + 1 := ⟨r - 1, by omega⟩
            obtain rfl : J = (p : Int) := by omega
            clear hJ hgo
            have HTW := HT.out.now (Nat.le_refl _) (bT hb1 hbi)
            obtain ⟨b', o', x', y', hTe', hbb', d1, d2, e2⟩ := HTW.key2 (k := p) (by omega)
            injection hTe' with hTe'
            injection hTe' with h1 h2
            subst h1 h2
            have o1 := hbox.cell_ 0 (v := .int .i64 x) rfl
            have o2 := hbox.cell_ 1 (v := .int .i64 y) rfl
            have he := fun W => eql_key x' y' x y W
            have HB := Lib.hid hbox
            have HO := Lib.hid hown
            clear hbox hown
            by_cases hxy : (x', y') = (x, y)
            · have hq : keq x' y' x y = true := keq_true hxy
              have HDI : Hid (Tr.dist t k = (Tr.nd ((t.take k).drop (p + 1)) : Int)) := dist_hit (by omega) hlt (hxy ▸ e2) E1.out hnot.out
              have hsl := fun W => ks_lohi W (some ⟨b, o, none⟩) t.length tc ((p : Int) + 1) (k : Int) (by omega) (by omega) (by omega)
              have hlo : ((p : Int) + 1).toNat = p + 1 := by omega
              have hhi : ((k : Int)).toNat = k := by omega
              rw [hhi, hlo] at hsl
              have hcut := HTW.kcut (c := tc) (lo := p + 1) (hi := k) (by omega) (by omega) htc
              have hlen : ((t.take k).drop (p + 1)).length = k - (p + 1) := by simp; omega
              have K1 := fun W (hw : Below wr.heap.size wr W) => different_any (cutA (some ⟨b, o, none⟩) tc (p + 1) 2) (tc - (p + 1)) _ W (hcut.now (Nat.le_refl _) hw) (by omega) (List.all_eq_true.2 fun x hx => List.all_eq_true.1 HALL.out x (List.mem_of_mem_take (List.mem_of_mem_drop hx)))
              rw [hlen] at K1
              rw [← HDI.out] at K1
              have H1 := Lib.hid K1
              clear K1 hcut hlen hlo hhi HTW e2 hxy
              go_wp2
              go_quiet (fail)
              go_wp2_with fail
              refine (H1.out _ (bDN bR)).mono ?_
              rintro e w3 ⟨rfl, hb3'⟩
              have hown := HO.out.drewN.below hb3'
              have hb3 := bT (bDN hbi) hb3'
              obtain ⟨v0, hcc⟩ : ∃ v, w3.cell? ⟨w1.heap.size, k, none⟩ = some v := ⟨_, (hown.cell k).trans (Array.getElem?_eq_getElem (by have := HCS.out; simp only [Array.size_setIfInBounds]; omega))⟩
              have hff := hown.free k
              have HFIN := Lib.hid (hown.set_ k (.int .i64 (Tr.dist t k)))
              have hbe := bS hb3 (p := ⟨w1.heap.size, k, none⟩) (Nat.le_refl _) (u := .int .i64 (Tr.dist t k))
              clear hown
              go_wp2
              go_roundw
              case rel =>
                refine ⟨k + 1, _, by omega, by go_num, ?_, ?_, HFIN.out, hbe⟩
                · (try simp only [Array.size_setIfInBounds]); exact HCS.out
                · intro j hj
                  rw [Array.getElem?_setIfInBounds]
                  by_cases hjk : k = j
                  · subst hjk
                    rw [if_pos rfl, if_pos (by have := HCS.out; (try simp only [Array.size_setIfInBounds]); omega)]
                    all_goals first | rfl | rw [HDI.out]
                  · rw [if_neg hjk]
                    first
                      | exact hc.out j (by omega)
                      | (rw [Array.getElem?_setIfInBounds, if_neg hjk]; exact hc.out j (by omega))
              case measure => simp [intOf]; omega
            · have hq : keq x' y' x y = false := keq_false hxy
              have HN : Hid ((x, y) ∉ (t.take k).drop p) := drop_not (by rw [List.getElem?_take, if_pos (by omega)]; exact e2) hxy hnot.out
              clear HTW e2 hxy
              go_wp2
              go_quiet (fail)
              go_wp2
              go_roundw
              case rel => exact ⟨p, _, by omega, rfl, by omega, HN, HO.out.drewN, HB.out.drewN, bDN hbi⟩
              case measure => simp [intOf]
          · obtain rfl : r = 0 := by omega
            have HDI : Hid (Tr.dist t k = -1) := dist_miss hlt E1.out (not_mem_drop_zero hnot.out)
            obtain rfl : J = -1 := by omega
            have HFIN := Lib.hid hown
            have hbe := hbi
            clear hown hbox hJ hgo
            go_wp2
            go_roundw
            case rel =>
              refine ⟨k + 1, _, by omega, by go_num, ?_, ?_, HFIN.out, hbe⟩
              · (try simp only [Array.size_setIfInBounds]); exact HCS.out
              · intro j hj
                rw [Array.getElem?_setIfInBounds]
                by_cases hjk : k = j
                · subst hjk
                  rw [if_pos rfl, if_pos (by have := HCS.out; (try simp only [Array.size_setIfInBounds]); omega)]
                  all_goals first | rfl | rw [HDI.out]
                · rw [if_neg hjk]
                  first
                    | exact hc.out j (by omega)
                    | (rw [Array.getElem?_setIfInBounds, if_neg hjk]; exact hc.out j (by omega))
            case measure => simp [intOf]; omega
      · have hkl : k = t.length := by omega
        have hcl := dsl_length t
        have his : Mine w.heap.size wr (some ⟨w1.heap.size, 0, none⟩) (dsl t) := own_mine hown hb1.size (by omega) (fun j hj => by
          rw [hcl] at hj
          rw [hc.out j (by omega), icells, List.getElem?_map, dsl_get t j hj]; rfl)
        go_wp2
        go_ret2
        rw [HV.out]
        exact ⟨some ⟨w1.heap.size, 0, none⟩, t.length, by rw [hcl, HW.out]; rfl, by omega, his, bT hb1 hb⟩
  · have hv : tval t = false := by simpa using hv
    have HV : Hid (dsv t = []) := by show _ = _; unfold dsv; rw [hv]; rfl
    have HW := Lib.hid hv
    rw [hv] at K
    have HK := Lib.hid K
    clear K ht hv
    go_enter Try.func24, Try.ntmps24
    go_wp2_with fail
    refine HK.out.mono ?_
    rintro e w1 ⟨rfl, hb1⟩
    go_wp2
    go_ret2
    rw [HV.out]
    exact ⟨none, 0, by rw [HW.out]; rfl, Nat.le_refl _, Mine.nil_, hb1⟩
theorem DistancesOf_is (T : Option Addr) (tc : Nat) (t : List Key) (w : World) (ht : Ks w.heap.size w T t) (htc : t.length ≤ tc) (hl : t.length ≤ 9223372036854775807) :
    Calls Try.prog 24 #[.slice T t.length tc] w fun r w' => ∃ A c, r = .returned (.tuple #[.slice A (dsv t).length c, .bool (tval t)]) ∧ (dsv t).length ≤ c ∧ Is w'.heap.size w' A (dsv t) ∧ Below w.heap.size w w' :=
  (DistancesOf_mine T tc t w ht htc hl).mono fun _ _ ⟨A, c, h1, h2, h3, h4⟩ => ⟨A, c, h1, h2, h3.is, h4⟩
theorem icells_take (l : List Int) (i : Nat) : (icells l).take i = icells (l.take i) := by simp [icells]
theorem is_pre {B : Nat} {w : World} {A : Option Addr} {l : List Int} (h : Is B w A l) (n : Nat) (h1 : n ≤ l.length) : Is B w A (l.take n) := by
  have hl : (l.take n).length = n := by rw [List.length_take, Nat.min_eq_left h1]
  refine ⟨by simp [icells], fun hn => ?_⟩
  obtain ⟨b, o, e, hb, hc⟩ := h.at_ (by omega)
  refine ⟨b, o, e, hb, fun j u hu => hc j u ?_⟩
  rw [← icells_take, List.getElem?_take] at hu
  split at hu
  · exact hu
  · cases hu
theorem tval_take {l : List Key} (n : Nat) (h : tval l = true) : tval (l.take n) = true := by
  obtain ⟨h1, h2⟩ := tval_parts h
  unfold tval
  rw [Bool.and_eq_true, decide_eq_true_eq, List.length_take]
  refine ⟨by omega, ?_⟩
  rw [List.all_eq_true] at *
  exact fun x hx => h1 x (List.mem_of_mem_take hx)
theorem dsl_front (l : List Key) (n : Nat) (h : n ≤ l.length) : dsl (l.take n) = (dsl l).take n := by
  unfold dsl
  rw [List.length_take, Nat.min_eq_left h, ← List.map_take, List.take_range, Nat.min_eq_left h]
  apply List.map_congr_left
  intro i hi
  rw [List.mem_range] at hi
  exact Tr.dist_take n i hi (by omega)
end Go.Proofs.Ytebodfciiikokaa
