/- A part of the proofs of this seat. -/
import Derived.Orders
import Derived.Test.YtfbnokjdkhcgoaaGreatDoorCCpS
set_option linter.unusedVariables false
set_option linter.unusedSimpArgs false
set_option maxRecDepth 1000000
set_option maxHeartbeats 16000000
namespace Go.Proofs.YtfbnokjdkhcgoaaGreatDoor
open Go.RowKit
def fillA:List Nat→(Nat→Value)→Act→Act
 | [],_,a=>a
 | s::ds,x,a=>(fillA ds x a).put (some s) (x s)
def upd(x:Nat→Value)(d:Option Nat)(v:Value):Nat→Value:=fun s=>if some s=d then v else x s
theorem fill_get (x:Nat→Value) (a:Act):∀ds:List Nat,(fillA ds x a).tmps.size=a.tmps.size∧(fillA ds x a).defers=a.defers∧∀j,(fillA ds x a).tmps[j]?=if j∈ds∧j<a.tmps.size then some (x j)else a.tmps[j]?
  | []=>⟨rfl,rfl,fun j=>by simp[fillA]⟩
  | s ::ds=>by
    obtain⟨h1,h2,h3⟩:=fill_get x a ds;refine⟨by simp[fillA,Act.put,h1],by simp[fillA,Act.put,h2],fun j=> ?_⟩;simp only[fillA,Act.put];rw[Array.getElem?_setIfInBounds,h1];by_cases hs:s=j
    · subst hs
      rw[if_pos rfl];by_cases hl:s<a.tmps.size
      · rw[if_pos hl,if_pos ⟨by simp,hl⟩]
      · rw[if_neg hl,if_neg (fun h=>hl h.2),Array.getElem?_eq_none (by omega)]
    · rw[if_neg hs,h3]
      by_cases hj:j∈ds
      · simp[hj]
      · have:¬j=s:=fun h=>hs h.symm
        simp[hj,this]
theorem act_ext{a b:Act}(h1:a.tmps=b.tmps)(h2:a.defers=b.defers):a=b:=by cases a;cases b;simp_all
theorem fill_put{ds:List Nat}{x:Nat→Value}{a:Act}{d:Option Nat}{v:Value}(hd:∀s,d=some s→s∈ds):(fillA ds x a).put d v=fillA ds (upd x d v) a:=by
 obtain⟨h1,h2,h3⟩:=fill_get x a ds;obtain⟨g1,g2,g3⟩:=fill_get (upd x d v) a ds
 cases d with
 | none=>
  have:upd x none v=x:=by funext s;simp[upd]
  rw[this];rfl
 | some s=>
  refine act_ext (Array.ext_getElem? fun j=> ?_) (by rw[g2];exact h2);rw[g3];show((fillA ds x a).tmps.setIfInBounds s v)[j]?=_;rw[Array.getElem?_setIfInBounds,h1,h3];by_cases hs:s=j
  ·subst hs;rw[if_pos rfl];have hm:=hd s rfl;by_cases hl:s<a.tmps.size
   ·rw[if_pos hl,if_pos ⟨hm,hl⟩];simp[upd]
   ·rw[if_neg hl,if_neg (fun h=>hl h.2),Array.getElem?_eq_none (by omega)]
  ·rw[if_neg hs];have:¬j=s:=fun h=>hs h.symm
   simp[upd,this]
theorem fill_self(ds:List Nat)(a:Act):fillA ds (fun s=>a.tmps.getD s undef) a=a:=by
 obtain⟨h1,h2,h3⟩:=fill_get (fun s=>a.tmps.getD s undef) a ds;refine act_ext (Array.ext_getElem? fun j=> ?_) h2;rw[h3];split
 ·rename_i h;simp[h.2]
 ·rfl
section
variable {P : Program} {ops : Array Oper} {md : Region.Mode} {Q : Exit → Act → World → Prop}
def left_(L:Array Bool):Nat→Nat
 | 0=>0
 | n+1=>left_ L n+(if L.getD n true=true then 0 else 1)
theorem left_ge {L:Array Bool} {i:Nat}:∀n,left_ (L.setIfInBounds i true) n≤left_ L n
  | 0=>Nat.le_refl _
  | n + 1=>by
    have h:=left_ge (L:=L) (i:=i) n;unfold left_;by_cases hin:i=n
    · subst hin
      by_cases h1:i<L.size
      · have:(L.setIfInBounds i true).getD i true=true:=by simp
        rw[if_pos this];omega
      · rw[if_pos (by simp)];omega
    · rw[getD_set_ne true hin];omega
theorem left_lt{L:Array Bool}{i:Nat}(h:L.getD i true=false):∀n,i<n→left_ (L.setIfInBounds i true) n+1≤left_ L n
  | 0,hn=>absurd hn (by omega)
  | n +1,hn=>by
    unfold left_;by_cases hin:i=n
    · subst hin
      have e1:(L.setIfInBounds i true).getD i true=true:=by simp
      rw[if_pos e1,if_neg (by rw[h];simp)];have:=left_ge (L:=L) (i:=i) i;omega
    · have:=left_lt h n (by omega)
      rw[getD_set_ne true hin];omega
theorem left_pos{L:Array Bool}{i:Nat}(h:L.getD i true=false){n:Nat}(hn:i<n):1≤left_ L n:=by
 have:=left_lt h n hn;omega
theorem wpAny_inv (I:Array Bool→Act→World→Prop)
    (step:∀L a w,I L a w→∀i∈Region.ready md ops L,wpOp P ops Q i (fun a' w'=>I (L.setIfInBounds i true) a' w') a w)
    (fin:∀L a w,I L a w→Region.ready md ops L=[]→Q .normal a w):∀fuel L a w,left_ L ops.size≤fuel→I L a w→wpAny P md ops Q fuel L a w
  | 0,L,a,w,hf,h=>by
    have hr:Region.ready md ops L=[]:=by
      cases e:Region.ready md ops L with
      | nil=>rfl
      | cons i r=>
        obtain⟨h0,o,ho,_⟩:=mem_ready.1 (show i∈Region.ready md ops L by rw[e];simp);have:=left_pos h0 (Array.getElem?_eq_some_iff.1 ho).1;omega
    exact⟨hr,fin L a w h hr⟩
  | fuel+1,L,a,w,hf,h=>by
    refine⟨fin L a w h,fun i hi=>wpOp_mono (fun a' w' h'=>wpAny_inv I step fin fuel _ a' w' ?_ h') (step L a w h i hi)⟩;obtain⟨h0,o,ho,_⟩:=mem_ready.1 hi;have:=left_lt h0 ops.size (Array.getElem?_eq_some_iff.1 ho).1;omega
def relB (md:Region.Mode) (ops:Array Oper) (ds:List Nat) (rds:List (List Nat)):Bool:=
  (List.range ops.size).all fun j=>match ops[j]? with
    | none=>false
    | some o=>o.guard.isNone && (match o.dst with | some d=>ds.contains d | none=>true) && o.after.all (fun e=>!Region.binds md e || decide (e.on<j))
        && (List.range ops.size).all fun i=>i == j || (match ops[i]? with
          | some oi=>(match oi.dst with | some d=>!(rds.getD j []).contains d || o.after.any (fun e=>Region.binds md e && e.on == i) | none=>true)
          | none=>true)
theorem relB_at{ds:List Nat}{rds:List (List Nat)}(h:relB md ops ds rds=true){j:Nat}{o:Oper}(ho:ops[j]?=some o):
  o.guard=none∧(∀s,o.dst=some s→s∈ds)∧(∀e∈o.after,Region.binds md e=true→e.on<j)∧
   ∀i oi s,ops[i]?=some oi→i≠j→oi.dst=some s→s∈rds.getD j []→∃e∈o.after,Region.binds md e=true∧e.on=i:=by
 unfold relB at h;rw[List.all_eq_true]at h;have h1:=h j (List.mem_range.2 (Array.getElem?_eq_some_iff.1 ho).1);rw[ho]at h1;simp only[Bool.and_eq_true]at h1;obtain⟨⟨⟨h1,h2⟩,h3⟩,h4⟩:=h1;refine⟨by simpa using h1,fun s hs=> ?_,fun e he hb=> ?_,fun i oi s hi hne hs hm=> ?_⟩
 ·rw[hs]at h2;simpa using h2
 ·have:=Array.all_eq_true_iff_forall_mem.1 h3 e he;rw[hb]at this;simpa using this
 ·rw[List.all_eq_true]at h4;have h5:=h4 i (List.mem_range.2 (Array.getElem?_eq_some_iff.1 hi).1);rw[hi]at h5;simp only[hs,Bool.or_eq_true,beq_iff_eq]at h5;rcases h5 with h5 | h5 | h5
  ·exact absurd h5 hne
  ·have hc:(rds.getD j []).contains s=true:=List.contains_iff_mem.2 hm;rw[hc]at h5;cases h5
  ·obtain⟨e,he,hb⟩:=Array.any_eq_true'.1 h5;simp only[Bool.and_eq_true,beq_iff_eq]at hb;exact⟨e,he,hb.1,hb.2⟩
theorem left_le(L:Array Bool):∀n,left_ L n≤n
  | 0=>Nat.le_refl _
  | n+1=>by
    have:=left_le L n;unfold left_;split<;>omega
theorem getD_both_{L:Array Bool}{i:Nat}(hi:i<L.size):L.getD i true=L.getD i false:=by simp[hi]
theorem wp_region_rel {id:Nat} {a:Act} {w:World} (hm:P.follows .mixedOrders=true) (ds:List Nat) (rds:List (List Nat)) (C:World→Prop)
    (R:Nat→(Nat→Value)→World→Prop) (T:Nat→World→World→Prop) (hB:relB .any ops ds rds=true) (hC:C w.drew)
    (hR:∀j x y v,(∀s∈rds.getD j [],x s=y s)→R j x v→R j y v)
    (hT:∀i j x v v',i≠j→R j x v→T i v v'→R j x v')
    (step:∀i o,ops[i]?=some o→∀x v,C v→(∀e∈o.after,Region.binds .any e=true→R e.on x v)→∀K:Act→World→Prop,
      (∀u v',T i v v'→C v'→R i (upd x o.dst u) v'→K ((fillA ds x a).put o.dst u) v')→o.wp P (fillA ds x a) v K Q)
    (fin:∀x v,C v→(∀i,i<ops.size→R i x v)→Q .normal (fillA ds x a) v):(Code.region id ops true).wp P Q a w:=by
  refine wp_region_any hm ?_
  refine wpAny_inv (fun L a' v=>∃x,a'=fillA ds x a∧C v∧L.size=ops.size∧(∀j,L.getD j false=true→R j x v)∧
    ∀j o,ops[j]?=some o→L.getD j false=true→∀e∈o.after,Region.binds .any e=true→L.getD e.on false=true) ?_ ?_ _ _ _ _ (left_le _ _) ?_
  · rintro L a' v ⟨x,rfl,hCv,hsz,hL,hcl⟩ i hi
    obtain⟨h0,o,ho,hdep⟩:=mem_ready.1 hi;obtain⟨b1,b2,b3,b4⟩:=relB_at hB ho;have hisz:=(Array.getElem?_eq_some_iff.1 ho).1;unfold wpOp;rw[ho];simp only[Region.wanted,b1,if_true];refine .inl (step i o ho x v hCv (fun e he hb=>hL _ (hdep e he hb)) _ (fun u v' hTv hCv' hRi=> ?_));refine⟨upd x o.dst u,fill_put b2,hCv',by simpa using hsz,fun j hj=> ?_,fun j oj hoj hj e he hb=> ?_⟩
    · by_cases hij:i=j
      · subst hij;exact hRi
      · rw[getD_set_ne false hij]at hj
        have hj2:j<ops.size:=by
          rcases Nat.lt_or_ge j L.size with h | h
          · omega
          · simp[Array.getElem?_eq_none h]at hj
        obtain⟨oj,hoj⟩:∃oj,ops[j]?=some oj:=⟨_,Array.getElem?_eq_getElem hj2⟩
        refine hR j x _ v' (fun s hs=> ?_) (hT i j x v v' hij (hL j hj) hTv);by_cases hd:o.dst=some s
        · obtain⟨e,he,hb,hon⟩:=(relB_at hB hoj).2.2.2 i o s ho hij hd hs
          have h1:=hcl j oj hoj hj e he hb;rw[hon,←getD_both_ (by omega),h0]at h1;cases h1
        · unfold upd;rw[if_neg (fun h=>hd h.symm)]
    · by_cases hij:i=j
      · subst hij
        rw[ho]at hoj;injection hoj with hoj;subst hoj;exact getD_set_true (hdep e he hb)
      · rw[getD_set_ne false hij]at hj
        exact getD_set_true (hcl j oj hoj hj e he hb)
  · rintro L a' v ⟨x,rfl,hCv,hsz,hL,hcl⟩ hr
    refine fin x v hCv (fun i hi=>hL i ?_)
    have hall:∀n j,j<n→j<ops.size→L.getD j false=true:=by
      intro n
      induction n with
      | zero=>intro j h;exact absurd h (by omega)
      | succ n ih=>
        intro j hj hjs
        obtain⟨oj,hoj⟩:∃oj,ops[j]?=some oj:=⟨_,Array.getElem?_eq_getElem hjs⟩
        by_cases hd:L.getD j true=true
        · rw[←getD_both_ (by omega)];exact hd
        · have hmem:j∈Region.ready .any ops L:=mem_ready.2 ⟨by simpa using hd,oj,hoj,fun e he hb=>by
            have h1:=(relB_at hB hoj).2.2.1 e he hb
            exact ih e.on (by omega) (by omega)⟩
          rw[hr]at hmem;cases hmem
    exact hall (i+1) i (by omega) hi
  · refine⟨fun s=>a.tmps.getD s undef,(fill_self ds a).symm,hC,by simp,fun j hj=> ?_,fun j o ho hj=> ?_⟩
    all_goals
      exfalso;rcases Nat.lt_or_ge j ops.size with h | h
      · simp[h]at hj
      · simp[h]at hj
theorem wp_region_rel1{id:Nat}{a:Act}{w:World}(hm:P.follows .mixedOrders=true)(ds sl:List Nat)(C:World→Prop)
    (R:Nat→Value→World→Prop) (T:Nat→World→World→Prop) (hB:relB .any ops ds (sl.map fun s=>[s])=true) (hs:ops.size=sl.length) (hC:C w.drew)
    (hT:∀i j u v v',i≠j→R j u v→T i v v'→R j u v')
    (step:∀i o,ops[i]?=some o→∀x v,C v→(∀k,(∃e∈o.after,Region.binds .any e=true∧e.on=k)→k<sl.length→R k (x (sl.getD k 0)) v)→∀K:Act→World→Prop,
      (∀u v',T i v v'→C v'→R i (upd x o.dst u (sl.getD i 0)) v'→K ((fillA ds x a).put o.dst u) v')→o.wp P (fillA ds x a) v K Q)
    (fin:∀x v,C v→(∀i,i<sl.length→R i (x (sl.getD i 0)) v)→Q .normal (fillA ds x a) v):(Code.region id ops true).wp P Q a w:=by
  refine wp_region_rel hm ds (sl.map fun s=>[s]) C (fun j x v=>j<sl.length→R j (x (sl.getD j 0)) v) T hB hC ?_ ?_ ?_ ?_
  · intro j x y v h hr hj
    have e:=h (sl.getD j 0) (by simp[List.getD_eq_getElem?_getD,hj]);rw[←e];exact hr hj
  · exact fun i j x v v' hij h ht hj=>hT i j _ v v' hij (h hj) ht
  · intro i o ho x v hCv hd K hK
    refine step i o ho x v hCv (fun k ⟨e,he,hb,hk⟩ hl=> ?_) K (fun u v' h1 h2 h3=>hK u v' h1 h2 (fun _=>h3));subst hk;exact hd e he hb hl
  · intro x v hCv h
    exact fin x v hCv (fun i hi=>h i (by omega) hi)
end
theorem MaM.far{B:Nat}{w:World}{vb vf vl vo:Value}{m:Ma}(h:MaM B w vb vf vl vo m){p:Addr}(hp:p.block<B){u:Value}:MaM B (w.setCell p u) vb vf vl vo m:=⟨h.t.far hp,h.l.far hp,h.o.far hp⟩
theorem MaM.mono{B B':Nat}{w:World}{vb vf vl vo:Value}{m:Ma}(h:MaM B w vb vf vl vo m)(hb:B'≤B):MaM B' w vb vf vl vo m:=⟨h.t.mono hb,h.l.mono hb,h.o.mono hb⟩
theorem mam_z{base:Nat}{w:World}:MaM base w (.slice none 0 0) (.slice none 0 0) (.slice none 0 0) (.slice none 0 0) maz:=⟨tam_z,SlM.nil_ _,SlM.nil_ _⟩
theorem fndI_lt{fs:List Fr}{s p:Int}(h:0≤fndI fs s p):∃(k:Nat) (f:Fr),fndI fs s p=(k:Int)∧fs[k]?=some f∧f.used=true∧(f.s,f.p)=(s,p):=by
 unfold fndI at h⊢
 cases e:fnd fs s p with
 | none=>rw[e]at h;simp at h
 | some i=>
  obtain⟨f,h1,h2,h3⟩:=fnd_some e;exact⟨i,f,rfl,h1,h2,h3⟩
theorem l6Copy_any(vb vf vl vo:Value)(m:Ma)(w:World)(hM:MaR w vb vf vl vo m)(h1:m.t.bs.length≤1048576)(h2:m.t.fs.length≤1048576)(h3:m.c.ls.length≤1048576)(h4:m.g.os.length≤1048576):
    Calls Tryz.prog 92 #[.agg #[vb,vf,vl,.int .i64 m.c.hand,.int .i64 m.g.count,.int .i64 m.g.next,.int .i64 m.g.round,vo,.int .i64 m.sp]] w (Post2 fun v w'=>∃v1 v2 v3 v4,v=.agg #[v1,v2,v3,.int .i64 m.c.hand,.int .i64 m.g.count,.int .i64 m.g.next,.int .i64 m.g.round,v4,.int .i64 m.sp]∧MaM w.heap.size w' v1 v2 v3 v4 m∧Below w.heap.size w w'):=by
  obtain⟨W0,hW,hbx,hbo,hb0,hs0⟩:=box2 w #[vb,vf,vl,.int .i64 m.c.hand,.int .i64 m.g.count,.int .i64 m.g.next,.int .i64 m.g.round,vo,.int .i64 m.sp] 34 #[.slice none 0 0,.slice none 0 0,.slice none 0 0,.int .i64 0,.int .i64 0,.int .i64 0,.int .i64 0,.slice none 0 0,.int .i64 0] 34;obtain⟨m0q,m1q,m2q,m3q,m4q,m5q,m6q,m7q,m8q⟩:=cells9 hbx;have HX0:=Hd hbx;have HO0:=Hd hbo;have HB0:=Hd hb0;have HM:=Hd hM;clear hbx hbo hb0 hM
  go_enter Tryz.func92,Tryz.ntmps92
  go_wp2
  go_region_held_law (fun w'=>w'.cell? ⟨w.heap.size,0,none⟩=some vb∧w'.cell? ⟨w.heap.size,1,none⟩=some vf∧w'.cell? ⟨w.heap.size,2,none⟩=some vl∧w'.cell? ⟨w.heap.size,3,none⟩=some (.int .i64 m.c.hand)∧w'.cell? ⟨w.heap.size,4,none⟩=some (.int .i64 m.g.count)∧w'.cell? ⟨w.heap.size,5,none⟩=some (.int .i64 m.g.next)∧w'.cell? ⟨w.heap.size,6,none⟩=some (.int .i64 m.g.round)∧w'.cell? ⟨w.heap.size,7,none⟩=some vo∧w'.cell? ⟨w.heap.size,8,none⟩=some (.int .i64 m.sp)) (go_keep) (first
    | (refine step_call rfl ?_ (l3Copy_any vb vf m.t _ (HM.o.t.now (bD HB0.o)) h1 h2) ?_
       go_simp
       rintro _ w1 ⟨a1,a2,rfl,hT1,hb1⟩;have HB1:=Hd (bT (bD HB0.o) hb1);have hx1:=HX0.o.drew.below hb1;have HO1:=Hd (HO0.o.drew.below hb1);have hs1:w.heap.size+2≤w1.heap.size:=Nat.le_trans (Nat.le_of_eq hs0.symm) hb1.size;obtain⟨m0d,m1d,m2d,m3d,m4d,m5d,m6d,m7d,m8d⟩:=cells9 hx1;have HX1:=Hd hx1;have HT1:=Hd (hT1.mono (B':=w.heap.size+2) (Nat.le_of_eq hs0.symm))
       clear hx1 hT1 hb1)
    | (refine step_call rfl ?_ (l4Copy_any vl m.c _ (HM.o.l.now HB1.o) h3) ?_
       go_simp
       rintro _ w2 ⟨a3,rfl,hL2,hb2⟩;have HB2:=Hd (bT HB1.o hb2);have hx2:=HX1.o.below hb2;have HO2:=Hd (HO1.o.below hb2);have HT2:=Hd (HT1.o.now hb2);have hs2:w.heap.size+2≤w2.heap.size:=Nat.le_trans hs1 hb2.size;obtain⟨m0e,m1e,m2e,m3e,m4e,m5e,m6e,m7e,m8e⟩:=cells9 hx2;have HX2:=Hd hx2;have HL2:=Hd (hL2.mono (base':=w.heap.size+2) hs1)
       clear hx2 hL2 hb2 m0d m1d m2d m3d m4d m5d m6d m7d m8d)
    | (refine step_call rfl ?_ (l5Copy_any vo m.g _ (HM.o.o.now HB2.o) h4) ?_
       go_simp
       rintro _ w3 ⟨a4,rfl,hO3,hb3⟩;have HB3:=Hd (bT HB2.o hb3);have hx3:=HX2.o.below hb3;have ho3:=HO2.o.below hb3
       have HM3:Hi (MaM (w.heap.size+2) w3 a1 a2 a3 a4 m):=⟨HT2.o.now hb3,HL2.o.now hb3,hO3.mono hs2⟩
       obtain⟨m0f,m1f,m2f,m3f,m4f,m5f,m6f,m7f,m8f⟩:=cells9 hx3;obtain⟨r0x,r1x,r2x,r3x,r4x,r5x,r6x,r7x,r8x⟩:=cells9 ho3;obtain⟨z0x,z1x,z2x,z3x,z4x,z5x,z6x,z7x,z8x⟩:=free9 ho3;have HO3:=Hd ho3;obtain⟨A1,c1,rfl,_⟩:=HM3.o.t.b;obtain⟨A2,c2,rfl,_⟩:=HM3.o.t.f;obtain⟨A3,c3,rfl,_⟩:=HM3.o.l;obtain⟨A4,c4,rfl,_⟩:=HM3.o.o
       clear hx3 ho3 hO3 hb3 m0e m1e m2e m3e m4e m5e m6e m7e m8e))
  all_goals
    go_wp2;have o3:=((((((((HO3.o.set_ 0 (.slice A1 m.t.bs.length c1)).set_ 1 (.slice A2 m.t.fs.length c2)).set_ 2 (.slice A3 m.c.ls.length c3)).set_ 3 (.int .i64 m.c.hand)).set_ 4 (.int .i64 m.g.count)).set_ 5 (.int .i64 m.g.next)).set_ 6 (.int .i64 m.g.round)).set_ 7 (.slice A4 m.g.os.length c4)).set_ 8 (.int .i64 m.sp);have t0:=o3.cell_ 0 (v:=.slice A1 m.t.bs.length c1) (by simp);have t1:=o3.cell_ 1 (v:=.slice A2 m.t.fs.length c2) (by simp);have t2:=o3.cell_ 2 (v:=.slice A3 m.c.ls.length c3) (by simp);have t3:=o3.cell_ 3 (v:=.int .i64 m.c.hand) (by simp);have t4:=o3.cell_ 4 (v:=.int .i64 m.g.count) (by simp);have t5:=o3.cell_ 5 (v:=.int .i64 m.g.next) (by simp);have t6:=o3.cell_ 6 (v:=.int .i64 m.g.round) (by simp);have t7:=o3.cell_ 7 (v:=.slice A4 m.g.os.length c4) (by simp);have t8:=o3.cell_ 8 (v:=.int .i64 m.sp) (by simp);refine bodyPost_ret (v:=.agg #[.slice A1 m.t.bs.length c1,.slice A2 m.t.fs.length c2,.slice A3 m.c.ls.length c3,.int .i64 m.c.hand,.int .i64 m.g.count,.int .i64 m.g.next,.int .i64 m.g.round,.slice A4 m.g.os.length c4,.int .i64 m.sp]) (by simp[results,Tryz.results92,go_sem,t0,t1,t2,t3,t4,t5,t6,t7,t8]) rfl ⟨_,rfl,_,_,_,_,rfl, ?_, ?_⟩
    · refine MaM.mono (B:=w.heap.size+2) ?_ (by omega)
      repeat (refine MaM.far ?_ (by show w.heap.size+1<w.heap.size+2;omega))
      exact HM3.o
    · repeat (refine bS ?_ (by simp))
      exact HB3.o
theorem l6Line_any (vb vf vl vo:Value) (m:Ma) (xt xp xf xr:Int) (xw:Bool) (w:World) (hM:MaR w vb vf vl vo m) (htv:tv m.t=true) (hgv:tgv m.g=true) (hp256:inR xp 256=true):
    Calls Tryz.prog 134 #[.agg #[vb,vf,vl,.int .i64 m.c.hand,.int .i64 m.g.count,.int .i64 m.g.next,.int .i64 m.g.round,vo,.int .i64 m.sp],.agg #[.bool true,.int .i64 xt,.int .i64 xp,.int .i64 xf,.int .i64 xr,.bool xw]] w fun r w'=>r=.returned (.bool (lnM m ⟨true,xt,xp,xf,xr,xw⟩))∧Below w.heap.size w w':=by
  have HM:=Hd hM;obtain⟨Af,cf,rfl,hfc,hfm,hF⟩:=hM.t.f;have HFS:=Hd hF;clear hM hF;have hbx:=(Own.new_ w 34 #[vb,.slice Af m.t.fs.length cf,vl,.int .i64 m.c.hand,.int .i64 m.g.count,.int .i64 m.g.next,.int .i64 m.g.round,vo,.int .i64 m.sp]).alloc (o:=.cells #[.bool true,.int .i64 xt,.int .i64 xp,.int .i64 xf,.int .i64 xr,.bool xw] 50);have hbl:=Own.new_ (w.alloc (.cells #[vb,.slice Af m.t.fs.length cf,vl,.int .i64 m.c.hand,.int .i64 m.g.count,.int .i64 m.g.next,.int .i64 m.g.round,vo,.int .i64 m.sp] 34)) 50 #[.bool true,.int .i64 xt,.int .i64 xp,.int .i64 xf,.int .i64 xr,.bool xw];have hb0:Below w.heap.size w ((w.alloc (.cells #[vb,.slice Af m.t.fs.length cf,vl,.int .i64 m.c.hand,.int .i64 m.g.count,.int .i64 m.g.next,.int .i64 m.g.round,vo,.int .i64 m.sp] 34)).alloc (.cells #[.bool true,.int .i64 xt,.int .i64 xp,.int .i64 xf,.int .i64 xr,.bool xw] 50)):=bA (bA bR);rw[show(w.alloc (.cells #[vb,.slice Af m.t.fs.length cf,vl,.int .i64 m.c.hand,.int .i64 m.g.count,.int .i64 m.g.next,.int .i64 m.g.round,vo,.int .i64 m.sp] 34)).heap.size=w.heap.size+1 by simp]at hbl;generalize hW:(w.alloc (.cells #[vb,.slice Af m.t.fs.length cf,vl,.int .i64 m.c.hand,.int .i64 m.g.count,.int .i64 m.g.next,.int .i64 m.g.round,vo,.int .i64 m.sp] 34)).alloc (.cells #[.bool true,.int .i64 xt,.int .i64 xp,.int .i64 xf,.int .i64 xr,.bool xw] 50)=W0 at hbx hbl hb0;have HX0:=Hd hbx;have HL0:=Hd hbl;have HB0:=Hd hb0;clear hbx hbl hb0;have m0:=HX0.c 0 (vb) rfl;have m1:=HX0.c 1 (.slice Af m.t.fs.length cf) rfl;have m4:=HX0.c 4 (.int .i64 m.g.count) rfl;have m5:=HX0.c 5 (.int .i64 m.g.next) rfl;have m6:=HX0.c 6 (.int .i64 m.g.round) rfl;have m7:=HX0.c 7 (vo) rfl;have x1:=HL0.c 1 (.int .i64 xt) rfl;have x2:=HL0.c 2 (.int .i64 xp) rfl;by_cases hp:128≤xp
  case pos =>
    by_cases ht:xt=-1
    case neg=>
      have HE:Hi (lnM m ⟨true,xt,xp,xf,xr,xw⟩=false):=lnM_sh rfl (fun h=>ht (h.1 hp));have ht3:(xt == (-1:Int))=false:=by rw[beq_eq_false_iff_ne];exact ht
      go_enter Tryz.func134,Tryz.ntmps134
      go_wp2;go_ret;exact⟨by rw[HE.o];rfl,HB0.o⟩
    case pos=>
      subst ht;have hln:=lnM_at2 (m:=m) (f:=xf) (r:=xr) (w:=xw) ⟨fun _=>rfl,fun _=>hp⟩ (lnSp_sh hp);have hkv:=lnSp_kval (m:=m) (x:=⟨true,-1,xp,xf,xr,xw⟩) hgv hp256 (lnSp_sh hp)
      go_enter Tryz.func134,Tryz.ntmps134
      go_wp2;have HK:=Hd (sKeyFor_any 0 xp);have HFN:=Hd (fun W (h:TaR W vb (.slice Af m.t.fs.length cf) m.t)=>l3Find_any vb (.slice Af m.t.fs.length cf) m.t (keyI 0 xp) xp W h htv hkv);have hidx:= @fndI_lt m.t.fs (keyI 0 xp) xp;generalize keyI 0 xp=ks at*;generalize hN:fndI m.t.fs ks xp=N at*
      go_region_held_law (fun w'=>w'.cell? ⟨w.heap.size,0,none⟩=some vb∧w'.cell? ⟨w.heap.size,1,none⟩=some (.slice Af m.t.fs.length cf)∧w'.cell? ⟨w.heap.size+1,2,none⟩=some (.int .i64 xp)) (go_keep) (first
        | (go_at_call 52
           refine(HK.o _).mono ?_;rintro _ w5 ⟨rfl,hb5⟩;have HB5:=Hd (bT (bD HB0.o) hb5);have HX5:=Hd (HX0.o.drew.below hb5);have HL5:=Hd (HL0.o.drew.below hb5);have d0:=HX5.c 0 (vb) rfl;have d1:=HX5.c 1 (.slice Af m.t.fs.length cf) rfl;have d2:=HL5.c 2 (.int .i64 xp) rfl
           clear hb5)
        | (go_at_call 51
           refine(HFN.o _ (HM.o.t.now HB5.o)).mono ?_;rintro _ w6 ⟨stp,rfl,hb6⟩;have HB6:=Hd (bT HB5.o hb6);have HX6:=Hd (HX5.o.below hb6);have HL6:=Hd (HL5.o.below hb6);have e0:=HX6.c 0 (vb) rfl;have e1:=HX6.c 1 (.slice Af m.t.fs.length cf) rfl;have e2:=HL6.c 2 (.int .i64 xp) rfl
           clear hb6 d0 d1 d2))
      all_goals
        clear m0 m1 m4 m5 m6 m7 x1 x2 e0 e1 e2;have l1:=xcell (HL6.c 1 (.int .i64 (-1)) rfl) HL6.o.lt;have l3:=xcell (HL6.c 3 (.int .i64 xf) rfl) HL6.o.lt;have l4:=xcell (HL6.c 4 (.int .i64 xr) rfl) HL6.o.lt;have l5:=xcell (HL6.c 5 (.bool xw) rfl) HL6.o.lt;have l6:=xcell (HX6.c 1 (.slice Af m.t.fs.length cf) rfl) HX6.o.lt;by_cases hn:0≤N
        case neg=>
          have HE:Hi (lnM m ⟨true,-1,xp,xf,xr,xw⟩=false):=by show _=_;rw[hln,decide_eq_false hn];rfl
          clear hidx hln;go_wp2;have hn2:¬0≤N:=by omega
          refine wp_region_ext (by kernel_rfl) (by kernel_rfl) ?_;repeat (go_big_quiet_step (fail))
          refine wpQuiet_nil ?_;intro _ hw';obtain⟨⟨wq,hq⟩,hw''⟩:=hw';subst hw'';try dsimp only
          go_wp2;go_ret;exact⟨by rw[HE.o];rfl,bT HB6.o hq⟩
        case pos=>
          obtain⟨i,f,rfl,ef,_,_⟩:=hidx hn;obtain⟨b',o',eA,hbb',f0,f1,f2,f3,f4⟩:=(HFS.o.below HB6.o).fr ef;subst eA;have hfr:=xcell f3 (by have:=HB6.o.size;show b'<_;omega);rw[decide_eq_true hn,Int.toNat_natCast,List.getD_eq_getElem?_getD,ef,Option.getD_some,Bool.true_and]at hln;have hil:=(List.getElem?_eq_some_iff.1 ef).1;clear f0 f1 f2 f3 f4 ef hidx;by_cases hf:(i:Int)=xf
          case neg=>
            have HE:Hi (lnM m ⟨true,-1,xp,xf,xr,xw⟩=false):=by show _=_;rw[hln,decide_eq_false hf];rfl
            clear hln;go_wp2;have hf2:((i:Int) == xf)=false:=by rw[beq_eq_false_iff_ne];exact hf
            have hn2:0≤(i:Int):=by omega
            refine wp_region_ext (by kernel_rfl) (by kernel_rfl) ?_;repeat (go_big_quiet_step (fail))
            refine wpQuiet_nil ?_;intro _ hw';obtain⟨⟨wq,hq⟩,hw''⟩:=hw';subst hw'';try dsimp only
            go_wp2;go_ret;exact⟨by rw[HE.o];rfl,bT HB6.o hq⟩
          case pos=>
          subst hf;by_cases hr:f.r=xr
          case neg=>
            have HE:Hi (lnM m ⟨true,-1,xp,i,xr,xw⟩=false):=by show _=_;rw[hln,decide_eq_false hr];simp
            clear hln;go_wp2;have hr2:(f.r == xr)=false:=by rw[beq_eq_false_iff_ne];exact hr
            have hn2:0≤(i:Int):=by omega
            refine wp_region_ext (by kernel_rfl) (by kernel_rfl) ?_;repeat (go_big_quiet_step (fail))
            refine wpQuiet_nil ?_;intro _ hw';obtain⟨⟨wq,hq⟩,hw''⟩:=hw';subst hw'';try dsimp only
            go_wp2;go_ret;exact⟨by rw[HE.o];rfl,bT HB6.o hq⟩
          case pos=>
            subst hr;rw[decide_eq_true rfl,decide_eq_true rfl,Bool.true_and,Bool.true_and]at hln
            cases xw with
            | false=>
              have HE:Hi (lnM m ⟨true,-1,xp,i,f.r,false⟩=true):=by show _=_;rw[hln];rfl
              clear hln;go_wp2;have hf2:((i:Int) == (i:Int))=true:=beq_self_eq_true _;have hr2:(f.r == f.r)=true:=beq_self_eq_true _;have hn2:0≤(i:Int):=by omega
              refine wp_region_ext (by kernel_rfl) (by kernel_rfl) ?_;repeat (go_big_quiet_step (fail))
              refine wpQuiet_nil ?_;intro _ hw';obtain⟨⟨wq,hq⟩,hw''⟩:=hw';subst hw'';try dsimp only
              go_wp2;go_ret;exact⟨by rw[HE.o];rfl,bT HB6.o hq⟩
            | true=>
              have HE:Hi (lnM m ⟨true,-1,xp,i,f.r,true⟩=true):=by show _=_;rw[hln,decide_eq_true hp];rfl
              clear hln;go_wp2;have hf2:((i:Int) == (i:Int))=true:=beq_self_eq_true _;have hr2:(f.r == f.r)=true:=beq_self_eq_true _;have hn2:0≤(i:Int):=by omega
              have ht4:((-1:Int) == (-1:Int))=true:=rfl;refine wp_region_ext (by kernel_rfl) (by kernel_rfl) ?_;repeat (go_big_quiet_step (fail))
              refine wpQuiet_nil ?_;intro _ hw';obtain⟨⟨wq,hq⟩,hw''⟩:=hw';subst hw'';try dsimp only
              go_wp2;go_ret;exact⟨by rw[HE.o];rfl,bT HB6.o hq⟩
  case neg=>
    by_cases ht:xt=-1
    case pos=>
      subst ht;have HE:Hi (lnM m ⟨true,-1,xp,xf,xr,xw⟩=false):=lnM_sh rfl (fun h=>hp (h.2 rfl))
      go_enter Tryz.func134,Tryz.ntmps134
      go_wp2;go_ret;exact⟨by rw[HE.o];rfl,HB0.o⟩
    case neg =>
      have hop:=lnSp_of (m:=m) (x:=⟨true,xt,xp,xf,xr,xw⟩) hgv hp;have ht2:(xt != (-1:Int))=true:=by rw[bne_iff_ne];exact ht
      have ht3:(xt == (-1:Int))=false:=by rw[beq_eq_false_iff_ne];exact ht
      go_enter Tryz.func134,Tryz.ntmps134
      go_wp2_with fail
      refine(sSpaceOf_any vo m.g xt _ (HM.o.o.now HB0.o)).mono ?_;rintro e w1 ⟨rfl,hb1⟩;have HX1:=Hd (HX0.o.below hb1);have HL1:=Hd (HL0.o.below hb1);have HB1:=Hd (bT HB0.o hb1);clear hb1 m0 m1 m4 m5 m6 m7 x1 x2;have m0:=HX1.c 0 (vb) rfl;have m1:=HX1.c 1 (.slice Af m.t.fs.length cf) rfl;have m4:=HX1.c 4 (.int .i64 m.g.count) rfl;have m5:=HX1.c 5 (.int .i64 m.g.next) rfl;have m6:=HX1.c 6 (.int .i64 m.g.round) rfl;have m7:=HX1.c 7 (vo) rfl;have x1:=HL1.c 1 (.int .i64 xt) rfl;have x2:=HL1.c 2 (.int .i64 xp) rfl
      cases hso:spO m.g xt with
      | false=>
        have HE:Hi (lnM m ⟨true,xt,xp,xf,xr,xw⟩=false):=lnM_sp rfl (hop.2 hso);go_wp2;go_ret;exact⟨by rw[HE.o];rfl,HB1.o⟩
      | true =>
        have hsp:=hop.1 hso;have hln:=lnM_at2 (m:=m) (f:=xf) (r:=xr) (w:=xw) ⟨fun h=>absurd h (by omega),fun h=>absurd h ht⟩ hsp;have hkv:=lnSp_kval (m:=m) (x:=⟨true,xt,xp,xf,xr,xw⟩) hgv hp256 hsp;generalize spV m.g xt=sp at*;clear hop hsp;go_wp2;have HK:=Hd (sKeyFor_any sp xp);have HFN:=Hd (fun W (h:TaR W vb (.slice Af m.t.fs.length cf) m.t)=>l3Find_any vb (.slice Af m.t.fs.length cf) m.t (keyI sp xp) xp W h htv hkv);have hidx:= @fndI_lt m.t.fs (keyI sp xp) xp;generalize keyI sp xp=ks at*;generalize hN:fndI m.t.fs ks xp=N at*
        go_region_held_law (fun w'=>w'.cell? ⟨w.heap.size,0,none⟩=some vb∧w'.cell? ⟨w.heap.size,1,none⟩=some (.slice Af m.t.fs.length cf)∧w'.cell? ⟨w.heap.size+1,2,none⟩=some (.int .i64 xp)) (go_keep) (first
          | (go_at_call 52
             refine(HK.o _).mono ?_;rintro _ w5 ⟨rfl,hb5⟩;have HB5:=Hd (bT (bD HB1.o) hb5);have HX5:=Hd (HX1.o.drew.below hb5);have HL5:=Hd (HL1.o.drew.below hb5);have d0:=HX5.c 0 (vb) rfl;have d1:=HX5.c 1 (.slice Af m.t.fs.length cf) rfl;have d2:=HL5.c 2 (.int .i64 xp) rfl
             clear hb5)
          | (go_at_call 51
             refine(HFN.o _ (HM.o.t.now HB5.o)).mono ?_;rintro _ w6 ⟨stp,rfl,hb6⟩;have HB6:=Hd (bT HB5.o hb6);have HX6:=Hd (HX5.o.below hb6);have HL6:=Hd (HL5.o.below hb6);have e0:=HX6.c 0 (vb) rfl;have e1:=HX6.c 1 (.slice Af m.t.fs.length cf) rfl;have e2:=HL6.c 2 (.int .i64 xp) rfl
             clear hb6 d0 d1 d2))
        all_goals
          clear m0 m1 m4 m5 m6 m7 x1 x2 e0 e1 e2;have l1:=xcell (HL6.c 1 (.int .i64 (xt)) rfl) HL6.o.lt;have l3:=xcell (HL6.c 3 (.int .i64 xf) rfl) HL6.o.lt;have l4:=xcell (HL6.c 4 (.int .i64 xr) rfl) HL6.o.lt;have l5:=xcell (HL6.c 5 (.bool xw) rfl) HL6.o.lt;have l6:=xcell (HX6.c 1 (.slice Af m.t.fs.length cf) rfl) HX6.o.lt;by_cases hn:0≤N
          case neg=>
            have HE:Hi (lnM m ⟨true,xt,xp,xf,xr,xw⟩=false):=by show _=_;rw[hln,decide_eq_false hn];rfl
            clear hidx hln;go_wp2;have hn2:¬0≤N:=by omega
            refine wp_region_ext (by kernel_rfl) (by kernel_rfl) ?_;repeat (go_big_quiet_step (fail))
            refine wpQuiet_nil ?_;intro _ hw';obtain⟨⟨wq,hq⟩,hw''⟩:=hw';subst hw'';try dsimp only
            go_wp2;go_ret;exact⟨by rw[HE.o];rfl,bT HB6.o hq⟩
          case pos=>
            obtain⟨i,f,rfl,ef,_,_⟩:=hidx hn;obtain⟨b',o',eA,hbb',f0,f1,f2,f3,f4⟩:=(HFS.o.below HB6.o).fr ef;subst eA;have hfr:=xcell f3 (by have:=HB6.o.size;show b'<_;omega);rw[decide_eq_true hn,Int.toNat_natCast,List.getD_eq_getElem?_getD,ef,Option.getD_some,Bool.true_and]at hln;have hil:=(List.getElem?_eq_some_iff.1 ef).1;clear f0 f1 f2 f3 f4 ef hidx;by_cases hf:(i:Int)=xf
            case neg=>
              have HE:Hi (lnM m ⟨true,xt,xp,xf,xr,xw⟩=false):=by show _=_;rw[hln,decide_eq_false hf];rfl
              clear hln;go_wp2;have hf2:((i:Int) == xf)=false:=by rw[beq_eq_false_iff_ne];exact hf
              have hn2:0≤(i:Int):=by omega
              refine wp_region_ext (by kernel_rfl) (by kernel_rfl) ?_;repeat (go_big_quiet_step (fail))
              refine wpQuiet_nil ?_;intro _ hw';obtain⟨⟨wq,hq⟩,hw''⟩:=hw';subst hw'';try dsimp only
              go_wp2;go_ret;exact⟨by rw[HE.o];rfl,bT HB6.o hq⟩
            case pos=>
            subst hf;by_cases hr:f.r=xr
            case neg=>
              have HE:Hi (lnM m ⟨true,xt,xp,i,xr,xw⟩=false):=by show _=_;rw[hln,decide_eq_false hr];simp
              clear hln;go_wp2;have hr2:(f.r == xr)=false:=by rw[beq_eq_false_iff_ne];exact hr
              have hn2:0≤(i:Int):=by omega
              refine wp_region_ext (by kernel_rfl) (by kernel_rfl) ?_;repeat (go_big_quiet_step (fail))
              refine wpQuiet_nil ?_;intro _ hw';obtain⟨⟨wq,hq⟩,hw''⟩:=hw';subst hw'';try dsimp only
              go_wp2;go_ret;exact⟨by rw[HE.o];rfl,bT HB6.o hq⟩
            case pos=>
              subst hr;rw[decide_eq_true rfl,decide_eq_true rfl,Bool.true_and,Bool.true_and]at hln
              cases xw with
              | false=>
                have HE:Hi (lnM m ⟨true,xt,xp,i,f.r,false⟩=true):=by show _=_;rw[hln];rfl
                clear hln;go_wp2;have hf2:((i:Int) == (i:Int))=true:=beq_self_eq_true _;have hr2:(f.r == f.r)=true:=beq_self_eq_true _;have hn2:0≤(i:Int):=by omega
                refine wp_region_ext (by kernel_rfl) (by kernel_rfl) ?_;repeat (go_big_quiet_step (fail))
                refine wpQuiet_nil ?_;intro _ hw';obtain⟨⟨wq,hq⟩,hw''⟩:=hw';subst hw'';try dsimp only
                go_wp2;go_ret;exact⟨by rw[HE.o];rfl,bT HB6.o hq⟩
              | true=>
                have HE:Hi (lnM m ⟨true,xt,xp,i,f.r,true⟩=false):=by show _=_;rw[hln,decide_eq_false (show¬128≤xp by omega)];rfl
                clear hln;go_wp2;have hf2:((i:Int) == (i:Int))=true:=beq_self_eq_true _;have hr2:(f.r == f.r)=true:=beq_self_eq_true _;have hn2:0≤(i:Int):=by omega
                have ht4:((xt:Int) == (-1:Int))=false:=by rw[beq_eq_false_iff_ne];exact ht
                refine wp_region_ext (by kernel_rfl) (by kernel_rfl) ?_;repeat (go_big_quiet_step (fail))
                refine wpQuiet_nil ?_;intro _ hw';obtain⟨⟨wq,hq⟩,hw''⟩:=hw';subst hw'';try dsimp only
                go_wp2;go_ret;exact⟨by rw[HE.o];rfl,bT HB6.o hq⟩
def Oth(p:TypeId→Prop)(w w':World):Prop:=w.heap.size≤w'.heap.size∧∀(g:Nat) (e:TypeId) (cs:Array Value),Own w g e cs→¬p e→Own w' g e cs
section
variable {p : TypeId → Prop} {w w' w'' : World} {e e' : TypeId} {A : Option Addr} {n : Nat}
theorem Oth.trans{q:TypeId→Prop}(h:Oth p w w')(k:Oth q w' w''):Oth (fun e=>p e∨q e) w w'':=
 ⟨Nat.le_trans h.1 k.1,fun g e cs o hn=>k.2 g e cs (h.2 g e cs o (fun x=>hn (.inl x))) (fun x=>hn (.inr x))⟩
theorem Oth.of_below(h:Below w.heap.size w w'):Oth p w w':=⟨h.size,fun _ _ _ o _=>o.below h⟩
theorem Oth.far(h:Oth p w' w'')(hb:Below w.heap.size w w'):Oth p w w'':=⟨Nat.le_trans hb.size h.1,fun g e cs o hn=>h.2 g e cs (o.below hb) hn⟩
theorem MineE.oth{α:Type}{E:Enc α}{B:Nat}{l:List α}(h:MineE E e B w A l)(hg:Oth p w w')(hne:¬p e):MineE E e B w' A l:=by
 refine⟨⟨h.is.len,fun hn=> ?_⟩,fun hl=> ?_⟩
 ·obtain⟨g,cs,rfl,hbg,ho,_⟩:=h.own hn;obtain⟨b,o,e,hb,hc⟩:=h.is.at_ hn;injection e with e;injection e with e1 e2;subst e1 e2;have:=hg.1;refine⟨g,0,rfl,by omega,fun j u hu=> ?_⟩;have hh:=hc j u hu;rw[ho.cell]at hh;rw[(hg.2 g _ cs ho hne).cell];exact hh
 ·obtain⟨g,cs,e,hbg,ho,hs⟩:=h.own hl;exact⟨g,cs,e,hbg,hg.2 g _ cs ho hne,hs⟩
end
theorem MaM.oth{b:Nat}{w w':World}{p:TypeId→Prop}{v1 v2 v3 v4:Value}{m:Ma}(h:MaM b w v1 v2 v3 v4 m)(ho:Oth p w w')(h1:¬p 3)(h2:¬p 80)(h3:¬p 50)(h4:¬p 186):MaM b w' v1 v2 v3 v4 m:=by
 obtain⟨⟨⟨A1,c1,r1,l1,k1,m1⟩,⟨A2,c2,r2,l2,k2,m2⟩⟩,⟨A3,c3,r3,l3,k3,m3⟩,⟨A4,c4,r4,l4,k4,m4⟩⟩:=h;exact⟨⟨⟨A1,c1,r1,l1,k1,m1.oth ho h1⟩,⟨A2,c2,r2,l2,k2,m2.oth ho h2⟩⟩,⟨A3,c3,r3,l3,k3,m3.oth ho h3⟩,⟨A4,c4,r4,l4,k4,m4.oth ho h4⟩⟩
theorem SlM.oth{α:Type}{E:Enc α}{e:TypeId}{b:Nat}{w w':World}{v:Value}{l:List α}{p:TypeId→Prop}(h:SlM E e b w v l)(ho:Oth p w w')(he:¬p e):SlM E e b w' v l:=
 let ⟨A,c,h1,h2,h3,h4⟩:=h;⟨A,c,h1,h2,h3,h4.oth ho he⟩
def stS(ty:TypeId)(n:Nat)(v v':World):Prop:=Oth (fun e=>e=ty) v v'∧∀(g:Nat) (cs:Array Value),cs.size=n→Own v g ty cs→∃cs':Array Value,cs'.size=n∧Own v' g ty cs'
theorem stS_same(ty:TypeId)(n:Nat)(v:World):stS ty n v v:=⟨Oth.of_below bR,fun g cs h1 h2=>⟨cs,h1,h2⟩⟩
theorem stS_set{ty:TypeId}{n:Nat}{v:World}{g i:Nat}{cs:Array Value}{u:Value}(ho:Own v g ty cs):stS ty n v (v.setCell ⟨g,i,none⟩ u):=by
 have same:∀(g':Nat) (e:TypeId) (cs':Array Value),Own v g' e cs'→g'=g→e=ty∧cs'=cs:=by
  rintro g' e cs' h rfl;unfold Own at h ho;rw[ho]at h;injection h with h;injection h with h1 h2;exact⟨h2.symm,h1.symm⟩
 refine⟨⟨by simp,fun g' e cs' h hne=> ?_⟩,fun g' cs' hn h=> ?_⟩
 ·by_cases hg:g'=g
  ·exact absurd (same g' e cs' h hg).1 hne
  ·exact h.far hg
 ·by_cases hg:g'=g
  ·subst hg;obtain⟨_,rfl⟩:=same g' ty cs' h rfl;exact⟨_,by simpa using hn,ho.set_ i u⟩
  ·exact⟨cs',hn,h.far hg⟩
theorem stS_trans{ty:TypeId}{n:Nat}{v v' v'':World}(h:stS ty n v v')(k:stS ty n v' v''):stS ty n v v'':=by
 refine⟨⟨Nat.le_trans h.1.1 k.1.1,fun g e cs o hne=>k.1.2 g e cs (h.1.2 g e cs o hne) hne⟩,fun g cs hn o=> ?_⟩;obtain⟨cs',e1,e2⟩:=h.2 g cs hn o;exact k.2 g cs' e1 e2
def tagO(m:Ma)(s p:Int):Bool:=if 128≤p then true else tgO m.g s
def tagT(m:Ma)(s p:Int):Int:=if 128≤p then -1 else tgT m.g s
def drpC(m:Ma)(s p:Int):Ca:=if tagO m s p=true∧0≤plcI m.c.ls (tagT m s p) p then⟨m.c.ls.set (plcI m.c.ls (tagT m s p) p).toNat lnz,m.c.hand⟩else m.c
def drpM(m:Ma)(t:Tab)(s p:Int):Ma:={m with t:=t,c:=drpC m s p}
def takO(m:Ma)(s p:Int):Bool:=mav m && fOK m.t s p
def takV(m:Ma)(s p:Int):Ma:=if takO m s p=true then drpM m (unmV m.t s p) s p else maz
theorem takO_false{m:Ma}{s p:Int}(h:takO m s p=false):takV m s p=maz:=by unfold takV;rw[h];rfl
theorem tgO_no{g:Tg}{s:Int}(h:tgv g=false):tgO g s=false∧tgT g s=0:=by
 have h1:tgO g s=false:=by unfold tgO;rw[h];rfl
 exact⟨h1,by unfold tgT;rw[h1];rfl⟩
theorem tgO_neg{g:Tg}{s:Int}(h:¬0≤ownI g.os s):tgO g s=false∧tgT g s=0:=by
 have h1:tgO g s=false:=by unfold tgO;rw[decide_eq_false h,Bool.and_false]
 exact⟨h1,by unfold tgT;rw[h1];rfl⟩
theorem ownI_lt{os:List (Int×Int)}{s:Int}(h:0≤ownI os s):∃(k:Nat) (o:Int×Int),ownI os s=(k:Int)∧os[k]?=some o∧o.1=s:=by
 unfold ownI at h⊢
 cases e:own os s with
 | none=>rw[e]at h;simp at h
 | some i=>
  unfold own at e;obtain⟨hi,h1,_⟩:=List.findIdx?_eq_some_iff_getElem.1 e;exact⟨i,os[i],rfl,List.getElem?_eq_getElem hi,by simpa using h1⟩
theorem tgO_yes{g:Tg}{s:Int}(h:tgv g=true){k:Nat}{o:Int×Int}(e:ownI g.os s=(k:Int))(eo:g.os[k]?=some o):tgO g s=true∧tgT g s=o.2:=by
 have h1:tgO g s=true:=by unfold tgO;rw[h,e];simp
 refine⟨h1, ?_⟩;unfold tgT;rw[h1,if_pos rfl,e,Int.toNat_natCast,List.getD_eq_getElem?_getD,eo];rfl
theorem plcI_lt{ls:List Ln}{t p:Int}(h:0≤plcI ls t p):∃(k:Nat) (x:Ln),plcI ls t p=(k:Int)∧ls[k]?=some x∧fits t p x=true:=by
 unfold plcI at h⊢
 cases e:plc ls t p with
 | none=>rw[e]at h;simp at h
 | some i=>
  unfold plc at e;obtain⟨hi,h1,_⟩:=List.findIdx?_eq_some_iff_getElem.1 e;exact⟨i,ls[i],rfl,List.getElem?_eq_getElem hi,h1⟩
theorem drpC_no{m:Ma}{s p:Int}(h:tagO m s p=false):drpC m s p=m.c:=by unfold drpC;rw[if_neg];rintro⟨h1,_⟩;rw[h]at h1;cases h1
theorem drpC_neg{m:Ma}{s p:Int}(h:¬0≤plcI m.c.ls (tagT m s p) p):drpC m s p=m.c:=by unfold drpC;rw[if_neg];exact fun h1=>h h1.2
theorem drpC_at{m:Ma}{s p:Int}(h:tagO m s p=true){k:Nat}(e:plcI m.c.ls (tagT m s p) p=(k:Int)):drpC m s p=⟨m.c.ls.set k lnz,m.c.hand⟩:=by unfold drpC;rw[if_pos ⟨h,by omega⟩,e,Int.toNat_natCast]
structure KD(S:World→World→Prop)(si:Nat) where
 P:Nat→Value→World→Prop
 kb:∀(j:Nat) (u:Value) (v v':World),P j u v→Below v.heap.size v v'→P j u v'
 ks:∀(j:Nat) (u:Value) (v v':World),j≠si→P j u v→S v v'→P j u v'
def kds{S:World→World→Prop}{si:Nat}(ks:List (KD S si))(j:Nat)(u:Value)(v:World):Prop:=match ks[j]? with | some k=>k.P j u v | none=>True
def tK(S:World→World→Prop)(si i:Nat)(v v':World):Prop:=if i=si then S v v' else Below v.heap.size v v'
theorem kds_keep{S:World→World→Prop}{si:Nat}{ks:List (KD S si)}{i j:Nat}{u:Value}{v v':World}(hij:i≠j)(h:kds ks j u v)(ht:tK S si i v v'):kds ks j u v':=by
 unfold kds at h⊢
 cases hk:ks[j]? with
 | none=>trivial
 | some k=>
  rw[hk]at h;unfold tK at ht;split at ht
  ·rename_i hi;exact k.ks j u v v' (by omega) h ht
  ·exact k.kb j u v v' h ht
theorem tK_below{S:World→World→Prop}{si i:Nat}{v v':World}(hi:i≠si)(h:Below v.heap.size v v'):tK S si i v v':=by
 unfold tK;rw[if_neg hi];exact h
theorem tK_same{S:World→World→Prop}(hS:∀v,S v v){si i:Nat}{v:World}:tK S si i v v:=by
 unfold tK;split
 ·exact hS v
 ·exact bR
theorem tK_store{S:World→World→Prop}{si:Nat}{v v':World}(h:S v v'):tK S si si v v':=by
 unfold tK;rw[if_pos rfl];exact h
section
variable {ty : TypeId} {n si : Nat}
def KD.eq(u0:Value):KD (stS ty n) si where
 P:=fun _ u _=>u=u0
 kb:=fun _ _ _ _ h _=>h
 ks:=fun _ _ _ _ _ h _=>h
def KD.row{α:Type}(E:Enc α)(e:TypeId)(b:Nat)(l:List α)(he:e≠ty)(f:Value→Value):KD (stS ty n) si where
 P:=fun _ u v=>∃v1,u=f v1∧SlM E e b v v1 l
 kb:=fun _ _ _ _ ⟨v1,h1,h2⟩ hb=>⟨v1,h1,h2.now hb⟩
 ks:=fun _ _ _ _ _ ⟨v1,h1,h2⟩ hs=>⟨v1,h1,h2.oth hs.1 he⟩
def KD.box(b:Nat):KD (stS ty n) si where
 P:=fun _ u v=>∃(g:Nat) (cs:Array Value),u=.pointer (some ⟨g,0,none⟩)∧b≤g∧cs.size=n∧Own v g ty cs
 kb:=fun _ _ _ _ ⟨g,cs,h1,h2,h3,h4⟩ hb=>⟨g,cs,h1,h2,h3,h4.below hb⟩
 ks:=fun _ _ _ _ _ ⟨g,cs,h1,h2,h3,h4⟩ hs=>let ⟨cs',e1,e2⟩:=hs.2 g cs h3 h4;⟨g,cs',h1,h2,e1,e2⟩
def KD.boxed{α:Type}(E:Enc α)(e:TypeId)(b:Nat)(l:List α)(f:Value→Array Value):KD (stS ty n) si where
 P:=fun j u v=>j=si∧∃(g:Nat) (v1:Value),u=.pointer (some ⟨g,0,none⟩)∧b≤g∧Own v g ty (f v1)∧SlM E e b v v1 l
 kb:=fun _ _ _ _ ⟨hj,g,v1,h1,h2,h3,h4⟩ hb=>⟨hj,g,v1,h1,h2,h3.below hb,h4.now hb⟩
 ks:=fun _ _ _ _ hne ⟨hj,_⟩ _=>absurd hj hne
end
def fpV(t:Tab)(s p:Int):Int:=if fOK t s p=true then fndI t.fs s p else 0
theorem sFindPage_any(vb vf:Value)(t:Tab)(s p:Int)(w:World)(hT:TaR w vb vf t):
  Calls Tryz.prog 209 #[.agg #[vb,vf],.agg #[.int .i64 s,.int .i64 p]] w (Post2 fun v w'=>∃stp:Int,v=.tuple #[.int .i64 (fpV t s p),.int .i64 stp,.bool (fOK t s p)]∧Below w.heap.size w w'):=by
 have hx:=(Own.new_ w 26 #[vb,vf]).alloc (o:=.cells #[.int .i64 s,.int .i64 p] 54);have hk:=ownAt (W:=w.alloc (.cells #[vb,vf] 26)) (g:=w.heap.size+1) (t:=54) (cs:=#[.int .i64 s,.int .i64 p]) (by simp);have hb0:Below w.heap.size w ((w.alloc (.cells #[vb,vf] 26)).alloc (.cells #[.int .i64 s,.int .i64 p] 54)):=bA (bA bR);generalize hW:(w.alloc (.cells #[vb,vf] 26)).alloc (.cells #[.int .i64 s,.int .i64 p] 54)=W0 at hx hk hb0;have HTR:=Hd hT;have HX0:=Hd hx;have HK0:=Hd hk;have HB0:=Hd hb0;clear hT hx hk hb0;have t00:=HX0.c 0 (vb) rfl;have t10:=HX0.c 1 (vf) rfl
 go_enter Tryz.func209,Tryz.ntmps209
 go_wp2_with fail
 refine(sTableValid_any vb vf t _ (HTR.o.now HB0.o)).mono ?_;rintro e w1 ⟨rfl,hb1⟩;have HX1:=Hd (HX0.o.below hb1);have HK1:=Hd (HK0.o.below hb1);have HB1:=Hd (bT HB0.o hb1);clear hb1 t00 t10
 cases h1:tv t with
 | false=>
  have HA:Hi (fOK t s p=false):=by show _=_;unfold fOK;rw[h1];rfl
  have HV:Hi (fpV t s p=0):=by show _=_;unfold fpV;rw[HA.o];rfl
  go_wp2;refine bodyPost_ret (v:=.tuple #[.int .i64 0,.int .i64 0,.bool false]) (by simp[results,Tryz.results209,go_sem]) rfl ⟨_,rfl,0,by rw[HA.o,HV.o],HB1.o⟩
 | true=>
  have k0:=HK1.c 0 (.int .i64 s) rfl;have k1:=HK1.c 1 (.int .i64 p) rfl;go_wp2_with fail
  refine(sKeyValid_any _ _ _).mono ?_;rintro e w2 ⟨rfl,hb2⟩;have HX2:=Hd (HX1.o.below hb2);have HK2:=Hd (HK1.o.below hb2);have HB2:=Hd (bT HB1.o hb2);clear hb2 k0 k1
  cases h2:kval (s,p)with
  | false=>
   have HA:Hi (fOK t s p=false):=by show _=_;unfold fOK;rw[h1,h2];rfl
   have HV:Hi (fpV t s p=0):=by show _=_;unfold fpV;rw[HA.o];rfl
   go_wp2;refine bodyPost_ret (v:=.tuple #[.int .i64 0,.int .i64 0,.bool false]) (by simp[results,Tryz.results209,go_sem]) rfl ⟨_,rfl,0,by rw[HA.o,HV.o],HB2.o⟩
  | true=>
   have t0:=HX2.c 0 (vb) rfl;have t1:=HX2.c 1 (vf) rfl;have k0:=HK2.c 0 (.int .i64 s) rfl;have k1:=HK2.c 1 (.int .i64 p) rfl;go_wp2_with fail
   refine(l3Find_any vb _ t s p _ (HTR.o.now HB2.o) h1 h2).mono ?_;rintro e w3 ⟨stp,rfl,hb3⟩;have HB3:=Hd (bT HB2.o hb3);clear hb3 t0 t1 k0 k1;by_cases h3:0≤fndI t.fs s p
   ·have HA:Hi (fOK t s p=true):=by show _=_;unfold fOK;rw[h1,h2,decide_eq_true h3];rfl
    have HV:Hi (fpV t s p=fndI t.fs s p):=by show _=_;unfold fpV;rw[HA.o];rfl
    have h3b:¬fndI t.fs s p<0:=by omega
    go_wp2;refine bodyPost_ret (v:=.tuple #[.int .i64 (fndI t.fs s p),.int .i64 stp,.bool true]) (by simp[results,Tryz.results209,go_sem]) rfl ⟨_,rfl,stp,by rw[HA.o,HV.o],HB3.o⟩
   ·have HA:Hi (fOK t s p=false):=by show _=_;unfold fOK;rw[h1,h2,decide_eq_false h3];rfl
    have HV:Hi (fpV t s p=0):=by show _=_;unfold fpV;rw[HA.o];rfl
    have h3b:fndI t.fs s p<0:=by omega
    go_wp2;refine bodyPost_ret (v:=.tuple #[.int .i64 0,.int .i64 stp,.bool false]) (by simp[results,Tryz.results209,go_sem]) rfl ⟨_,rfl,stp,by rw[HA.o,HV.o],HB3.o⟩
end Go.Proofs.YtfbnokjdkhcgoaaGreatDoor
