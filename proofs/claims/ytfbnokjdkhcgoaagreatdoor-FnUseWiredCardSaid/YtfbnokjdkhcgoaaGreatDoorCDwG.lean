/- A part of the proofs of this seat. -/
import Derived.StillTailTactics
import Derived.Shelf.SlSortCmp.WholeK
import Derived.Shelf.Spec.SlicesGrow
import Derived.Test.YtfbnokjdkhcgoaaGreatDoorProg
import Derived.Test.YtfbnokjdkhcgoaaGreatDoorCUpS
import Derived.Test.YtfbnokjdkhcgoaaGreatDoorCW6G
set_option linter.unusedVariables false
set_option linter.unusedSimpArgs false
set_option maxRecDepth 1000000
set_option maxHeartbeats 16000000
namespace Go.Proofs.YtfbnokjdkhcgoaaGreatDoor
open Go.RowKit
def DrawnM(B:Nat)(w:World)(g p n:Nat)(v:Value)(w':World):Prop:=
 ∃(M:Me) (v1 v2 v3 v4 v5:Value) (q:Nat),v=.agg #[v1,v2,v3,.int .i64 M.m.c.hand,.int .i64 M.m.g.count,.int .i64 M.m.g.next,.int .i64 M.m.g.round,v4,.int .i64 M.m.sp,v5,.int .i64 M.h]∧MeM B w' v1 v2 v3 v4 v5 M∧(mev M=true∧Pgs M.m)∧Rdr B w' g q∧q≤p+n∧w.grownBy w' (some g)
theorem sNewMemory_v(vb vf vl vo:Value)(m:Ma)(w:World)(hM:MaR w vb vf vl vo m)(hv:mav m=true)(hg:Pgs m):
  Calls Tryz.prog 122 #[.agg #[vb,vf,vl,.int .i64 m.c.hand,.int .i64 m.g.count,.int .i64 m.g.next,.int .i64 m.g.round,vo,.int .i64 m.sp]] w (Post2 fun v w'=>∃(M:Me) (v1 v2 v3 v4 v5:Value),v=.tuple #[.agg #[v1,v2,v3,.int .i64 M.m.c.hand,.int .i64 M.m.g.count,.int .i64 M.m.g.next,.int .i64 M.m.g.round,v4,.int .i64 M.m.sp,v5,.int .i64 M.h],.bool true]∧MeM w.heap.size w' v1 v2 v3 v4 v5 M∧(mev M=true∧Pgs M.m)∧Below w.heap.size w w'):=by
 obtain⟨l1,l2,l3,l4⟩:=mav_len hv;refine(sNewMemory_g vb vf vl vo m w hM hv l1 l2 l3 l4).mono ?_;rintro e w2 ⟨v,rfl,v1,v2,v3,v4,v5,rfl,hM2,hb2⟩;exact⟨_,rfl,_,v1,v2,v3,v4,v5,rfl,hM2,⟨mev_new hv,hg⟩,hb2⟩
theorem l7Draw_g(B g q:Nat)(w:World)(hrd:Rdr B w g q)(hq:q≤700000)(hBw:B≤w.heap.size):
  Calls Tryz.prog 71 #[.pointer (some ⟨g,0,none⟩)] w (Post2 fun v w'=>DrawnM B w g q 124 v w'):=by
 have hgw:=rdr_lt hrd;obtain⟨W0,hW,hr0,hb0,hs0⟩:=box1 w #[.slice none 0 0,.slice none 0 0,.slice none 0 0,.int .i64 0,.int .i64 0,.int .i64 0,.int .i64 0,.slice none 0 0,.int .i64 0,.slice none 0 0,.int .i64 0] 37;have HR0:=Hd hr0;have HRD0:=Hd (rdr_below hrd hb0);have HB0:=Hd hb0;clear hr0 hb0 hrd
 go_enter Tryz.func71,Tryz.ntmps71
 go_wp2_with fail
 try rw[hW]
 refine(l6Draw_g B g q W0 HRD0.o (by omega) (by omega)).mono ?_;rintro e w1 ⟨_,rfl,m,f1,f2,f3,f4,q1,rfl,hM1,hz1,hrd1,hq1,hg1⟩;have HG1:=Hd (gT (gr_below (g:=g) HB0.o) hg1);have HR1:=Hd (own_gr HR0.o hg1 (by omega));have HRD1:=Hd hrd1;have HZ:=Hd hz1;have HMA:=Hd hM1;have hs1:w.heap.size+1≤w1.heap.size:=by have:=hg1.size;omega
 clear hM1 hz1 hrd1 hg1 HR0 HRD0 HB0 hW;go_wp2_with fail
 refine(sNewMemory_v f1 f2 f3 f4 m w1 HMA.o.r HZ.o.v HZ.o.p).mono ?_;rintro e w2 ⟨_,rfl,M,v1,v2,v3,v4,v5,rfl,hM2,hgd,hb2⟩;have HGD:=Hd hgd;have a6:=(mev_len hgd.1).2.2.2.2;obtain⟨A1,c1,rfl,_⟩:=hM2.m.t.b;obtain⟨A2,c2,rfl,_⟩:=hM2.m.t.f;obtain⟨A3,c3,rfl,_⟩:=hM2.m.l;obtain⟨A4,c4,rfl,_⟩:=hM2.m.o;obtain⟨A5,c5,rfl,_⟩:=id hM2.k;obtain⟨w3,hW3,ho3,hb3,hs3⟩:=box1 w2 #[.slice A1 M.m.t.bs.length c1,.slice A2 M.m.t.fs.length c2,.slice A3 M.m.c.ls.length c3,.int .i64 M.m.c.hand,.int .i64 M.m.g.count,.int .i64 M.m.g.next,.int .i64 M.m.g.round,.slice A4 M.m.g.os.length c4,.int .i64 M.m.sp,.slice A5 M.mk.length c5,.int .i64 M.h] 37;have hs2:w.heap.size+1≤w2.heap.size:=by have:=hb2.size;omega
 have D3:Hi (Dw w w.heap.size B g q1 w2.heap.size M (.slice A1 M.m.t.bs.length c1) (.slice A2 M.m.t.fs.length c2) (.slice A3 M.m.c.ls.length c3) (.slice A4 M.m.g.os.length c4) (.slice A5 M.mk.length c5) w3):=
  ⟨ho3,(HR1.o.below hb2).below hb3,(hM2.now hb3).mono (by omega),rdr_below (rdr_below HRD1.o hb2) hb3,gT (gT HG1.o (gr_below hb2)) (gr_below hb3)⟩
 clear hM2 hgd hb2 ho3 hb3 HR1 HRD1 HG1 HMA HZ;go_upto_region 2 with fail
 try rw[hW3]
 clear hW3;refine wp_region_rel4 (by kernel_rfl) [15,16,17,18,14,19,20,21,5,6,7] rdsD (DwC w B g q1 w2.heap.size M (.slice A1 M.m.t.bs.length c1) (.slice A2 M.m.t.fs.length c2) (.slice A3 M.m.c.ls.length c3) (.slice A4 M.m.g.os.length c4) (.slice A5 M.mk.length c5) w3.heap.size) (RD B w3.heap.size g (.agg #[.slice A1 M.m.t.bs.length c1,.slice A2 M.m.t.fs.length c2,.slice A3 M.m.c.ls.length c3,.int .i64 M.m.c.hand,.int .i64 M.m.g.count,.int .i64 M.m.g.next,.int .i64 M.m.g.round,.slice A4 M.m.g.os.length c4,.int .i64 M.m.sp,.slice A5 M.mk.length c5,.int .i64 M.h])) (fun i v v'=>TT (i=9) v v') (by kernel_rfl) ⟨⟨q1,by simp,D3.o.below (bD bR)⟩,(bD (bR (w:=w3))).size⟩ RD_loc RD_keep ?_ ?_
 ·intro i o ho D x v hD hC hd K hK
  match i,ho with
  | 0,ho=>
   cases ho;simp only[fillA,Act.put,sA9,sB9,sC9]at hK⊢;obtain⟨pp,hpp,hdw⟩:=hC.d;obtain⟨q0y,q1y,q2y,q3y,q4y,q5y,q6y,q7y,q8y,q9y,q10y⟩:=c11 hdw.ob;go_simp;exact hK _ _ (TT.below bR) (hC.below bR (by decide)) rfl
  | 1,ho=>
   cases ho;simp only[fillA,Act.put,sA9,sB9,sC9]at hK⊢;go_simp;exact hK _ _ (TT.below bR) (hC.below bR (by decide)) rfl
  | 2,ho=>
   cases ho;simp only[fillA,Act.put,sA9,sB9,sC9]at hK⊢;have d0:=hd 1 ⟨⟨1,.data⟩,by simp,rfl,rfl⟩;change x 16=.pointer (some ⟨g,0,none⟩)at d0;simp only[d0]at hK⊢;obtain⟨pp,hpp,hdw⟩:=hC.d;rw[hD]at hpp;have hpq:pp≤q1:=by simpa using hpp
   have hvs:=hC.sz;go_wp2_with fail
   refine(l7Pages_g B g pp v hdw.rd (by omega) (by omega)).mono ?_;rintro e v' ⟨_,rfl,ps,p',hps,hpl,hpg,hrd',hp',hgr⟩;go_simp;exact hK _ _ (TT.read hdw.rd hgr) ⟨⟨p',by rw[dn_self,if_pos rfl];omega,hdw.read hrd' hgr⟩,Nat.le_trans hvs hgr.size⟩ ⟨ps,hps.mono (by omega),hpl,hpg⟩
  | 3,ho=>
   cases ho;simp only[fillA,Act.put,sA9,sB9,sC9]at hK⊢;have d0:=hd 0 ⟨⟨0,.data⟩,by simp,rfl,rfl⟩;change x 15=.agg #[.slice A1 M.m.t.bs.length c1,.slice A2 M.m.t.fs.length c2,.slice A3 M.m.c.ls.length c3,.int .i64 M.m.c.hand,.int .i64 M.m.g.count,.int .i64 M.m.g.next,.int .i64 M.m.g.round,.slice A4 M.m.g.os.length c4,.int .i64 M.m.sp,.slice A5 M.mk.length c5,.int .i64 M.h]at d0;obtain⟨ps,hps,hpl,hpg⟩:=hd 2 ⟨⟨2,.data⟩,by simp,rfl,rfl⟩;obtain⟨Ap,cp,d2,_,_,hRp⟩:=hps.r;change x 17=_ at d2;simp only[d0,d2]at hK⊢;obtain⟨pp,hpp,hdw⟩:=hC.d;have hvs:=hC.sz;go_wp2_with fail
   refine(sUsePages_any _ _ _ _ _ M Ap cp ps v hdw.mm.r hRp (by omega)).mono ?_;rintro e v' ⟨_,rfl,e1,e2,e3,e4,e5,pl,rfl,hm',_,_,hb⟩;go_simp;exact hK _ _ (TT.below hb) (hC.below hb (by decide)) ⟨_,_,e1,e2,e3,e4,e5,pl,rfl,hm'.mono (by omega),fun h=>(fun y=>⟨y.1,y.2.1⟩) (usV_mev HGD.o.2 hpg h)⟩
  | 4,ho=>
   cases ho;simp only[fillA,Act.put,sA9,sB9,sC9]at hK⊢;obtain⟨N,ok,e1,e2,e3,e4,e5,pl,d0,hmX,hgX⟩:=hd 3 ⟨⟨3,.data⟩,by simp,rfl,rfl⟩;change x 18=_ at d0;simp only[d0]at hK⊢;go_simp;exact hK _ _ (TT.below bR) (hC.below bR (by decide)) ⟨N,ok,e1,e2,e3,e4,e5,pl,rfl,hmX,hgX⟩
  | 5,ho=>
   cases ho;simp only[fillA,Act.put,sA9,sB9,sC9]at hK⊢;obtain⟨N,ok,e1,e2,e3,e4,e5,pl,d0,hmX,hgX⟩:=hd 4 ⟨⟨4,.data⟩,by simp,rfl,rfl⟩;change x 14=_ at d0;simp only[d0]at hK⊢;go_simp;exact hK _ _ (TT.below bR) (hC.below bR (by decide)) ⟨⟨_,_,_,d0,rfl⟩,N,e1,e2,e3,e4,e5,rfl,hmX⟩
  | 6,ho=>
   cases ho;simp only[fillA,Act.put,sA9,sB9,sC9]at hK⊢;obtain⟨N,ok,e1,e2,e3,e4,e5,pl,d0,hmX,hgX⟩:=hd 4 ⟨⟨4,.data⟩,by simp,rfl,rfl⟩;change x 14=_ at d0;simp only[d0]at hK⊢;go_simp;exact hK _ _ (TT.below bR) (hC.below bR (by decide)) ⟨_,_,_,d0,rfl⟩
  | 7,ho=>
   cases ho;simp only[fillA,Act.put,sA9,sB9,sC9]at hK⊢;obtain⟨N,ok,e1,e2,e3,e4,e5,pl,d0,hmX,hgX⟩:=hd 4 ⟨⟨4,.data⟩,by simp,rfl,rfl⟩;change x 14=_ at d0;simp only[d0]at hK⊢;go_simp;exact hK _ _ (TT.below bR) (hC.below bR (by decide)) ⟨_,_,_,d0,rfl⟩
  | 8,ho=>
   cases ho;simp only[fillA,Act.put,sA9,sB9,sC9]at hK⊢;have hvs:=hC.sz;go_simp;exact hK _ _ (TT.below (bA bR)) (hC.below (bA bR) (by decide)) ⟨v.heap.size,_,rfl,hvs,rfl,Own.new_ _ _ _⟩
  | 9,ho=>
   cases ho;simp only[fillA,Act.put,sA9,sB9,sC9]at hK⊢;obtain⟨b,cs,d0,hsb,hcs,hob⟩:=hd 8 ⟨⟨8,.data⟩,by simp,rfl,rfl⟩;obtain⟨_,N,e1,e2,e3,e4,e5,d1,hmX⟩:=hd 5 ⟨⟨5,.data⟩,by simp,rfl,rfl⟩;change x 5=_ at d0;change x 19=_ at d1;obtain⟨E1,n1,rfl,_⟩:=hmX.m.t.b;obtain⟨E2,n2,rfl,_⟩:=hmX.m.t.f;obtain⟨E3,n3,rfl,_⟩:=hmX.m.l;obtain⟨E4,n4,rfl,_⟩:=hmX.m.o;obtain⟨E5,n5,rfl,_⟩:=id hmX.k;obtain⟨a0,a1,a2,a3,a4,a5,a6,a7,a8,a9,a10,rfl⟩:=arr11 hcs;obtain⟨q0y,q1y,q2y,q3y,q4y,q5y,q6y,q7y,q8y,q9y,q10y⟩:=c11 hob;obtain⟨z0y,z1y,z2y,z3y,z4y,z5y,z6y,z7y,z8y,z9y,z10y⟩:=f11 hob;have hlo:=hob.lt;have hvs:=hC.sz;simp only[d0,d1]at hK⊢;go_simp;obtain⟨pp,hpp,hdw⟩:=hC.d
   have hds:DwC w B g q1 w2.heap.size M (.slice A1 M.m.t.bs.length c1) (.slice A2 M.m.t.fs.length c2) (.slice A3 M.m.c.ls.length c3) (.slice A4 M.m.g.os.length c4) (.slice A5 M.mk.length c5) w3.heap.size (dn D 9) (sets b 0 [.slice E1 N.m.t.bs.length n1,.slice E2 N.m.t.fs.length n2,.slice E3 N.m.c.ls.length n3,.int .i64 N.m.c.hand,.int .i64 N.m.g.count,.int .i64 N.m.g.next,.int .i64 N.m.g.round,.slice E4 N.m.g.os.length n4,.int .i64 N.m.sp,.slice E5 N.mk.length n5,.int .i64 N.h] v):=
    ⟨⟨pp,by rw[dn_ne (by decide)];exact hpp,hdw.other hob (by omega) (Nat.le_refl _) (by omega) (by omega)⟩,Nat.le_trans hvs (by rw[sets_size];exact Nat.le_refl _)⟩
   have hT:TT True v (sets b 0 [.slice E1 N.m.t.bs.length n1,.slice E2 N.m.t.fs.length n2,.slice E3 N.m.c.ls.length n3,.int .i64 N.m.c.hand,.int .i64 N.m.g.count,.int .i64 N.m.g.next,.int .i64 N.m.g.round,.slice E4 N.m.g.os.length n4,.int .i64 N.m.sp,.slice E5 N.mk.length n5,.int .i64 N.h] v):=TT.sets hob trivial _;exact hK undef _ hT hds ⟨b,_,d0,hsb,d1,set11 hob _ _ _ _ _ _ _ _ _ _ _⟩
  | 10,ho=>
   cases ho;simp only[fillA,Act.put,sA9,sB9,sC9]at hK⊢;go_simp;exact hK _ _ (TT.below bR) (hC.below bR (by decide)) rfl
  | 11,ho=>
   cases ho;simp only[fillA,Act.put,sA9,sB9,sC9]at hK⊢;go_simp;exact hK _ _ (TT.below bR) (hC.below bR (by decide)) rfl
  | _+12,ho=>simp at ho
 intro D xa wz hD hC hd;obtain⟨pp,hpp,hdw⟩:=hC.d;rw[hD 2 (by decide),if_pos rfl]at hpp;obtain⟨N,ok,e1,e2,e3,e4,e5,pl,d14,hmN,hgN⟩:=hd 4 (by decide);obtain⟨⟨_,_,_,d14a,d19⟩,_⟩:=hd 5 (by decide);obtain⟨_,_,_,d14b,d21⟩:=hd 7 (by decide);obtain⟨b,cs,d5,hsb,d19a,hob⟩:=hd 9 (by decide);have d7:xa 7=xa 21:=hd 11 (by decide);rw[d14]at d14a d14b;simp only[Value.tuple.injEq,Array.mk.injEq,List.cons.injEq,and_true]at d14a d14b;obtain⟨rfl,rfl,rfl⟩:=d14a;obtain⟨rfl,rfl,rfl⟩:=d14b;rw[d19]at d19a;simp only[Value.agg.injEq]at d19a;subst d19a;rw[d21]at d7;have HMN:=Hd hmN;have HGN:=Hd hgN;have HOB:=Hd hob;have HD4:=Hd hdw;have hbz:w3.heap.size≤b:=hsb;simp only[fillA,Act.put,sA9,sB9,sC9,d5,d7];clear hd hC hD hdw hmN hgN hob d14 d19 d21 d5 d7 D3;go_upto_if 22 with fail
 go_cut []from 8 (fun wx=>∃(N:Me) (u1 u2 u3 u4 u5:Value),Hi (mev N=true∧Pgs N.m)∧Hi (Dw w w.heap.size B g pp w2.heap.size N u1 u2 u3 u4 u5 wx))
 case first=>
  cases ok with
  | false=>
   go_wp2;go_meet
   exact⟨M,_,_,_,_,_,HGD,HD4⟩
  | true=>
   have HG2:=Hd (HGN.o rfl);obtain⟨E1,n1,rfl,_⟩:=HMN.o.m.t.b;obtain⟨E2,n2,rfl,_⟩:=HMN.o.m.t.f;obtain⟨E3,n3,rfl,_⟩:=HMN.o.m.l;obtain⟨E4,n4,rfl,_⟩:=HMN.o.m.o;obtain⟨E5,n5,rfl,_⟩:=id HMN.o.k;obtain⟨q0b,q1b,q2b,q3b,q4b,q5b,q6b,q7b,q8b,q9b,q10b⟩:=c11 HOB.o;obtain⟨q0o,q1o,q2o,q3o,q4o,q5o,q6o,q7o,q8o,q9o,q10o⟩:=c11 HD4.o.ob;obtain⟨z0o,z1o,z2o,z3o,z4o,z5o,z6o,z7o,z8o,z9o,z10o⟩:=f11 HD4.o.ob;have hlo:=HD4.o.ob.lt;have hlb:=HOB.o.lt;have HD5:=Hd (HD4.o.put HMN.o hBw (Nat.le_refl _) (by omega));go_wp2;go_meet
   exact⟨N,_,_,_,_,_,HG2,HD5⟩
 case rest=>
  clear HD4 HMN HGN HOB HGD;obtain⟨N,u1,u2,u3,u4,u5,HGN,HD5⟩:=hcut;go_wp2_with fail
  refine(pick_any B g pp 3 wc HD5.o.rd (by omega) (by omega)).mono ?_;rintro e w5 ⟨z,rfl,_,_,hrd5,hgr5⟩;have HD6:=Hd (HD5.o.read hrd5 hgr5);clear hrd5 hgr5 HD5;go_upto_if 26 with fail
  go_cut []from 8 (fun wx=>∃(N:Me) (u1 u2 u3 u4 u5:Value),Hi (mev N=true∧Pgs N.m)∧Hi (Dw w w.heap.size B g (pp+1) w2.heap.size N u1 u2 u3 u4 u5 wx))
  case first=>
   cases hz:(z == 0)with
   | false=>
    go_wp2;go_meet
    exact⟨N,_,_,_,_,_,HGN,HD6⟩
   | true=>
    obtain⟨q0o,q1o,q2o,q3o,q4o,q5o,q6o,q7o,q8o,q9o,q10o⟩:=c11 HD6.o.ob;go_wp2_with fail
    refine(sClearMarks_g _ _ _ _ _ N w5 HD6.o.mm.r HGN.o.1).mono ?_;rintro e w6 ⟨_,rfl,e1,e2,e3,e4,e5,mk,rfl,hm6,hl6,hk6,hb6⟩;clear q0o q1o q2o q3o q4o q5o q6o q7o q8o q9o q10o;have hw56:B≤w5.heap.size:=by have:=HD6.o.gr.size;omega
    have HG2:Hi (mev ⟨N.m,mk,N.h⟩=true∧Pgs N.m):=⟨mev_clear HGN.o.1 hl6 hk6,HGN.o.2⟩
    have hm6':=hm6.mono hw56;have HD7:=Hd (HD6.o.below hb6);have hm7:MeM B w6 e1 e2 e3 e4 e5 ⟨N.m,mk,N.h⟩:=hm6';clear hl6 hk6 hm6 hb6 HD6 hm6';obtain⟨E1,n1,rfl,_⟩:=hm7.m.t.b;obtain⟨E2,n2,rfl,_⟩:=hm7.m.t.f;obtain⟨E3,n3,rfl,_⟩:=hm7.m.l;obtain⟨E4,n4,rfl,_⟩:=hm7.m.o;obtain⟨E5,n5,rfl,_⟩:=id hm7.k;obtain⟨q0o,q1o,q2o,q3o,q4o,q5o,q6o,q7o,q8o,q9o,q10o⟩:=c11 HD7.o.ob;obtain⟨z0o,z1o,z2o,z3o,z4o,z5o,z6o,z7o,z8o,z9o,z10o⟩:=f11 HD7.o.ob;have hlo:=HD7.o.ob.lt;have HD8:=Hd (HD7.o.put hm7 hBw (Nat.le_refl _) (by omega));clear hm7;go_wp2;go_meet
    exact⟨_,_,_,_,_,_,HG2,HD8⟩
  case rest=>
   clear HD6 HGN;obtain⟨N,u1,u2,u3,u4,u5,HGN,HD8⟩:=hcut;obtain⟨E1,n1,rfl,_⟩:=HD8.o.mm.m.t.b;obtain⟨E2,n2,rfl,_⟩:=HD8.o.mm.m.t.f;obtain⟨E3,n3,rfl,_⟩:=HD8.o.mm.m.l;obtain⟨E4,n4,rfl,_⟩:=HD8.o.mm.m.o;obtain⟨E5,n5,rfl,_⟩:=id HD8.o.mm.k;obtain⟨q0o,q1o,q2o,q3o,q4o,q5o,q6o,q7o,q8o,q9o,q10o⟩:=c11 HD8.o.ob;obtain⟨q0x,q1x,q2x,q3x,q4x,q5x,q6x,q7x,q8x,q9x,q10x⟩:=c11 HD8.o.rr;obtain⟨z0x,z1x,z2x,z3x,z4x,z5x,z6x,z7x,z8x,z9x,z10x⟩:=f11 HD8.o.rr;have hlr:=HD8.o.rr.lt;go_wp2;obtain⟨_,rfl,hoz,hotz,hsz,_,_⟩:=put11 HD8.o.rr (.slice E1 N.m.t.bs.length n1) (.slice E2 N.m.t.fs.length n2) (.slice E3 N.m.c.ls.length n3) (.int .i64 N.m.c.hand) (.int .i64 N.m.g.count) (.int .i64 N.m.g.next) (.int .i64 N.m.g.round) (.slice E4 N.m.g.os.length n4) (.int .i64 N.m.sp) (.slice E5 N.mk.length n5) (.int .i64 N.h);obtain⟨q0t,q1t,q2t,q3t,q4t,q5t,q6t,q7t,q8t,q9t,q10t⟩:=c11 hoz;refine bodyPost_ret (v:=.agg #[.slice E1 N.m.t.bs.length n1,.slice E2 N.m.t.fs.length n2,.slice E3 N.m.c.ls.length n3,.int .i64 N.m.c.hand,.int .i64 N.m.g.count,.int .i64 N.m.g.next,.int .i64 N.m.g.round,.slice E4 N.m.g.os.length n4,.int .i64 N.m.sp,.slice E5 N.mk.length n5,.int .i64 N.h]) (by simp[results,Tryz.results71,go_sem,q0t,q1t,q2t,q3t,q4t,q5t,q6t,q7t,q8t,q9t,q10t]) rfl ⟨_,rfl,N,_,_,_,_,_,pp+1,rfl,HD8.o.mm.othm hotz,HGN.o, ?_,by omega, ?_⟩
   ·exact rdr_sets (us:=[.slice E1 N.m.t.bs.length n1,.slice E2 N.m.t.fs.length n2,.slice E3 N.m.c.ls.length n3,.int .i64 N.m.c.hand,.int .i64 N.m.g.count,.int .i64 N.m.g.next,.int .i64 N.m.g.round,.slice E4 N.m.g.os.length n4,.int .i64 N.m.sp,.slice E5 N.mk.length n5,.int .i64 N.h]) (i:=0) (by omega) hBw HD8.o.rd
   ·exact g_sets (us:=[.slice E1 N.m.t.bs.length n1,.slice E2 N.m.t.fs.length n2,.slice E3 N.m.c.ls.length n3,.int .i64 N.m.c.hand,.int .i64 N.m.g.count,.int .i64 N.m.g.next,.int .i64 N.m.g.round,.slice E4 N.m.g.os.length n4,.int .i64 N.m.sp,.slice E5 N.mk.length n5,.int .i64 N.h]) (i:=0) (Nat.le_refl _) HD8.o.gr
def SzW(M:Me):Prop:=Sz 23 M.m∧Pgs M.m∧1≤M.mk.length∧M.mk.length≤17
def DrawnW(B:Nat)(w:World)(g p n:Nat)(v:Value)(w':World):Prop:=
 ∃(M:Me) (v1 v2 v3 v4 v5:Value) (q:Nat),v=.agg #[v1,v2,v3,.int .i64 M.m.c.hand,.int .i64 M.m.g.count,.int .i64 M.m.g.next,.int .i64 M.m.g.round,v4,.int .i64 M.m.sp,v5,.int .i64 M.h]∧MeM B w' v1 v2 v3 v4 v5 M∧SzW M∧Rdr B w' g q∧q≤p+n∧w.grownBy w' (some g)
theorem l7Wrong_g(B g q:Nat)(vb vf vl vo vk:Value)(M:Me)(w:World)(hrd:Rdr B w g q)(hq:q≤700000)(hM:MeM B w vb vf vl vo vk M)(hgd:mev M=true∧Pgs M.m)(hBw:B≤w.heap.size):
  Calls Tryz.prog 70 #[.pointer (some ⟨g,0,none⟩),.agg #[vb,vf,vl,.int .i64 M.m.c.hand,.int .i64 M.m.g.count,.int .i64 M.m.g.next,.int .i64 M.m.g.round,vo,.int .i64 M.m.sp,vk,.int .i64 M.h]] w (Post2 fun v w'=>DrawnW B w g q 28 v w'):=by
 have hgw:=rdr_lt hrd;obtain⟨a1,a2,a3,a4,a5,a6⟩:=mev_len hgd.1;obtain⟨W0,hW,hbx,hbo,hb0,hs0⟩:=box2 w #[vb,vf,vl,.int .i64 M.m.c.hand,.int .i64 M.m.g.count,.int .i64 M.m.g.next,.int .i64 M.m.g.round,vo,.int .i64 M.m.sp,vk,.int .i64 M.h] 37 #[.slice none 0 0,.slice none 0 0,.slice none 0 0,.int .i64 0,.int .i64 0,.int .i64 0,.int .i64 0,.slice none 0 0,.int .i64 0,.slice none 0 0,.int .i64 0] 37;have HX0:=Hd hbx;have HO0:=Hd hbo;have HB0:=Hd hb0;have HM:=Hd hM;have HGD:=Hd hgd;have HRD:=Hd hrd;clear hbx hbo hb0 hM hgd hrd;obtain⟨q0a,q1a,q2a,q3a,q4a,q5a,q6a,q7a,q8a,q9a,q10a⟩:=c11 HX0.o
 go_enter Tryz.func70,Tryz.ntmps70
 go_wp2_with fail
 refine(l7Copy_o vb vf vl vo vk M _ (HM.o.r.now HB0.o) a1 a2 a3 a4 (by omega) a6).mono ?_;rintro e w1 ⟨_,rfl,f1,f2,f3,f4,f5,rfl,hM1,hw1,hb1⟩;clear q0a q1a q2a q3a q4a q5a q6a q7a q8a q9a q10a;have hM1':=hM1.mono (show B≤W0.heap.size by omega);obtain⟨A1,c1,A2,c2,A3,c3,A4,c4,g5,c5,rfl,rfl,rfl,rfl,rfl⟩:=hM1'.open a6;obtain⟨w3,hW3,ho3,hb3,hs3⟩:=box1 w1 #[.slice A1 M.m.t.bs.length c1,.slice A2 M.m.t.fs.length c2,.slice A3 M.m.c.ls.length c3,.int .i64 M.m.c.hand,.int .i64 M.m.g.count,.int .i64 M.m.g.next,.int .i64 M.m.g.round,.slice A4 M.m.g.os.length c4,.int .i64 M.m.sp,.slice (some ⟨g5,0,none⟩) M.mk.length c5,.int .i64 M.h] 37;have hs1:w.heap.size+2≤w1.heap.size:=by have:=hb1.size;omega
 have hb03:=bT (bT HB0.o hb1) hb3
 have HD3:Hi (Dw w (w.heap.size+1) B g q w1.heap.size M (.slice A1 M.m.t.bs.length c1) (.slice A2 M.m.t.fs.length c2) (.slice A3 M.m.c.ls.length c3) (.slice A4 M.m.g.os.length c4) (.slice (some ⟨g5,0,none⟩) M.mk.length c5) w3):=⟨ho3,(HO0.o.below hb1).below hb3,hM1'.now hb3,rdr_below HRD.o hb03,gr_below hb03⟩
 have HW3:=Hd (own_kept (own_mono hw1 (show w.heap.size+2≤W0.heap.size by omega)) hb3);clear hM1 hM1' hw1 hb1 ho3 hb3 hb03 HX0 HO0 HB0 hW HRD HM;have hg1:w.heap.size+1<w1.heap.size:=by omega
 generalize hg3:w1.heap.size=g3 at*;go_upto_region 2 with fail
 try rw[hW3]
 clear hW3;go_wp2_with fail
 refine(pick_any B g q 20 w3 HD3.o.rd (by omega) (by omega)).mono ?_;rintro e w4 ⟨x,rfl,_,_,hrd4,hgr4⟩;have HD4:=Hd (HD3.o.read hrd4 hgr4);have HW4:=Hd (ownsRow_gr HW3.o HD3.o.rd hgr4 (by decide))
 have HSZ:Hi (SzW M):=⟨(Sz.of (mev_MEV.1 HGD.o.1 |>.m |> mav_MV.2)).up (by omega),HGD.o.2,a6,by omega⟩
 clear hrd4 hgr4 HD3 HW3;by_cases hx:x=0
 ·have e0:(x == 0)=true:=by rw[beq_iff_eq];exact hx
  clear hx;go_wp2_with fail
  refine(num_lit B g (q+1) [-1,16,0] w4 _ _ rfl rfl HD4.o.rd (by omega) (by simp) (by simp)).mono ?_;rintro e w5 ⟨z,rfl,_,hrd,hg⟩;have HD5:=Hd (HD4.o.read hrd hg);clear hrd hg HD4 HW4;obtain⟨w6,hW6,hd6,hs6⟩:=HD5.o.put10 hBw (by omega) hg1 z;have HD6:=Hd hd6;have HS6:Hi (SzW ⟨M.m,M.mk,z⟩):=HSZ.o;clear hd6 hs6;have q10o:=HD5.o.ob.cell_ 10 (v:=.int .i64 M.h) rfl;have z10o:=HD5.o.ob.free 10;have hlo:=HD5.o.ob.lt;go_upto_region 12 with fail
  try rw[hW6]
  clear hW6 q10o z10o;obtain⟨q0o,q1o,q2o,q3o,q4o,q5o,q6o,q7o,q8o,q9o,q10o⟩:=c11 HD6.o.ob;obtain⟨q0x,q1x,q2x,q3x,q4x,q5x,q6x,q7x,q8x,q9x,q10x⟩:=c11 HD6.o.rr;obtain⟨z0x,z1x,z2x,z3x,z4x,z5x,z6x,z7x,z8x,z9x,z10x⟩:=f11 HD6.o.rr;have hlr:=HD6.o.rr.lt;go_wp2;obtain⟨_,rfl,hoz,hmz,hrz,hgz⟩:=HD6.o.res hBw (by omega);obtain⟨q0t,q1t,q2t,q3t,q4t,q5t,q6t,q7t,q8t,q9t,q10t⟩:=c11 hoz;refine bodyPost_ret (v:=.agg #[.slice A1 M.m.t.bs.length c1,.slice A2 M.m.t.fs.length c2,.slice A3 M.m.c.ls.length c3,.int .i64 ((⟨M.m,M.mk,z⟩:Me)).m.c.hand,.int .i64 ((⟨M.m,M.mk,z⟩:Me)).m.g.count,.int .i64 ((⟨M.m,M.mk,z⟩:Me)).m.g.next,.int .i64 ((⟨M.m,M.mk,z⟩:Me)).m.g.round,.slice A4 M.m.g.os.length c4,.int .i64 ((⟨M.m,M.mk,z⟩:Me)).m.sp,.slice (some ⟨g5,0,none⟩) M.mk.length c5,.int .i64 ((⟨M.m,M.mk,z⟩:Me)).h]) (by simp[results,Tryz.results70,go_sem,q0t,q1t,q2t,q3t,q4t,q5t,q6t,q7t,q8t,q9t,q10t]) rfl ⟨_,rfl,(⟨M.m,M.mk,z⟩:Me),_,_,_,_,_,(q+1+1),rfl,hmz,HS6.o,hrz,by omega,hgz⟩
 have e0:(x == 0)=false:=by rw[beq_eq_false_iff_ne];exact hx
 clear hx;by_cases hx:x=1
 ·have e1:(x == 1)=true:=by rw[beq_iff_eq];exact hx
  clear hx;have hwl:w.heap.size+2≤w4.heap.size:=by have:=HD4.o.ob.lt;omega
  obtain⟨v7,w7,hrun,hown7,hg7,_⟩:=run_append_b (w.heap.size+2) w4 (.slice (some ⟨g5,0,none⟩) M.mk.length c5) M.mk.length M.mk true HW4.o rfl (by omega) hwl;obtain⟨k7,o7,r7,m7,d7,gr7⟩:=HD4.o.app HW4.o (by omega) hBw hg7 hown7;obtain⟨A7,c7,rfl,_⟩:=own_rd hown7;obtain⟨w8,hW8,hd8,hs8⟩:=dw_put_k o7 r7 m7 d7 gr7 k7 hBw (by omega) hg1;have HD8:=Hd hd8
  have HS8:Hi (SzW ⟨M.m,M.mk++[true],M.h⟩):=⟨HSZ.o.1,HSZ.o.2.1,by simp,by simp;omega⟩
  have q9o:=HD4.o.ob.cell_ 9 (v:=.slice (some ⟨g5,0,none⟩) M.mk.length c5) rfl;have q9p:=o7.cell_ 9 (v:=.slice (some ⟨g5,0,none⟩) M.mk.length c5) rfl;have z9p:=o7.free 9;have hlp:=o7.lt;have hlo:=HD4.o.ob.lt;clear k7 o7 r7 m7 d7 gr7 hown7 hg7 hd8 hs8
  go_upto_region 12 with(at_builtin;refine wpList_append_run _ rfl (.tmp 20) (.tmp 21) 35 rfl _ _ _ _ rfl rfl hrun ?_)
  try rw[hW8]
  clear hW8 q9o q9p z9p hlo hlp hrun;obtain⟨q0o,q1o,q2o,q3o,q4o,q5o,q6o,q7o,q8o,q9o,q10o⟩:=c11 HD8.o.ob;obtain⟨q0x,q1x,q2x,q3x,q4x,q5x,q6x,q7x,q8x,q9x,q10x⟩:=c11 HD8.o.rr;obtain⟨z0x,z1x,z2x,z3x,z4x,z5x,z6x,z7x,z8x,z9x,z10x⟩:=f11 HD8.o.rr;have hlr:=HD8.o.rr.lt;go_wp2;obtain⟨_,rfl,hoz,hmz,hrz,hgz⟩:=HD8.o.res hBw (by omega);obtain⟨q0t,q1t,q2t,q3t,q4t,q5t,q6t,q7t,q8t,q9t,q10t⟩:=c11 hoz;refine bodyPost_ret (v:=.agg #[.slice A1 M.m.t.bs.length c1,.slice A2 M.m.t.fs.length c2,.slice A3 M.m.c.ls.length c3,.int .i64 ((⟨M.m,M.mk++[true],M.h⟩:Me)).m.c.hand,.int .i64 ((⟨M.m,M.mk++[true],M.h⟩:Me)).m.g.count,.int .i64 ((⟨M.m,M.mk++[true],M.h⟩:Me)).m.g.next,.int .i64 ((⟨M.m,M.mk++[true],M.h⟩:Me)).m.g.round,.slice A4 M.m.g.os.length c4,.int .i64 ((⟨M.m,M.mk++[true],M.h⟩:Me)).m.sp,.slice A7 (M.mk.length+1) c7,.int .i64 ((⟨M.m,M.mk++[true],M.h⟩:Me)).h]) (by simp[results,Tryz.results70,go_sem,q0t,q1t,q2t,q3t,q4t,q5t,q6t,q7t,q8t,q9t,q10t]) rfl ⟨_,rfl,(⟨M.m,M.mk++[true],M.h⟩:Me),_,_,_,_,_,(q+1),rfl,hmz,HS8.o,hrz,by omega,hgz⟩
 have e1:(x == 1)=false:=by rw[beq_eq_false_iff_ne];exact hx
 clear hx;by_cases hx:x=2
 ·have e2:(x == 2)=true:=by rw[beq_iff_eq];exact hx
  clear hx;obtain⟨q0a,q1a,q2a,q3a,q4a,q5a,q6a,q7a,q8a,q9a,q10a⟩:=c11 HD4.o.ob;have hw4:B≤w4.heap.size:=by have:=HD4.o.gr.size;omega
  go_wp2_with fail
  refine(l6Wrong_g B g (q+1) 17 _ _ _ _ M.m w4 HD4.o.rd (by omega) HD4.o.mm.m (Sz.of (mev_MEV.1 HGD.o.1 |>.m |> mav_MV.2) |>.up (by omega)) (by omega) hw4).mono ?_;rintro e w5 ⟨_,rfl,m5,e1,e2,e3,e4,p5,rfl,hm5,hz5,hrd5,hp5,hg5⟩;clear q0a q1a q2a q3a q4a q5a q6a q7a q8a q9a q10a;have HD5:=Hd (HD4.o.read hrd5 hg5);have HM5:=Hd hm5;have HZ5:=Hd hz5;have hw5:B≤w5.heap.size:=by have:=HD5.o.gr.size;omega
  clear hm5 hz5 hrd5 hg5 HD4 HW4;go_wp2_with fail
  refine(l6Wrong_g B g p5 19 _ _ _ _ m5 w5 HD5.o.rd (by omega) HM5.o HZ5.o.1 (by omega) hw5).mono ?_;rintro e w6 ⟨_,rfl,m6,e1',e2',e3',e4',p6,rfl,hm6,hz6,hrd6,hp6,hg6⟩;have HD6:=Hd (HD5.o.read hrd6 hg6);have HM6:=Hd hm6;have HZ6:=Hd hz6;have hw6:B≤w6.heap.size:=by have:=HD6.o.gr.size;omega
  clear hm6 hz6 hrd6 hg6 HD5 HM5;go_wp2_with fail
  refine(l6Wrong_g B g p6 21 _ _ _ _ m6 w6 HD6.o.rd (by omega) HM6.o HZ6.o.1 (by omega) hw6).mono ?_;rintro e w7 ⟨_,rfl,m7,e1'',e2'',e3'',e4'',p7,rfl,hm7,hz7,hrd7,hp7,hg7⟩;have HD7:=Hd (HD6.o.read hrd7 hg7)
  have HS8:Hi (SzW ⟨m7,M.mk,M.h⟩):=⟨hz7.1,hz7.2 (HZ6.o.2 (HZ5.o.2 HGD.o.2)),HSZ.o.2.2⟩
  obtain⟨E1,n1,rfl,_⟩:=hm7.t.b;obtain⟨E2,n2,rfl,_⟩:=hm7.t.f;obtain⟨E3,n3,rfl,_⟩:=hm7.l;obtain⟨E4,n4,rfl,_⟩:=hm7.o;obtain⟨w8,hW8,hd8,hs8⟩:=HD7.o.put_m hm7 hBw (by omega) hg1;have HD8:=Hd hd8;clear hm7 hz7 hrd7 hg7 hd8 hs8 HD6 HM6 HZ5 HZ6;obtain⟨q0a,q1a,q2a,q3a,q4a,q5a,q6a,q7a,q8a,q9a,q10a⟩:=c11 HD7.o.ob;obtain⟨z0a,z1a,z2a,z3a,z4a,z5a,z6a,z7a,z8a,z9a,z10a⟩:=f11 HD7.o.ob;have hlo:=HD7.o.ob.lt;go_upto_region 12 with fail
  try rw[hW8]
  clear q0a q1a q2a q3a q4a q5a q6a q7a q8a q9a q10a;clear z0a z1a z2a z3a z4a z5a z6a z7a z8a z9a z10a;clear hW8 hlo HD7;obtain⟨q0o,q1o,q2o,q3o,q4o,q5o,q6o,q7o,q8o,q9o,q10o⟩:=c11 HD8.o.ob;obtain⟨q0x,q1x,q2x,q3x,q4x,q5x,q6x,q7x,q8x,q9x,q10x⟩:=c11 HD8.o.rr;obtain⟨z0x,z1x,z2x,z3x,z4x,z5x,z6x,z7x,z8x,z9x,z10x⟩:=f11 HD8.o.rr;have hlr:=HD8.o.rr.lt;go_wp2;obtain⟨_,rfl,hoz,hmz,hrz,hgz⟩:=HD8.o.res hBw (by omega);obtain⟨q0t,q1t,q2t,q3t,q4t,q5t,q6t,q7t,q8t,q9t,q10t⟩:=c11 hoz;refine bodyPost_ret (v:=.agg #[.slice E1 m7.t.bs.length n1,.slice E2 m7.t.fs.length n2,.slice E3 m7.c.ls.length n3,.int .i64 ((⟨m7,M.mk,M.h⟩:Me)).m.c.hand,.int .i64 ((⟨m7,M.mk,M.h⟩:Me)).m.g.count,.int .i64 ((⟨m7,M.mk,M.h⟩:Me)).m.g.next,.int .i64 ((⟨m7,M.mk,M.h⟩:Me)).m.g.round,.slice E4 m7.g.os.length n4,.int .i64 ((⟨m7,M.mk,M.h⟩:Me)).m.sp,.slice (some ⟨g5,0,none⟩) M.mk.length c5,.int .i64 ((⟨m7,M.mk,M.h⟩:Me)).h]) (by simp[results,Tryz.results70,go_sem,q0t,q1t,q2t,q3t,q4t,q5t,q6t,q7t,q8t,q9t,q10t]) rfl ⟨_,rfl,(⟨m7,M.mk,M.h⟩:Me),_,_,_,_,_,p7,rfl,hmz,HS8.o,hrz,by omega,hgz⟩
 have e2:(x == 2)=false:=by rw[beq_eq_false_iff_ne];exact hx
 clear hx;by_cases hx:x=3
 ·have e3:(x == 3)=true:=by rw[beq_iff_eq];exact hx
  clear hx;have q9o:=HD4.o.ob.cell_ 9 (v:=.slice (some ⟨g5,0,none⟩) M.mk.length c5) rfl;go_wp2_with fail
  refine(pick_any B g (q+1) (M.mk.length:Int) w4 HD4.o.rd (by omega) (by omega)).mono ?_;rintro e w5 ⟨y,rfl,hy0,hy1,hrd5,hgr5⟩;have hy2:=hy1 (by omega);obtain⟨k,rfl⟩:=Int.eq_ofNat_of_zero_le hy0;have hkl:k<M.mk.length:=by omega
  have HD5:=Hd (HD4.o.read hrd5 hgr5);have HW5:=Hd (ownsRow_gr HW4.o HD4.o.rd hgr5 (by decide));clear hrd5 hgr5 HD4 HW4 q9o hy0 hy1 hy2
  obtain⟨bo,hbo⟩:∃bo,M.mk[k]?=some bo:=⟨_,List.getElem?_eq_getElem hkl⟩
  have HD6:=Hd (HD5.o.below (bD bR));have HW6:=Hd (own_kept HW5.o (bD bR));obtain⟨t1,_,t3,_⟩:=HD5.o.turn HW5.o (by omega) hBw hbo (!bo);have HBO:=Hd hbo;clear hbo;have q9o:=HD5.o.ob.cell_ 9 (v:=.slice (some ⟨g5,0,none⟩) M.mk.length c5) rfl;go_upto_region 11 with fail
  go_still_tail 10,(by kernel_rfl)
  clear q9o t1 t3 HD5 HW5;change wpList _ _ _ _ _ w5.drew;generalize w5.drew=w6 at HD6 HW6⊢;obtain⟨t1,t2,t3,w8,hW8,hd8⟩:=HD6.o.turn HW6.o (by omega) hBw HBO.o (!bo);have HD8:=Hd hd8
  have HS8:Hi (SzW ⟨M.m,M.mk.set k (!bo),M.h⟩):=⟨HSZ.o.1,HSZ.o.2.1,by show 1≤(M.mk.set k (!bo)).length;simp;omega,by show(M.mk.set k (!bo)).length≤17;simp;omega⟩
  clear hd8 HD6 HW6;go_upto_region 12 with fail
  try rw[hW8]
  clear hW8 t1 t2 t3;obtain⟨q0o,q1o,q2o,q3o,q4o,q5o,q6o,q7o,q8o,q9o,q10o⟩:=c11 HD8.o.ob;obtain⟨q0x,q1x,q2x,q3x,q4x,q5x,q6x,q7x,q8x,q9x,q10x⟩:=c11 HD8.o.rr;obtain⟨z0x,z1x,z2x,z3x,z4x,z5x,z6x,z7x,z8x,z9x,z10x⟩:=f11 HD8.o.rr;have hlr:=HD8.o.rr.lt;go_wp2;obtain⟨_,rfl,hoz,hmz,hrz,hgz⟩:=HD8.o.res hBw (by omega);obtain⟨q0t,q1t,q2t,q3t,q4t,q5t,q6t,q7t,q8t,q9t,q10t⟩:=c11 hoz;refine bodyPost_ret (v:=.agg #[.slice A1 M.m.t.bs.length c1,.slice A2 M.m.t.fs.length c2,.slice A3 M.m.c.ls.length c3,.int .i64 ((⟨M.m,M.mk.set k (!bo),M.h⟩:Me)).m.c.hand,.int .i64 ((⟨M.m,M.mk.set k (!bo),M.h⟩:Me)).m.g.count,.int .i64 ((⟨M.m,M.mk.set k (!bo),M.h⟩:Me)).m.g.next,.int .i64 ((⟨M.m,M.mk.set k (!bo),M.h⟩:Me)).m.g.round,.slice A4 M.m.g.os.length c4,.int .i64 ((⟨M.m,M.mk.set k (!bo),M.h⟩:Me)).m.sp,.slice (some ⟨g5,0,none⟩) M.mk.length c5,.int .i64 ((⟨M.m,M.mk.set k (!bo),M.h⟩:Me)).h]) (by simp[results,Tryz.results70,go_sem,q0t,q1t,q2t,q3t,q4t,q5t,q6t,q7t,q8t,q9t,q10t]) rfl ⟨_,rfl,(⟨M.m,M.mk.set k (!bo),M.h⟩:Me),_,_,_,_,_,(q+1+1),rfl,hmz,HS8.o,hrz,by omega,hgz⟩
 have e3:(x == 3)=false:=by rw[beq_eq_false_iff_ne];exact hx
 clear hx;go_upto_region 12 with fail
 obtain⟨q0o,q1o,q2o,q3o,q4o,q5o,q6o,q7o,q8o,q9o,q10o⟩:=c11 HD4.o.ob;obtain⟨q0x,q1x,q2x,q3x,q4x,q5x,q6x,q7x,q8x,q9x,q10x⟩:=c11 HD4.o.rr;obtain⟨z0x,z1x,z2x,z3x,z4x,z5x,z6x,z7x,z8x,z9x,z10x⟩:=f11 HD4.o.rr;have hlr:=HD4.o.rr.lt;go_wp2;obtain⟨_,rfl,hoz,hmz,hrz,hgz⟩:=HD4.o.res hBw (by omega);obtain⟨q0t,q1t,q2t,q3t,q4t,q5t,q6t,q7t,q8t,q9t,q10t⟩:=c11 hoz;refine bodyPost_ret (v:=.agg #[.slice A1 M.m.t.bs.length c1,.slice A2 M.m.t.fs.length c2,.slice A3 M.m.c.ls.length c3,.int .i64 (M).m.c.hand,.int .i64 (M).m.g.count,.int .i64 (M).m.g.next,.int .i64 (M).m.g.round,.slice A4 M.m.g.os.length c4,.int .i64 (M).m.sp,.slice (some ⟨g5,0,none⟩) M.mk.length c5,.int .i64 (M).h]) (by simp[results,Tryz.results70,go_sem,q0t,q1t,q2t,q3t,q4t,q5t,q6t,q7t,q8t,q9t,q10t]) rfl ⟨_,rfl,M,_,_,_,_,_,(q+1),rfl,hmz,HSZ.o,hrz,by omega,hgz⟩
theorem GT.sets{q:TypeId→Prop}{B b:Nat}{t:TypeId}(hq:q t)(ht:t≠139)(hB:B≤b):∀{us:List Value} {i:Nat} {v:World} {cs:Array Value},Own v b t cs→GT q B (some b) 0 v (Go.Proofs.YtfbnokjdkhcgoaaGreatDoor.sets b i us v)
 | [],_,_,_,_=>GT.same
 | u::us,i,v,cs,ho=>(GT.set ho hq ht hB).trans (GT.sets hq ht hB (us:=us) (i:=i+1) (ho.set_ i u))
theorem Bytes.upM{B B':Nat}{w:World}{A:Option Addr}{n:Nat}(h:Bytes B w A n)(hB:B≤B'):Bytes B' w A n:=
 ⟨fun j hj=>let ⟨b,o,v,e,hb,hc,h1⟩:=h.at_ j hj;⟨b,o,v,e,by omega,hc,h1⟩⟩
def CaseM(w:World)(v:Value)(w':World):Prop:=∃(M:Me) (v1 v2 v3 v4 v5:Value),v=.agg #[v1,v2,v3,.int .i64 M.m.c.hand,.int .i64 M.m.g.count,.int .i64 M.m.g.next,.int .i64 M.m.g.round,v4,.int .i64 M.m.sp,v5,.int .i64 M.h]∧MeM w.heap.size w' v1 v2 v3 v4 v5 M∧SzW M∧Below w.heap.size w w'
theorem l7Case_g(A:Option Addr)(n c:Nat)(w:World)(hb:Bytes w.heap.size w A n)(hc:n≤c)(hn:n≤1048576):
  Calls Tryz.prog 28 #[.slice A n c] w (Post2 fun v w'=>CaseM w v w'):=by
 obtain⟨W0,hW,hr0,hb0,hs0⟩:=box1 w #[.slice none 0 0,.slice none 0 0,.slice none 0 0,.int .i64 0,.int .i64 0,.int .i64 0,.int .i64 0,.slice none 0 0,.int .i64 0,.slice none 0 0,.int .i64 0] 37;have HR0:=Hd hr0;have HB0:=Hd hb0;have KO:=Hd (l12Open_low w.heap.size A n c W0 (hb.keep fun q hq=>hb0.cell hq) (by omega) hc hn);clear hr0 hb0 hb
 go_enter Tryz.func28,Tryz.ntmps28
 go_wp2_with fail
 try rw[hW]
 refine KO.o.mono ?_;rintro e w1 ⟨rfl,hrd,hb1⟩;have HR1:=Hd (HR0.o.below hb1);have HB1:=Hd (bT HB0.o hb1);have HRD:=Hd hrd;have hs1:=hb1.size;have hgg:=rdr_lt hrd;clear hrd hb1 HR0 HB0 hW KO
 obtain⟨g,hg⟩:∃g,W0.heap.size=g:=⟨_,rfl⟩
 rw[hg]at HRD hgg hs1;have hgr:w.heap.size+1≤g:=by omega
 clear hs0;go_wp2_with fail
 try rw[hg]
 refine(l7Draw_g w.heap.size g 0 w1 HRD.o (by omega) (by omega)).mono ?_;rintro e w2 ⟨_,rfl,M0,f1,f2,f3,f4,f5,q2,rfl,hM2,hgd,hrd2,hq2,hg2⟩;have HR2':=Hd (own_gr HR1.o hg2 (by omega));have HG2:=Hd hg2;have HM2':=Hd hM2;have HRD2:=Hd hrd2;have HGD:=Hd hgd;have hs2:=hg2.size;clear hM2 hgd hrd2 hg2 HR1;go_wp2_with fail
 refine(l7Wrong_g w.heap.size g q2 f1 f2 f3 f4 f5 M0 w2 HRD2.o (by omega) HM2'.o HGD.o (by omega)).mono ?_;rintro e w3 ⟨_,rfl,M,v1,v2,v3,v4,v5,q3,rfl,hM,hz,hrd3,hq3,hg3⟩;have HR2:=Hd (own_gr HR2'.o hg3 (by omega));have HB2:=Hd (bG (bG HB1.o HG2.o (by intro k hk;injection hk with hk;omega)) hg3 (by intro k hk;injection hk with hk;omega));have HM2:=Hd hM;have HZ:=Hd hz;obtain⟨A1,c1,rfl,_⟩:=hM.m.t.b;obtain⟨A2,c2,rfl,_⟩:=hM.m.t.f;obtain⟨A3,c3,rfl,_⟩:=hM.m.l;obtain⟨A4,c4,rfl,_⟩:=hM.m.o;obtain⟨A5,c5,rfl,_⟩:=id hM.k;clear hM hz hrd3 hg3 HR2' HG2 HM2' HRD2 HGD HB1 HRD hg;obtain⟨q0x,q1x,q2x,q3x,q4x,q5x,q6x,q7x,q8x,q9x,q10x⟩:=c11 HR2.o;obtain⟨z0x,z1x,z2x,z3x,z4x,z5x,z6x,z7x,z8x,z9x,z10x⟩:=f11 HR2.o;have hlr:=HR2.o.lt;go_wp2;obtain⟨_,rfl,hoz,hotz,_,_,hbz⟩:=put11 HR2.o (.slice A1 M.m.t.bs.length c1) (.slice A2 M.m.t.fs.length c2) (.slice A3 M.m.c.ls.length c3) (.int .i64 M.m.c.hand) (.int .i64 M.m.g.count) (.int .i64 M.m.g.next) (.int .i64 M.m.g.round) (.slice A4 M.m.g.os.length c4) (.int .i64 M.m.sp) (.slice A5 M.mk.length c5) (.int .i64 M.h);obtain⟨q0t,q1t,q2t,q3t,q4t,q5t,q6t,q7t,q8t,q9t,q10t⟩:=c11 hoz;refine bodyPost_ret (v:=.agg #[.slice A1 M.m.t.bs.length c1,.slice A2 M.m.t.fs.length c2,.slice A3 M.m.c.ls.length c3,.int .i64 M.m.c.hand,.int .i64 M.m.g.count,.int .i64 M.m.g.next,.int .i64 M.m.g.round,.slice A4 M.m.g.os.length c4,.int .i64 M.m.sp,.slice A5 M.mk.length c5,.int .i64 M.h]) (by simp[results,Tryz.results28,go_sem,q0t,q1t,q2t,q3t,q4t,q5t,q6t,q7t,q8t,q9t,q10t]) rfl ⟨_,rfl,M,_,_,_,_,_,rfl,HM2.o.othm hotz,HZ.o,hbz w (by omega) HB2.o⟩
end Go.Proofs.YtfbnokjdkhcgoaaGreatDoor
namespace Go.Proofs
open Go.Shelf
def Tryz.ksort_ren:Go.Shelf.Ren:=⟨fun | 6=>33 | 15=>76 | 14=>75 | 28=>143 | 29=>144 | 20=>135 | 21=>136 | 22=>137 | 23=>138 | 24=>139 | 25=>140 | 26=>141 | 27=>142 | 46=>200 | 47=>201 | 48=>202 | 49=>203 | 50=>204 | 57=>229 | n=>n,fun | 22=>41 | 24=>54 | 25=>85 | 3=>3 | 39=>124 | 0=>0 | 53=>180 | 55=>153 | 4=>4 | 46=>174 | 45=>173 | 50=>39 | 5=>5 | 9=>9 | 66=>216 | 70=>220 | 76=>247 | 77=>103 | n=>n,fun | n=>n⟩
theorem Tryz.ksort:Go.Proofs.SlLaysF0.n6 Tryz.prog Tryz.ksort_ren:={
 mixed:=by kernel_rfl
 f6:=⟨Tryz.f33.name,by decide,Tryz.func33.trans (congrArg some (by kernel_rfl))⟩
 f14:=⟨Tryz.f75.name,by decide,Tryz.func75.trans (congrArg some (by kernel_rfl))⟩
 f15:=Tryz.func76.trans (congrArg some (by kernel_rfl))
 f20:=⟨Tryz.f135.name,by decide,Tryz.func135.trans (congrArg some (by kernel_rfl))⟩
 f21:=⟨Tryz.f136.name,by decide,Tryz.func136.trans (congrArg some (by kernel_rfl))⟩
 f22:=⟨Tryz.f137.name,by decide,Tryz.func137.trans (congrArg some (by kernel_rfl))⟩
 f23:=⟨Tryz.f138.name,by decide,Tryz.func138.trans (congrArg some (by kernel_rfl))⟩
 f24:=⟨Tryz.f139.name,by decide,Tryz.func139.trans (congrArg some (by kernel_rfl))⟩
 f25:=⟨Tryz.f140.name,by decide,Tryz.func140.trans (congrArg some (by kernel_rfl))⟩
 f26:=⟨Tryz.f141.name,by decide,Tryz.func141.trans (congrArg some (by kernel_rfl))⟩
 f27:=⟨Tryz.f142.name,by decide,Tryz.func142.trans (congrArg some (by kernel_rfl))⟩
 f28:=Tryz.func143.trans (congrArg some (by kernel_rfl))
 f29:=Tryz.func144.trans (congrArg some (by kernel_rfl))
 f46:=⟨Tryz.f200.name,by decide,Tryz.func200.trans (congrArg some (by kernel_rfl))⟩
 f47:=Tryz.func201.trans (congrArg some (by kernel_rfl))
 f48:=Tryz.func202.trans (congrArg some (by kernel_rfl))
 f49:=⟨Tryz.f203.name,by decide,Tryz.func203.trans (congrArg some (by kernel_rfl))⟩
 f50:=⟨Tryz.f204.name,by decide,Tryz.func204.trans (congrArg some (by kernel_rfl))⟩
 f57:=⟨Tryz.f229.name,by decide,Tryz.func229.trans (congrArg some (by kernel_rfl))⟩
 t0:=Tryz.underlying0
 a0:=Tryz.isAgg0
 z0:=Tryz.sizeOf0
 v0:=Tryz.zeroValue0
 t3:=Tryz.underlying3
 a3:=Tryz.isAgg3
 z3:=Tryz.sizeOf3
 v3:=Tryz.zeroValue3
 t4:=Tryz.underlying4
 a4:=Tryz.isAgg4
 z4:=Tryz.sizeOf4
 v4:=Tryz.zeroValue4
 t5:=Tryz.underlying5
 a5:=Tryz.isAgg5
 z5:=Tryz.sizeOf5
 v5:=Tryz.zeroValue5
 t9:=Tryz.underlying9
 a9:=Tryz.isAgg9
 z9:=Tryz.sizeOf9
 v9:=Tryz.zeroValue9
 t22:=Tryz.underlying41
 a22:=Tryz.isAgg41
 z22:=Tryz.sizeOf41
 v22:=Tryz.zeroValue41
 t25:=Tryz.underlying85
 a25:=Tryz.isAgg85
 z25:=Tryz.sizeOf85
 v25:=Tryz.zeroValue85
 t39:=Tryz.underlying124
 a39:=Tryz.isAgg124
 z39:=Tryz.sizeOf124
 v39:=Tryz.zeroValue124
 t45:=Tryz.underlying173
 a45:=Tryz.isAgg173
 z45:=Tryz.sizeOf173
 v45:=Tryz.zeroValue173
 t46:=Tryz.underlying174
 a46:=Tryz.isAgg174
 z46:=Tryz.sizeOf174
 v46:=Tryz.zeroValue174
 t50:=Tryz.underlying39
 a50:=Tryz.isAgg39
 z50:=Tryz.sizeOf39
 v50:=Tryz.zeroValue39
 t53:=Tryz.underlying180
 a53:=Tryz.isAgg180
 z53:=Tryz.sizeOf180
 v53:=Tryz.zeroValue180
 t55:=Tryz.underlying153
 a55:=Tryz.isAgg153
 z55:=Tryz.sizeOf153
 v55:=Tryz.zeroValue153
 t66:=Tryz.underlying216
 a66:=Tryz.isAgg216
 z66:=Tryz.sizeOf216
 v66:=Tryz.zeroValue216
 t70:=Tryz.underlying220
 a70:=Tryz.isAgg220
 z70:=Tryz.sizeOf220
 v70:=Tryz.zeroValue220
 t76:=Tryz.underlying247
 a76:=Tryz.isAgg247
 z76:=Tryz.sizeOf247
 v76:=Tryz.zeroValue247
 t77:=Tryz.underlying103
 a77:=Tryz.isAgg103
 z77:=Tryz.sizeOf103
 v77:=Tryz.zeroValue103}
end Go.Proofs
