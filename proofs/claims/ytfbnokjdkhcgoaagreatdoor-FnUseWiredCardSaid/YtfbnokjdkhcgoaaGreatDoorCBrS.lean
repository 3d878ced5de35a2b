/- A part of the proofs of this seat. -/
import Derived.Test.YtfbnokjdkhcgoaaGreatDoorCUpI
set_option linter.unusedVariables false
set_option linter.unusedSimpArgs false
set_option maxRecDepth 1000000
set_option maxHeartbeats 16000000
namespace Go.Proofs.YtfbnokjdkhcgoaaGreatDoor
open Go.RowKit
theorem brO_none{M:Me}{p r:Int}(h:brN M=none):brO M p r=none:=by unfold brO;rw[h]
theorem brO_some{M X:Me}{a:Nat}{p r:Int}(h:brN M=some (X,a)):brO M p r=if putOK X.m (keyI M.m.sp p) p a r=true then some ⟨putV X.m (keyI M.m.sp p) p a r,X.mk,X.h⟩else none:=by
 unfold brO;rw[h];rfl
theorem set_same{mk:List Bool}{i:Nat}{b:Bool}(h:mk[i]?=some b):mk.set i b=mk:=by
 refine List.ext_getElem? fun j=> ?_
 rw[List.getElem?_set];split
 ·rename_i e;subst e;split
  ·exact h.symm
  ·rename_i hn;rw[List.getElem?_eq_none (by omega)]
 ·rfl
theorem l7Bring_any(vb vf vl vo vk:Value)(M:Me)(p r:Int)(w:World)(hM:MeR w vb vf vl vo vk M)(hv:mev M=true):
  Calls Tryz.prog 53 #[.agg #[vb,vf,vl,.int .i64 M.m.c.hand,.int .i64 M.m.g.count,.int .i64 M.m.g.next,.int .i64 M.m.g.round,vo,.int .i64 M.m.sp,vk,.int .i64 M.h],.int .i64 p,.int .i64 r] w (Post2 fun v w'=>∃v1 v2 v3 v4 v5 N ok,v=.tuple #[.agg #[v1,v2,v3,.int .i64 N.m.c.hand,.int .i64 N.m.g.count,.int .i64 N.m.g.next,.int .i64 N.m.g.round,v4,.int .i64 N.m.sp,v5,.int .i64 N.h],.bool ok]∧MeM w.heap.size w' v1 v2 v3 v4 v5 N∧(brO M p r=if ok=true then some N else none)∧Below w.heap.size w w'):=by
 have HM:=Hd hM;clear hM;obtain⟨W0,hW,hbx,hbo,hb0,hs0⟩:=box2 w #[vb,vf,vl,.int .i64 M.m.c.hand,.int .i64 M.m.g.count,.int .i64 M.m.g.next,.int .i64 M.m.g.round,vo,.int .i64 M.m.sp,vk,.int .i64 M.h] 37 #[.slice none 0 0,.slice none 0 0,.slice none 0 0,.int .i64 0,.int .i64 0,.int .i64 0,.int .i64 0,.slice none 0 0,.int .i64 0,.slice none 0 0,.int .i64 0] 37;have HX0:=Hd hbx;have HO0:=Hd hbo;have HB0:=Hd hb0;clear hbx hbo hb0;obtain⟨a1,a2,a3,a4,a5,a6⟩:=mev_len hv;obtain⟨q0a,q1a,q2a,q3a,q4a,q5a,q6a,q7a,q8a,q9a,q10a⟩:=c11 HX0.o
 go_enter Tryz.func53,Tryz.ntmps53
 go_wp2_with fail
 refine(l7Copy_any vb vf vl vo vk M _ (HM.o.now HB0.o) a1 a2 a3 a4 (by omega) a6).mono ?_;rintro e w3 ⟨_,rfl,q1,q2,q3,q4,q5,rfl,hM3,hb3⟩;clear q0a q1a q2a q3a q4a q5a q6a q7a q8a q9a q10a;clear hW;have hM3':=hM3.mono (show w.heap.size+2≤W0.heap.size by omega);obtain⟨A1,c1,A2,c2,A3,c3,A4,c4,g5,c5,rfl,rfl,rfl,rfl,rfl⟩:=hM3'.open a6;obtain⟨w4,hW4,ho4,hb4,hs4⟩:=box1 w3 #[.slice A1 M.m.t.bs.length c1,.slice A2 M.m.t.fs.length c2,.slice A3 M.m.c.ls.length c3,.int .i64 M.m.c.hand,.int .i64 M.m.g.count,.int .i64 M.m.g.next,.int .i64 M.m.g.round,.slice A4 M.m.g.os.length c4,.int .i64 M.m.sp,.slice (some ⟨g5,0,none⟩) M.mk.length c5,.int .i64 M.h] 37
 have U4:Hi (Us w w3.heap.size (.slice A1 M.m.t.bs.length c1) (.slice A2 M.m.t.fs.length c2) (.slice A3 M.m.c.ls.length c3) (.slice A4 M.m.g.os.length c4) (.slice (some ⟨g5,0,none⟩) M.mk.length c5) M w4):=⟨ho4,hM3'.now hb4,(HO0.o.below hb3).below hb4,bT (bT HB0.o hb3) hb4⟩
 have HX4:=Hd ((HX0.o.below hb3).below hb4);have hG:w.heap.size+2≤w3.heap.size:=by have:=hb3.size;omega
 have HV1:=Hd hv;have HMV:=Hd (mev_MEV.1 hv);clear hM3 hM3' hb3 ho4 hb4 hv HX0 HO0 HB0;go_upto_region 2 with fail
 try rw[hW4]
 clear hW4;have n0:=HX4.c 0 (vb) rfl;have n1:=HX4.c 1 (vf) rfl;go_wp2_with fail
 refine(l7Free_any vb vf M.m.t _ (HM.o.m.t.now U4.o.bl) a2).mono ?_;rintro e w5 ⟨rfl,hb5⟩;have U5:=Hd (U4.o.below hb5);have HX5:=Hd (HX4.o.below hb5);clear n0 n1 hb5 U4 HX4 hs4
 obtain⟨FI,hFI⟩:∃FI,ffI M.m.t.fs=FI:=⟨_,rfl⟩
 rw[hFI];have HFI:=Hd hFI;clear hFI;go_upto_if 21 with fail
 go_cut [9]from 10 (fun u wx=>∃(X:Me) (a:Nat) (v1 v2 v3 v4 v5:Value),u=.int .i64 a∧Hi (brN M=some (X,a))∧Hi (Us w w3.heap.size v1 v2 v3 v4 v5 X wx))
 case first=>
  by_cases hz:FI<0
  ·have hffn:ffr M.m.t.fs=none:=ffr_neg (by rw[HFI.o];omega);have HFN:=Hd hffn;clear hffn;obtain⟨q0o,q1o,q2o,q3o,q4o,q5o,q6o,q7o,q8o,q9o,q10o⟩:=c11 HX5.o;have HCL:=Hd (l7Clock_any vb vf vl vo vk M _ (HM.o.now U5.o.bl) HV1.o);go_wp2_with fail
   refine HCL.o.mono ?_;rintro e w8 ⟨_,rfl,q1,q2,q3,q4,q5,N0,a0,rfl,hM9,hc1,hc2,hb8⟩;clear q0o q1o q2o q3o q4o q5o q6o q7o q8o q9o q10o;clear HCL;have hln0:1≤N0.mk.length∨N0.mk.length=0:=by omega
   have HC1:=Hd hc1;have HC2:=Hd hc2;clear hc1 hc2;have hM9':=hM9.mono (show w.heap.size+2≤w5.heap.size by have:=U5.o.ob.lt;omega);obtain⟨D1,r1,rfl,_⟩:=id hM9'.m.t.b;obtain⟨D2,r2,rfl,_⟩:=id hM9'.m.t.f;obtain⟨D3,r3,rfl,_⟩:=id hM9'.m.l;obtain⟨D4,r4,rfl,_⟩:=id hM9'.m.o;obtain⟨D5,r6,rfl,_⟩:=id hM9'.k;have U8:=Hd (U5.o.below hb8);have HMB:=Hd hM9';clear hM9 hM9' hb8 U5 HX5;obtain⟨z0x,z1x,z2x,z3x,z4x,z5x,z6x,z7x,z8x,z9x,z10x⟩:=f11 U8.o.ob;obtain⟨q0x,q1x,q2x,q3x,q4x,q5x,q6x,q7x,q8x,q9x,q10x⟩:=c11 U8.o.ob;have hlo:=U8.o.ob.lt;obtain⟨w9,hW9,u9,hs9,hfar9⟩:=U8.o.all hG HMB.o;go_upto_region 5 with fail
   try rw[hW9]
   clear q0x q1x q2x q3x q4x q5x q6x q7x q8x q9x q10x;clear z0x z1x z2x z3x z4x z5x z6x z7x z8x z9x z10x;have U9:=Hd u9;clear hW9 hfar9 u9 U8 HMB hlo hs9
   cases hc:clR M with
   | none=>
    have ha0:=HC2.o hc;subst ha0;have HBN:=Hd (brO_none (p:=p) (r:=r) (br_none HFN.o hc));clear HC1 HC2 hc;have HRR:=Hd U9.o.rb;have HBB:=Hd U9.o.bl;obtain⟨q0x,q1x,q2x,q3x,q4x,q5x,q6x,q7x,q8x,q9x,q10x⟩:=c11 HRR.o;obtain⟨z0x,z1x,z2x,z3x,z4x,z5x,z6x,z7x,z8x,z9x,z10x⟩:=f11 HRR.o;have hlr:=HRR.o.lt;go_wp2;obtain⟨_,rfl,hoz,_,_,_,_⟩:=put11 HRR.o (.slice none 0 0) (.slice none 0 0) (.slice none 0 0) (.int .i64 0) (.int .i64 0) (.int .i64 0) (.int .i64 0) (.slice none 0 0) (.int .i64 0) (.slice none 0 0) (.int .i64 0);obtain⟨q0t,q1t,q2t,q3t,q4t,q5t,q6t,q7t,q8t,q9t,q10t⟩:=c11 hoz;refine bodyPost_ret (v:=.tuple #[.agg #[.slice none 0 0,.slice none 0 0,.slice none 0 0,.int .i64 0,.int .i64 0,.int .i64 0,.int .i64 0,.slice none 0 0,.int .i64 0,.slice none 0 0,.int .i64 0],.bool false]) (by simp[results,Tryz.results53,go_sem,q0t,q1t,q2t,q3t,q4t,q5t,q6t,q7t,q8t,q9t,q10t]) rfl ⟨_,rfl,_,_,_,_,_,mez,false,rfl,mem_z,by rw[HBN.o];rfl, ?_⟩;repeat (refine bS ?_ (by simp<;>omega))
    exact HBB.o
   | some rr=>
    obtain⟨mk,hd,a⟩:=rr;obtain⟨hN0,ha0⟩:=HC1.o mk hd a hc;subst ha0;have hcl:=HMV.o.clk hc;obtain⟨f,ef,hu⟩:=usedAt_iff.1 hcl.us;have htk:=HMV.o.m.takO ef hu;have HBR:=Hd (br_vic HFN.o hc ef);have hln:mk.length=M.mk.length:=hcl.ln;have hal:a<M.mk.length:=hcl.at_;have hno:=hcl.no;have e1:N0.m=M.m:=by rw[hN0]
    have e2:N0.mk=mk:=by rw[hN0]
    have e3:N0.h=(hd:Int):=by rw[hN0]
    rw[←e1]at ef htk;simp only at hno;rw[←e2]at hno;have HEF:=Hd ef;have HNO:=Hd hno;have hfl:a<N0.m.t.fs.length:=(List.getElem?_eq_some_iff.1 ef).1;have hmkl:1≤N0.mk.length:=by rw[e2,hln];exact a6
    have hml:a<N0.mk.length:=by rw[e2,hln];exact hal
    obtain⟨T,hT⟩:∃T,takV N0.m f.s f.p=T:=⟨_,rfl⟩
    rw[←e1,←e2,←e3,hT]at HBR;have HTO:=Hd (And.intro htk hT);clear hN0 hcl hu htk ef hln hal hno e1 e2 e3 hT hc HC1 HC2 hln0;obtain⟨g6,r6',e5⟩:=U9.o.mm.mk5 hmkl;injection e5 with e5 _ e6;subst e5 e6;obtain⟨w9b,hW9b,u9b,hs9b⟩:=U9.o.mark HNO.o false;rw[set_same HNO.o]at u9b;obtain⟨d0,d1,d2⟩:=U9.o.fz HNO.o;have n9:=U9.o.ob.cell_ 9 (v:=.slice (some ⟨g6,0,none⟩) N0.mk.length r6) rfl;have hlo:=U9.o.ob.lt;go_upto_region 8 with fail
    try rw[hW9b]
    clear hW9b d0 d1 d2 n9 hlo U9 hs9b
    obtain⟨w9,rfl⟩:∃w9,w9=w9b:=⟨_,rfl⟩
    have U9:Hi (Us w w3.heap.size (.slice D1 N0.m.t.bs.length r1) (.slice D2 N0.m.t.fs.length r2) (.slice D3 N0.m.c.ls.length r3) (.slice D4 N0.m.g.os.length r4) (.slice (some ⟨g6,0,none⟩) N0.mk.length r6) N0 w9):=u9b;clear u9b;obtain⟨bf,of_,e0,hbf,_⟩:=(slm_is U9.o.mm.m.t.f).fr HEF.o;subst e0;have hsw9:=U9.o.ob.lt;have hbw9:w.heap.size≤w9.heap.size:=U9.o.bl.size;have HTP:=Hd (fun(v:World) (e1 e2 e3 e4:Value) (h:MaR v e1 e2 e3 e4 N0.m) (hb:Below w9.heap.size w9 v)=>sTakePage_any e1 e2 e3 e4 N0.m f.s f.p v h);rw[HTO.o.1,HTO.o.2]at HTP;refine wp_region_kp (by kernel_rfl) [35,36,37,38,39,40,41,42,43,44,45,34,46,47,10,11] [35,36,37,38,39,40,41,42,43,44,45,34,46,47,10,10,11] 34 (fun g=>g<w9.heap.size) (w9.heap.size) 15 [KP.eq (.pointer (some ⟨w3.heap.size,0,none⟩)),KP.eq (.agg #[.slice D1 N0.m.t.bs.length r1,.slice (some ⟨bf,of_,none⟩) N0.m.t.fs.length r2,.slice D3 N0.m.c.ls.length r3,.int .i64 N0.m.c.hand,.int .i64 N0.m.g.count,.int .i64 N0.m.g.next,.int .i64 N0.m.g.round,.slice D4 N0.m.g.os.length r4,.int .i64 N0.m.sp]),KP.eq (.pointer (some ⟨w3.heap.size,0,none⟩)),KP.eq (.pointer (some ⟨w3.heap.size,0,none⟩)),KP.eq (.pointer (some ⟨w3.heap.size,1,none⟩)),KP.eq (.slice (some ⟨bf,of_,none⟩) N0.m.t.fs.length r2),KP.eq (.int .i64 (a:Int)),KP.eq (.pointer (some ⟨bf,of_+a*5,none⟩)),KP.eq (.pointer (some ⟨bf,of_+a*5+1,none⟩)),KP.eq (.agg #[.int .i64 f.s,.int .i64 f.p]),KP.tup okT_ma (w9.heap.size) (T) [.bool true],KP.tup okT_ma (w9.heap.size) (T) [.bool true],KP.ma okT_ma (w9.heap.size) (T),KP.eq (.bool true),KP.box (w9.heap.size) 9,KP.eq (.bool true),KP.eq (.bool true)] (fun u v=>∃g e1 e2 e3 e4,u=.pointer (some ⟨g,0,none⟩)∧w9.heap.size≤g∧Own v g 34 #[e1,e2,e3,.int .i64 T.c.hand,.int .i64 T.g.count,.int .i64 T.g.next,.int .i64 T.g.round,e4,.int .i64 T.sp]∧MaM (w9.heap.size) v e1 e2 e3 e4 T) (fun v=>(Below (w9.heap.size) w9 v)∧(Own v (w3.heap.size) 37 #[.slice D1 N0.m.t.bs.length r1,.slice (some ⟨bf,of_,none⟩) N0.m.t.fs.length r2,.slice D3 N0.m.c.ls.length r3,.int .i64 N0.m.c.hand,.int .i64 N0.m.g.count,.int .i64 N0.m.g.next,.int .i64 N0.m.g.round,.slice D4 N0.m.g.os.length r4,.int .i64 N0.m.sp,.slice (some ⟨g6,0,none⟩) N0.mk.length r6,.int .i64 N0.h])∧(MeM (w.heap.size+2) v (.slice D1 N0.m.t.bs.length r1) (.slice (some ⟨bf,of_,none⟩) N0.m.t.fs.length r2) (.slice D3 N0.m.c.ls.length r3) (.slice D4 N0.m.g.os.length r4) (.slice (some ⟨g6,0,none⟩) N0.mk.length r6) N0)) (by kernel_rfl) rfl ⟨bD bR,U9.o.ob.drew,U9.o.mm.now (bD bR)⟩ (fun v h=>Nat.le_trans (by omega) h.1.size) (fun v v' ht ⟨hb,h_o,hmm⟩=>⟨hb.trans ht.bel,ht.oth.2 _ _ _ h_o (by decide),hmm.tS okT_ma ht⟩) (fun u v v' hb ⟨g,e1,e2,e3,e4,h1,h2,h3,h4⟩=>⟨g,e1,e2,e3,e4,h1,h2,h3.below hb,h4.now hb⟩) ?_ ?_
    ·intro i o ho x v hC hd K hK
     match i,ho with
     | 0,ho=>
      cases ho;simp only[fillA,Act.put,sA9,sB9,sC9]at hK⊢;go_simp;exact hK _ _ kpT_same rfl
     | 1,ho=>
      cases ho;simp only[fillA,Act.put,sA9,sB9,sC9]at hK⊢;obtain⟨hbw,hx_o,hmm⟩:=hC;obtain⟨z0,z1,z2,z3,z4,z5,z6,z7,z8,z9,z10⟩:=c11 hx_o;have d0:=hd 0 ⟨⟨0,.data⟩,by simp,rfl,rfl⟩ (by decide);change x 35=.pointer (some ⟨w3.heap.size,0,none⟩)at d0;simp only[d0]at hK⊢;go_simp;exact hK _ _ kpT_same rfl
     | 2,ho=>
      cases ho;simp only[fillA,Act.put,sA9,sB9,sC9]at hK⊢;go_simp;exact hK _ _ kpT_same rfl
     | 3,ho=>
      cases ho;simp only[fillA,Act.put,sA9,sB9,sC9]at hK⊢;have d0:=hd 2 ⟨⟨2,.data⟩,by simp,rfl,rfl⟩ (by decide);change x 37=.pointer (some ⟨w3.heap.size,0,none⟩)at d0;simp only[d0]at hK⊢;go_simp;exact hK _ _ kpT_same rfl
     | 4,ho=>
      cases ho;simp only[fillA,Act.put,sA9,sB9,sC9]at hK⊢;have d0:=hd 3 ⟨⟨3,.data⟩,by simp,rfl,rfl⟩ (by decide);change x 38=.pointer (some ⟨w3.heap.size,0,none⟩)at d0;simp only[d0]at hK⊢;go_simp;exact hK _ _ kpT_same rfl
     | 5,ho=>
      cases ho;simp only[fillA,Act.put,sA9,sB9,sC9]at hK⊢;obtain⟨hbw,hx_o,hmm⟩:=hC;have z1:=hx_o.cell_ 1 (v:=.slice (some ⟨bf,of_,none⟩) N0.m.t.fs.length r2) rfl;have d0:=hd 4 ⟨⟨4,.data⟩,by simp,rfl,rfl⟩ (by decide);change x 39=.pointer (some ⟨w3.heap.size,1,none⟩)at d0;simp only[d0]at hK⊢;go_simp;exact hK _ _ kpT_same rfl
     | 6,ho=>
      cases ho;simp only[fillA,Act.put,sA9,sB9,sC9]at hK⊢;go_simp;exact hK _ _ kpT_same rfl
     | 7,ho=>
      cases ho;simp only[fillA,Act.put,sA9,sB9,sC9]at hK⊢;have d0:=hd 5 ⟨⟨5,.data⟩,by simp,rfl,rfl⟩ (by decide);change x 40=.slice (some ⟨bf,of_,none⟩) N0.m.t.fs.length r2 at d0;have d1:=hd 6 ⟨⟨6,.data⟩,by simp,rfl,rfl⟩ (by decide);change x 41=.int .i64 (a:Int)at d1;simp only[d0,d1]at hK⊢;have hi0:(0:Int)≤(a:Int):=by omega
      go_simp
      exact hK _ _ kpT_same rfl
     | 8,ho=>
      cases ho;simp only[fillA,Act.put,sA9,sB9,sC9]at hK⊢;have d0:=hd 7 ⟨⟨7,.data⟩,by simp,rfl,rfl⟩ (by decide);change x 42=.pointer (some ⟨bf,of_+a*5,none⟩)at d0;simp only[d0]at hK⊢;go_simp;exact hK _ _ kpT_same rfl
     | 9,ho=>
      cases ho;simp only[fillA,Act.put,sA9,sB9,sC9]at hK⊢;obtain⟨hbw,hx_o,hmm⟩:=hC;obtain⟨bq,oq,eq,_,y0,y1,y2,y3,y4⟩:=(slm_is hmm.m.t.f).fr HEF.o;injection eq with eq;injection eq with eq1 eq2 _;subst eq1 eq2;have d0:=hd 8 ⟨⟨8,.data⟩,by simp,rfl,rfl⟩ (by decide);change x 43=.pointer (some ⟨bf,of_+a*5+1,none⟩)at d0;simp only[d0]at hK⊢;go_simp;exact hK _ _ kpT_same rfl
     | 10,ho=>
      cases ho;simp only[fillA,Act.put,sA9,sB9,sC9]at hK⊢;obtain⟨hbw,hx_o,hmm⟩:=hC;have d0:=hd 1 ⟨⟨1,.data⟩,by simp,rfl,rfl⟩ (by decide);change x 36=.agg #[.slice D1 N0.m.t.bs.length r1,.slice (some ⟨bf,of_,none⟩) N0.m.t.fs.length r2,.slice D3 N0.m.c.ls.length r3,.int .i64 N0.m.c.hand,.int .i64 N0.m.g.count,.int .i64 N0.m.g.next,.int .i64 N0.m.g.round,.slice D4 N0.m.g.os.length r4,.int .i64 N0.m.sp]at d0;have d1:=hd 9 ⟨⟨9,.data⟩,by simp,rfl,rfl⟩ (by decide);change x 44=.agg #[.int .i64 f.s,.int .i64 f.p]at d1;simp only[d0,d1]at hK⊢;go_wp2_with fail
      refine(HTP.o v _ _ _ _ hmm.m.r hbw).mono ?_;rintro e v' ⟨_,rfl,f1,f2,f3,f4,rfl,hm1,hb⟩;go_simp;exact hK _ _ (kpT_below (by decide) hb) ⟨_,_,_,_,rfl,hm1.mono hbw.size⟩
     | 11,ho=>
      cases ho;simp only[fillA,Act.put,sA9,sB9,sC9]at hK⊢;have d0:=hd 10 ⟨⟨10,.data⟩,by simp,rfl,rfl⟩ (by decide);obtain⟨e1,e2,e3,e4,d0,hmX⟩:=d0;change x 45=_ at d0;simp only[d0]at hK⊢;go_simp;exact hK _ _ kpT_same ⟨_,_,_,_,rfl,hmX⟩
     | 12,ho=>
      cases ho;simp only[fillA,Act.put,sA9,sB9,sC9]at hK⊢;have d0:=hd 11 ⟨⟨11,.data⟩,by simp,rfl,rfl⟩ (by decide);obtain⟨e1,e2,e3,e4,d0,hmX⟩:=d0;change x 34=_ at d0;simp only[d0]at hK⊢;go_simp;exact hK _ _ kpT_same ⟨_,_,_,_,rfl,hmX⟩
     | 13,ho=>
      cases ho;simp only[fillA,Act.put,sA9,sB9,sC9]at hK⊢;have d0:=hd 11 ⟨⟨11,.data⟩,by simp,rfl,rfl⟩ (by decide);obtain⟨e1,e2,e3,e4,d0,hmX⟩:=d0;change x 34=_ at d0;simp only[d0]at hK⊢;go_simp;exact hK _ _ kpT_same rfl
     | 14,ho=>
      cases ho;simp only[fillA,Act.put,sA9,sB9,sC9]at hK⊢;go_simp;exact hK _ _ (kpT_below (by decide) (bA bR)) ⟨_,_,rfl,(by have:=hC.1.size;omega),rfl,Own.new_ _ _ _⟩
     | 15,ho=>
      cases ho;simp only[fillA,Act.put,sA9,sB9,sC9]at hK⊢;have d11:=hd 14 ⟨⟨14,.data⟩,by simp,rfl,rfl⟩ (by decide);obtain⟨gb,cb,d11,hgb,hnb,hob⟩:=d11;change x 10=_ at d11;have d9:=hd 12 ⟨⟨12,.data⟩,by simp,rfl,rfl⟩ (by decide);obtain⟨e1,e2,e3,e4,d9,hmX⟩:=d9;change x 46=_ at d9;obtain⟨E1,s1,E2,s2,E3,s3,E4,s4,rfl,rfl,rfl,rfl⟩:=hmX.open;obtain⟨a0,a1,a2,a3,a4,a5,a6,a7,a8,rfl⟩:=arr9 hnb;obtain⟨y0,y1,y2,y3,y4,y5,y6,y7,y8⟩:=cells9 hob;obtain⟨z0,z1,z2,z3,z4,z5,z6,z7,z8⟩:=free9 hob;have hlo:=hob.lt;simp only[d9,d11]at hK⊢;go_simp;have hS:tS 34 (fun g=>g<w9.heap.size) (w9.heap.size) v (sets gb 0 [.slice E1 T.t.bs.length s1,.slice E2 T.t.fs.length s2,.slice E3 T.c.ls.length s3,.int .i64 T.c.hand,.int .i64 T.g.count,.int .i64 T.g.next,.int .i64 T.g.round,.slice E4 T.g.os.length s4,.int .i64 T.sp] v):=tS.sets hob hgb (by omega) 0 _;refine hK undef _ (kpT_store hS) ⟨gb,_,_,_,_,d11,hgb,hob.set9 (.slice E1 T.t.bs.length s1) (.slice E2 T.t.fs.length s2) (.slice E3 T.c.ls.length s3) (.int .i64 T.c.hand) (.int .i64 T.g.count) (.int .i64 T.g.next) (.int .i64 T.g.round) (.slice E4 T.g.os.length s4) (.int .i64 T.sp),hmX.tS okT_ma hS⟩
     | 16,ho=>
      cases ho;simp only[fillA,Act.put,sA9,sB9,sC9]at hK⊢;have d0:=hd 13 ⟨⟨13,.data⟩,by simp,rfl,rfl⟩ (by decide);change x 47=.bool true at d0;simp only[d0]at hK⊢;go_simp;exact hK _ _ kpT_same rfl
     | _+17,ho=>simp at ho
    intro xa wz hC hd;obtain⟨g9,e1,e2,e3,e4,dS,hg9,ho9,hm9⟩:=hd 15 (by decide);change xa 10=_ at dS;obtain⟨hbz,hoz,hmz⟩:=hC;have dL11:=hd 16 (by decide);change xa 11=.bool true at dL11;simp only[fillA,Act.put,sA9,sB9,sC9,dS,dL11];clear hd dS dL11;have U10:=Hd (U9.o.below hbz);clear hbz hoz hmz HTP;obtain⟨E1,s1,E2,s2,E3,s3,E4,s4,rfl,rfl,rfl,rfl⟩:=hm9.open;obtain⟨y0,y1,y2,y3,y4,y5,y6,y7,y8⟩:=cells9 ho9;obtain⟨q0x,q1x,q2x,q3x,q4x,q5x,q6x,q7x,q8x,q9x,q10x⟩:=c11 U10.o.ob;obtain⟨z0x,z1x,z2x,z3x,z4x,z5x,z6x,z7x,z8x,z9x,z10x⟩:=f11 U10.o.ob;have hlo:=U10.o.ob.lt;have hlq:=(ho9).lt;obtain⟨_,rfl,u11,hs11,hfar11⟩:=U10.o.mach hG (MaM.mono hm9 (show w.heap.size+2≤w9.heap.size by omega));go_wp2;go_meet
    exact⟨⟨T,N0.mk,N0.h⟩,a,_,_,_,_,_,rfl,HBR,Hd u11⟩
  ·obtain⟨k,hk⟩:=Int.eq_ofNat_of_zero_le (show 0≤FI by omega);have h0:0≤ffI M.m.t.fs:=by rw[HFI.o];omega
   obtain⟨k',hk',hf,_⟩:=ffI_lt h0;rw[HFI.o]at hk';have HBR:=Hd (br_free hf);clear hf h0 hk;subst hk';go_wp2;go_meet
   exact⟨M,k',_,_,_,_,_,rfl,HBR,U5⟩
 case rest=>
  obtain⟨X,a,v1,v2,v3,v4,v5,rfl,HBR,UX⟩:=hcut;have hbx:=brN_at HMV.o HBR.o;have hswc:=UX.o.ob.lt;have hmkx:1≤X.mk.length:=by rw[hbx.2.1];exact a6
  have hspx:X.m.sp=M.m.sp:=hbx.2.2.2.1;obtain⟨D1,r1,D2,r2,D3,r3,D4,r4,g6,r6,rfl,rfl,rfl,rfl,rfl⟩:=UX.o.mm.open hmkx;have hkf:=fun v=>sKeyFor_any X.m.sp p v
  rw[show keyI X.m.sp p=keyI M.m.sp p by rw[hspx]]at hkf;have HKF:=Hd hkf;have hpp:=fun(v:World) (e1 e2 e3 e4:Value) (h:MaR v e1 e2 e3 e4 X.m)=>sPutPage_any e1 e2 e3 e4 X.m (keyI M.m.sp p) p a r v h
  obtain⟨P,hP⟩:∃P,putV X.m (keyI M.m.sp p) p a r=P:=⟨_,rfl⟩
  obtain⟨PO,hPO⟩:∃PO,putOK X.m (keyI M.m.sp p) p a r=PO:=⟨_,rfl⟩
  rw[hP,hPO]at hpp;have HPP:=Hd hpp;have hbr:=brO_some (p:=p) (r:=r) HBR.o;rw[hP,hPO]at hbr;have HBO:=Hd hbr;clear hP hPO hbx hspx hkf hpp hbr U5 HX5;have hbwc:w.heap.size≤wc.heap.size:=UX.o.bl.size;go_upto_region 10 with fail
  refine wp_region_kp (by kernel_rfl) [51,52,53,54,55,56,57,58,59,60,50,61,62,12,13] [51,52,53,54,55,56,57,58,59,60,50,61,62,12,12,13] 34 (fun g=>g<wc.heap.size) (wc.heap.size) 14 [KP.eq (.pointer (some ⟨w3.heap.size,0,none⟩)),KP.eq (.agg #[.slice D1 X.m.t.bs.length r1,.slice D2 X.m.t.fs.length r2,.slice D3 X.m.c.ls.length r3,.int .i64 X.m.c.hand,.int .i64 X.m.g.count,.int .i64 X.m.g.next,.int .i64 X.m.g.round,.slice D4 X.m.g.os.length r4,.int .i64 X.m.sp]),KP.eq (.pointer (some ⟨w3.heap.size,0,none⟩)),KP.eq (.pointer (some ⟨w3.heap.size,8,none⟩)),KP.eq (.int .i64 X.m.sp),KP.eq (.int .i64 p),KP.eq (.agg #[.int .i64 (keyI M.m.sp p),.int .i64 p]),KP.eq (.int .i64 (a:Int)),KP.eq (.int .i64 r),KP.tup okT_ma (wc.heap.size) (P) [.bool PO],KP.tup okT_ma (wc.heap.size) (P) [.bool PO],KP.ma okT_ma (wc.heap.size) (P),KP.eq (.bool PO),KP.box (wc.heap.size) 9,KP.eq (.bool true),KP.eq (.bool PO)] (fun u v=>∃g e1 e2 e3 e4,u=.pointer (some ⟨g,0,none⟩)∧wc.heap.size≤g∧Own v g 34 #[e1,e2,e3,.int .i64 P.c.hand,.int .i64 P.g.count,.int .i64 P.g.next,.int .i64 P.g.round,e4,.int .i64 P.sp]∧MaM (wc.heap.size) v e1 e2 e3 e4 P) (fun v=>(Below (wc.heap.size) wc v)∧(Own v (w3.heap.size) 37 #[.slice D1 X.m.t.bs.length r1,.slice D2 X.m.t.fs.length r2,.slice D3 X.m.c.ls.length r3,.int .i64 X.m.c.hand,.int .i64 X.m.g.count,.int .i64 X.m.g.next,.int .i64 X.m.g.round,.slice D4 X.m.g.os.length r4,.int .i64 X.m.sp,.slice (some ⟨g6,0,none⟩) X.mk.length r6,.int .i64 X.h])∧(MeM (w.heap.size+2) v (.slice D1 X.m.t.bs.length r1) (.slice D2 X.m.t.fs.length r2) (.slice D3 X.m.c.ls.length r3) (.slice D4 X.m.g.os.length r4) (.slice (some ⟨g6,0,none⟩) X.mk.length r6) X)) (by kernel_rfl) rfl ⟨bD bR,UX.o.ob.drew,UX.o.mm.now (bD bR)⟩ (fun v h=>Nat.le_trans (by omega) h.1.size) (fun v v' ht ⟨hb,h_o,hmm⟩=>⟨hb.trans ht.bel,ht.oth.2 _ _ _ h_o (by decide),hmm.tS okT_ma ht⟩) (fun u v v' hb ⟨g,e1,e2,e3,e4,h1,h2,h3,h4⟩=>⟨g,e1,e2,e3,e4,h1,h2,h3.below hb,h4.now hb⟩) ?_ ?_
  ·intro i o ho x v hC hd K hK
   match i,ho with
   | 0,ho=>
    cases ho;simp only[fillA,Act.put,sA9,sB9,sC9]at hK⊢;go_simp;exact hK _ _ kpT_same rfl
   | 1,ho=>
    cases ho;simp only[fillA,Act.put,sA9,sB9,sC9]at hK⊢;obtain⟨hbw,hx_o,hmm⟩:=hC;obtain⟨z0,z1,z2,z3,z4,z5,z6,z7,z8,z9,z10⟩:=c11 hx_o;have d0:=hd 0 ⟨⟨0,.data⟩,by simp,rfl,rfl⟩ (by decide);change x 51=.pointer (some ⟨w3.heap.size,0,none⟩)at d0;simp only[d0]at hK⊢;go_simp;exact hK _ _ kpT_same rfl
   | 2,ho=>
    cases ho;simp only[fillA,Act.put,sA9,sB9,sC9]at hK⊢;go_simp;exact hK _ _ kpT_same rfl
   | 3,ho=>
    cases ho;simp only[fillA,Act.put,sA9,sB9,sC9]at hK⊢;have d0:=hd 2 ⟨⟨2,.data⟩,by simp,rfl,rfl⟩ (by decide);change x 53=.pointer (some ⟨w3.heap.size,0,none⟩)at d0;simp only[d0]at hK⊢;go_simp;exact hK _ _ kpT_same rfl
   | 4,ho=>
    cases ho;simp only[fillA,Act.put,sA9,sB9,sC9]at hK⊢;obtain⟨hbw,hx_o,hmm⟩:=hC;have z8:=hx_o.cell_ 8 (v:=.int .i64 X.m.sp) rfl;have d0:=hd 3 ⟨⟨3,.data⟩,by simp,rfl,rfl⟩ (by decide);change x 54=.pointer (some ⟨w3.heap.size,8,none⟩)at d0;simp only[d0]at hK⊢;go_simp;exact hK _ _ kpT_same rfl
   | 5,ho=>
    cases ho;simp only[fillA,Act.put,sA9,sB9,sC9]at hK⊢;go_simp;exact hK _ _ kpT_same rfl
   | 6,ho=>
    cases ho;simp only[fillA,Act.put,sA9,sB9,sC9]at hK⊢;obtain⟨hbw,hx_o,hmm⟩:=hC;have d0:=hd 4 ⟨⟨4,.data⟩,by simp,rfl,rfl⟩ (by decide);change x 55=.int .i64 X.m.sp at d0;have d1:=hd 5 ⟨⟨5,.data⟩,by simp,rfl,rfl⟩ (by decide);change x 56=.int .i64 p at d1;simp only[d0,d1]at hK⊢;go_wp2_with fail
    refine(HKF.o v).mono ?_;rintro e v' ⟨rfl,hb⟩;go_simp;exact hK _ _ (kpT_below (by decide) hb) rfl
   | 7,ho=>
    cases ho;simp only[fillA,Act.put,sA9,sB9,sC9]at hK⊢;go_simp;exact hK _ _ kpT_same rfl
   | 8,ho=>
    cases ho;simp only[fillA,Act.put,sA9,sB9,sC9]at hK⊢;go_simp;exact hK _ _ kpT_same rfl
   | 9,ho=>
    cases ho;simp only[fillA,Act.put,sA9,sB9,sC9]at hK⊢;obtain⟨hbw,hx_o,hmm⟩:=hC;have d0:=hd 1 ⟨⟨1,.data⟩,by simp,rfl,rfl⟩ (by decide);change x 52=.agg #[.slice D1 X.m.t.bs.length r1,.slice D2 X.m.t.fs.length r2,.slice D3 X.m.c.ls.length r3,.int .i64 X.m.c.hand,.int .i64 X.m.g.count,.int .i64 X.m.g.next,.int .i64 X.m.g.round,.slice D4 X.m.g.os.length r4,.int .i64 X.m.sp]at d0;have d1:=hd 6 ⟨⟨6,.data⟩,by simp,rfl,rfl⟩ (by decide);change x 57=.agg #[.int .i64 (keyI M.m.sp p),.int .i64 p]at d1;have d2:=hd 7 ⟨⟨7,.data⟩,by simp,rfl,rfl⟩ (by decide);change x 58=.int .i64 (a:Int)at d2;have d3:=hd 8 ⟨⟨8,.data⟩,by simp,rfl,rfl⟩ (by decide);change x 59=.int .i64 r at d3;simp only[d0,d1,d2,d3]at hK⊢;go_wp2_with fail
    refine(HPP.o v _ _ _ _ hmm.m.r).mono ?_;rintro e v' ⟨_,rfl,f1,f2,f3,f4,rfl,hm1,hb⟩;go_simp;exact hK _ _ (kpT_below (by decide) hb) ⟨_,_,_,_,rfl,hm1.mono hbw.size⟩
   | 10,ho=>
    cases ho;simp only[fillA,Act.put,sA9,sB9,sC9]at hK⊢;have d0:=hd 9 ⟨⟨9,.data⟩,by simp,rfl,rfl⟩ (by decide);obtain⟨e1,e2,e3,e4,d0,hmX⟩:=d0;change x 60=_ at d0;simp only[d0]at hK⊢;go_simp;exact hK _ _ kpT_same ⟨_,_,_,_,rfl,hmX⟩
   | 11,ho=>
    cases ho;simp only[fillA,Act.put,sA9,sB9,sC9]at hK⊢;have d0:=hd 10 ⟨⟨10,.data⟩,by simp,rfl,rfl⟩ (by decide);obtain⟨e1,e2,e3,e4,d0,hmX⟩:=d0;change x 50=_ at d0;simp only[d0]at hK⊢;go_simp;exact hK _ _ kpT_same ⟨_,_,_,_,rfl,hmX⟩
   | 12,ho=>
    cases ho;simp only[fillA,Act.put,sA9,sB9,sC9]at hK⊢;have d0:=hd 10 ⟨⟨10,.data⟩,by simp,rfl,rfl⟩ (by decide);obtain⟨e1,e2,e3,e4,d0,hmX⟩:=d0;change x 50=_ at d0;simp only[d0]at hK⊢;go_simp;exact hK _ _ kpT_same rfl
   | 13,ho=>
    cases ho;simp only[fillA,Act.put,sA9,sB9,sC9]at hK⊢;go_simp;exact hK _ _ (kpT_below (by decide) (bA bR)) ⟨_,_,rfl,(by have:=hC.1.size;omega),rfl,Own.new_ _ _ _⟩
   | 14,ho=>
    cases ho;simp only[fillA,Act.put,sA9,sB9,sC9]at hK⊢;have d11:=hd 13 ⟨⟨13,.data⟩,by simp,rfl,rfl⟩ (by decide);obtain⟨gb,cb,d11,hgb,hnb,hob⟩:=d11;change x 12=_ at d11;have d9:=hd 11 ⟨⟨11,.data⟩,by simp,rfl,rfl⟩ (by decide);obtain⟨e1,e2,e3,e4,d9,hmX⟩:=d9;change x 61=_ at d9;obtain⟨E1,s1,E2,s2,E3,s3,E4,s4,rfl,rfl,rfl,rfl⟩:=hmX.open;obtain⟨a0,a1,a2,a3,a4,a5,a6,a7,a8,rfl⟩:=arr9 hnb;obtain⟨y0,y1,y2,y3,y4,y5,y6,y7,y8⟩:=cells9 hob;obtain⟨z0,z1,z2,z3,z4,z5,z6,z7,z8⟩:=free9 hob;have hlo:=hob.lt;simp only[d9,d11]at hK⊢;go_simp;have hS:tS 34 (fun g=>g<wc.heap.size) (wc.heap.size) v (sets gb 0 [.slice E1 P.t.bs.length s1,.slice E2 P.t.fs.length s2,.slice E3 P.c.ls.length s3,.int .i64 P.c.hand,.int .i64 P.g.count,.int .i64 P.g.next,.int .i64 P.g.round,.slice E4 P.g.os.length s4,.int .i64 P.sp] v):=tS.sets hob hgb (by omega) 0 _;refine hK undef _ (kpT_store hS) ⟨gb,_,_,_,_,d11,hgb,hob.set9 (.slice E1 P.t.bs.length s1) (.slice E2 P.t.fs.length s2) (.slice E3 P.c.ls.length s3) (.int .i64 P.c.hand) (.int .i64 P.g.count) (.int .i64 P.g.next) (.int .i64 P.g.round) (.slice E4 P.g.os.length s4) (.int .i64 P.sp),hmX.tS okT_ma hS⟩
   | 15,ho=>
    cases ho;simp only[fillA,Act.put,sA9,sB9,sC9]at hK⊢;have d0:=hd 12 ⟨⟨12,.data⟩,by simp,rfl,rfl⟩ (by decide);change x 62=.bool PO at d0;simp only[d0]at hK⊢;go_simp;exact hK _ _ kpT_same rfl
   | _+16,ho=>simp at ho
  intro xa wz hC hd;obtain⟨g9,e1,e2,e3,e4,dS,hg9,ho9,hm9⟩:=hd 14 (by decide);change xa 12=_ at dS;obtain⟨hbz,hoz,hmz⟩:=hC;have dL13:=hd 15 (by decide);change xa 13=.bool PO at dL13;simp only[fillA,Act.put,sA9,sB9,sC9,dS,dL13];clear hd dS dL13;have U10:=Hd (UX.o.below hbz);clear hbz hoz hmz HPP HKF;obtain⟨E1,s1,E2,s2,E3,s3,E4,s4,rfl,rfl,rfl,rfl⟩:=hm9.open;obtain⟨y0,y1,y2,y3,y4,y5,y6,y7,y8⟩:=cells9 ho9;obtain⟨q0x,q1x,q2x,q3x,q4x,q5x,q6x,q7x,q8x,q9x,q10x⟩:=c11 U10.o.ob;obtain⟨z0x,z1x,z2x,z3x,z4x,z5x,z6x,z7x,z8x,z9x,z10x⟩:=f11 U10.o.ob;have hlo:=U10.o.ob.lt;have hlq:=(ho9).lt;obtain⟨_,rfl,u11,hs11,hfar11⟩:=U10.o.mach hG (MaM.mono hm9 (show w.heap.size+2≤wc.heap.size by omega))
  obtain⟨w14,hW14⟩:∃W,((((((((wz.setCell ⟨w3.heap.size,0,none⟩ (.slice E1 P.t.bs.length s1)).setCell ⟨w3.heap.size,1,none⟩ (.slice E2 P.t.fs.length s2)).setCell ⟨w3.heap.size,2,none⟩ (.slice E3 P.c.ls.length s3)).setCell ⟨w3.heap.size,3,none⟩ (.int .i64 P.c.hand)).setCell ⟨w3.heap.size,4,none⟩ (.int .i64 P.g.count)).setCell ⟨w3.heap.size,5,none⟩ (.int .i64 P.g.next)).setCell ⟨w3.heap.size,6,none⟩ (.int .i64 P.g.round)).setCell ⟨w3.heap.size,7,none⟩ (.slice E4 P.g.os.length s4)).setCell ⟨w3.heap.size,8,none⟩ (.int .i64 P.sp)=W:=⟨_,rfl⟩
  rw[hW14]at u11;have U14:=Hd u11;go_upto_region 12 with fail
  try rw[hW14]
  clear hW14 u11 hfar11 hs11 U10 hm9 ho9;clear y0 y1 y2 y3 y4 y5 y6 y7 y8 hlo hlq;clear q0x q1x q2x q3x q4x q5x q6x q7x q8x q9x q10x;clear z0x z1x z2x z3x z4x z5x z6x z7x z8x z9x z10x
  obtain⟨Z2,hZ2⟩:∃Z2:Me,(⟨P,X.mk,X.h⟩:Me)=Z2:=⟨_,rfl⟩
  rw[hZ2]at U14 HBO;clear hZ2;obtain⟨q0o,q1o,q2o,q3o,q4o,q5o,q6o,q7o,q8o,q9o,q10o⟩:=c11 U14.o.ob;obtain⟨q0x,q1x,q2x,q3x,q4x,q5x,q6x,q7x,q8x,q9x,q10x⟩:=c11 U14.o.rb;obtain⟨z0x,z1x,z2x,z3x,z4x,z5x,z6x,z7x,z8x,z9x,z10x⟩:=f11 U14.o.rb;have hlr:=U14.o.rb.lt;have hlo:=U14.o.ob.lt;go_wp2;obtain⟨_,rfl,hoz,hotz,_,_,hbz⟩:=put11 U14.o.rb (.slice E1 P.t.bs.length s1) (.slice E2 P.t.fs.length s2) (.slice E3 P.c.ls.length s3) (.int .i64 Z2.m.c.hand) (.int .i64 Z2.m.g.count) (.int .i64 Z2.m.g.next) (.int .i64 Z2.m.g.round) (.slice E4 P.g.os.length s4) (.int .i64 Z2.m.sp) (.slice (some ⟨g6,0,none⟩) X.mk.length r6) (.int .i64 Z2.h);obtain⟨q0t,q1t,q2t,q3t,q4t,q5t,q6t,q7t,q8t,q9t,q10t⟩:=c11 hoz;refine bodyPost_ret (v:=.tuple #[.agg #[.slice E1 P.t.bs.length s1,.slice E2 P.t.fs.length s2,.slice E3 P.c.ls.length s3,.int .i64 Z2.m.c.hand,.int .i64 Z2.m.g.count,.int .i64 Z2.m.g.next,.int .i64 Z2.m.g.round,.slice E4 P.g.os.length s4,.int .i64 Z2.m.sp,.slice (some ⟨g6,0,none⟩) X.mk.length r6,.int .i64 Z2.h],.bool PO]) (by simp[results,Tryz.results53,go_sem,q0t,q1t,q2t,q3t,q4t,q5t,q6t,q7t,q8t,q9t,q10t]) rfl ⟨_,rfl,_,_,_,_,_,Z2,PO,rfl,(U14.o.mm.othm hotz).mono (by omega),HBO.o,hbz w (by omega) U14.o.bl⟩
end Go.Proofs.YtfbnokjdkhcgoaaGreatDoor
