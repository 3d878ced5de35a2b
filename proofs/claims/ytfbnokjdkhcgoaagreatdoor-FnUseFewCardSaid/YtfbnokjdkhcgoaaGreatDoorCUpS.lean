/- A part of the proofs of this seat. -/
import Derived.Test.YtfbnokjdkhcgoaaGreatDoorCMeU
import Derived.Test.YtfbnokjdkhcgoaaGreatDoorCBrS
set_option linter.unusedVariables false
set_option linter.unusedSimpArgs false
set_option maxRecDepth 1000000
set_option maxHeartbeats 16000000
namespace Go.Proofs.YtfbnokjdkhcgoaaGreatDoor
open Go.RowKit
theorem use_br{M N:Me}{p r:Int}{ok:Bool}(hm:misM M p=true)(h:brO M p r=if ok=true then some N else none):useN M p r=if ok=true then some N else none:=by unfold useN;rw[if_pos hm,h]
theorem key_kval{m:Ma}(h:MV m){p:Int}(hp:inR p 256=true):kval (keyI m.sp p,p)=true:=by
 have h1:=h.sp16;unfold kval keyI;split
 ·simp only[hp];decide
 ·simp only[h1,hp];rfl
theorem sUsePage_any(vb vf vl vo vk:Value)(M:Me)(p n r:Int)(w:World)(hM:MeR w vb vf vl vo vk M):
  Calls Tryz.prog 14 #[.agg #[vb,vf,vl,.int .i64 M.m.c.hand,.int .i64 M.m.g.count,.int .i64 M.m.g.next,.int .i64 M.m.g.round,vo,.int .i64 M.m.sp,vk,.int .i64 M.h],.int .i64 p,.int .i64 n,.int .i64 r] w (Post2 fun v w'=>∃v1 v2 v3 v4 v5,v=.tuple #[.agg #[v1,v2,v3,.int .i64 (useV M p n r).m.c.hand,.int .i64 (useV M p n r).m.g.count,.int .i64 (useV M p n r).m.g.next,.int .i64 (useV M p n r).m.g.round,v4,.int .i64 (useV M p n r).m.sp,v5,.int .i64 (useV M p n r).h],.int .i64 (useF M p n r),.int .i64 (useR M p n r),.bool (useO M p n r)]∧MeM w.heap.size w' v1 v2 v3 v4 v5 (useV M p n r)∧Below w.heap.size w w'):=by
 have HM:=Hd hM;clear hM;obtain⟨W0,hW,hbx,hbo,hb0,hs0⟩:=box2 w #[vb,vf,vl,.int .i64 M.m.c.hand,.int .i64 M.m.g.count,.int .i64 M.m.g.next,.int .i64 M.m.g.round,vo,.int .i64 M.m.sp,vk,.int .i64 M.h] 37 #[.slice none 0 0,.slice none 0 0,.slice none 0 0,.int .i64 0,.int .i64 0,.int .i64 0,.int .i64 0,.slice none 0 0,.int .i64 0,.slice none 0 0,.int .i64 0] 37;have HX0:=Hd hbx;have HO0:=Hd hbo;have HB0:=Hd hb0;clear hbx hbo hb0;obtain⟨q0a,q1a,q2a,q3a,q4a,q5a,q6a,q7a,q8a,q9a,q10a⟩:=c11 HX0.o
 go_enter Tryz.func14,Tryz.ntmps14
 go_wp2_with fail
 refine(sMemoryValid_any vb vf vl vo vk M _ (HM.o.now HB0.o)).mono ?_;rintro e w1 ⟨rfl,hb1⟩;clear q0a q1a q2a q3a q4a q5a q6a q7a q8a q9a q10a;have HX1:=Hd (HX0.o.below hb1);have HO1:=Hd (HO0.o.below hb1);have HB1:=Hd (bT HB0.o hb1);have hs1:w.heap.size+2≤w1.heap.size:=by have:=hb1.size;omega
 clear hb1 HX0 HO0 HB0 hW
 cases h1:mev M with
 | false=>
  have HA:Hi (useO M p n r=false):=useO_v h1;have HV:=Hd (useO_no HA.o);obtain⟨q0x,q1x,q2x,q3x,q4x,q5x,q6x,q7x,q8x,q9x,q10x⟩:=c11 HO1.o;obtain⟨z0x,z1x,z2x,z3x,z4x,z5x,z6x,z7x,z8x,z9x,z10x⟩:=f11 HO1.o;have hlr:=HO1.o.lt;go_wp2;obtain⟨_,rfl,hoz,_,_,_,_⟩:=put11 HO1.o (.slice none 0 0) (.slice none 0 0) (.slice none 0 0) (.int .i64 0) (.int .i64 0) (.int .i64 0) (.int .i64 0) (.slice none 0 0) (.int .i64 0) (.slice none 0 0) (.int .i64 0);obtain⟨q0t,q1t,q2t,q3t,q4t,q5t,q6t,q7t,q8t,q9t,q10t⟩:=c11 hoz;refine bodyPost_ret (v:=.tuple #[.agg #[.slice none 0 0,.slice none 0 0,.slice none 0 0,.int .i64 0,.int .i64 0,.int .i64 0,.int .i64 0,.slice none 0 0,.int .i64 0,.slice none 0 0,.int .i64 0],.int .i64 0,.int .i64 0,.bool false]) (by simp[results,Tryz.results14,go_sem,q0t,q1t,q2t,q3t,q4t,q5t,q6t,q7t,q8t,q9t,q10t]) rfl ⟨_,rfl,_,_,_,_,_,by rw[HV.o.1,HV.o.2.1,HV.o.2.2,HA.o];rfl,by rw[HV.o.1];exact mem_z, ?_⟩;repeat (refine bS ?_ (by simp<;>omega))
  exact HB1.o
 | true=>
 cases h2:inR p 256 with
 | false=>
  go_wp2_with fail
  refine(l1Page_any _ _).mono ?_;rintro e w' ⟨rfl,rfl⟩;rw[h2];have HA:Hi (useO M p n r=false):=useO_p h2;have HV:=Hd (useO_no HA.o);obtain⟨q0x,q1x,q2x,q3x,q4x,q5x,q6x,q7x,q8x,q9x,q10x⟩:=c11 HO1.o;obtain⟨z0x,z1x,z2x,z3x,z4x,z5x,z6x,z7x,z8x,z9x,z10x⟩:=f11 HO1.o;have hlr:=HO1.o.lt;go_wp2;obtain⟨_,rfl,hoz,_,_,_,_⟩:=put11 HO1.o (.slice none 0 0) (.slice none 0 0) (.slice none 0 0) (.int .i64 0) (.int .i64 0) (.int .i64 0) (.int .i64 0) (.slice none 0 0) (.int .i64 0) (.slice none 0 0) (.int .i64 0);obtain⟨q0t,q1t,q2t,q3t,q4t,q5t,q6t,q7t,q8t,q9t,q10t⟩:=c11 hoz;refine bodyPost_ret (v:=.tuple #[.agg #[.slice none 0 0,.slice none 0 0,.slice none 0 0,.int .i64 0,.int .i64 0,.int .i64 0,.int .i64 0,.slice none 0 0,.int .i64 0,.slice none 0 0,.int .i64 0],.int .i64 0,.int .i64 0,.bool false]) (by simp[results,Tryz.results14,go_sem,q0t,q1t,q2t,q3t,q4t,q5t,q6t,q7t,q8t,q9t,q10t]) rfl ⟨_,rfl,_,_,_,_,_,by rw[HV.o.1,HV.o.2.1,HV.o.2.2,HA.o];rfl,by rw[HV.o.1];exact mem_z, ?_⟩;repeat (refine bS ?_ (by simp<;>omega))
  exact HB1.o
 | true=>
 go_wp2_with fail
 refine(l1Page_any _ _).mono ?_;rintro e w' ⟨rfl,rfl⟩;rw[h2]
 cases h3:inR n 8 with
 | false=>
  go_wp2_with fail
  refine(sRightsValid_any _ _).mono ?_;rintro e w' ⟨rfl,rfl⟩;rw[h3];have HA:Hi (useO M p n r=false):=useO_n h3;have HV:=Hd (useO_no HA.o);obtain⟨q0x,q1x,q2x,q3x,q4x,q5x,q6x,q7x,q8x,q9x,q10x⟩:=c11 HO1.o;obtain⟨z0x,z1x,z2x,z3x,z4x,z5x,z6x,z7x,z8x,z9x,z10x⟩:=f11 HO1.o;have hlr:=HO1.o.lt;go_wp2;obtain⟨_,rfl,hoz,_,_,_,_⟩:=put11 HO1.o (.slice none 0 0) (.slice none 0 0) (.slice none 0 0) (.int .i64 0) (.int .i64 0) (.int .i64 0) (.int .i64 0) (.slice none 0 0) (.int .i64 0) (.slice none 0 0) (.int .i64 0);obtain⟨q0t,q1t,q2t,q3t,q4t,q5t,q6t,q7t,q8t,q9t,q10t⟩:=c11 hoz;refine bodyPost_ret (v:=.tuple #[.agg #[.slice none 0 0,.slice none 0 0,.slice none 0 0,.int .i64 0,.int .i64 0,.int .i64 0,.int .i64 0,.slice none 0 0,.int .i64 0,.slice none 0 0,.int .i64 0],.int .i64 0,.int .i64 0,.bool false]) (by simp[results,Tryz.results14,go_sem,q0t,q1t,q2t,q3t,q4t,q5t,q6t,q7t,q8t,q9t,q10t]) rfl ⟨_,rfl,_,_,_,_,_,by rw[HV.o.1,HV.o.2.1,HV.o.2.2,HA.o];rfl,by rw[HV.o.1];exact mem_z, ?_⟩;repeat (refine bS ?_ (by simp<;>omega))
  exact HB1.o
 | true=>
 go_wp2_with fail
 refine(sRightsValid_any _ _).mono ?_;rintro e w' ⟨rfl,rfl⟩;rw[h3]
 cases h4:inR r 8 with
 | false=>
  go_wp2_with fail
  refine(sRightsValid_any _ _).mono ?_;rintro e w' ⟨rfl,rfl⟩;rw[h4];have HA:Hi (useO M p n r=false):=useO_r h4;have HV:=Hd (useO_no HA.o);obtain⟨q0x,q1x,q2x,q3x,q4x,q5x,q6x,q7x,q8x,q9x,q10x⟩:=c11 HO1.o;obtain⟨z0x,z1x,z2x,z3x,z4x,z5x,z6x,z7x,z8x,z9x,z10x⟩:=f11 HO1.o;have hlr:=HO1.o.lt;go_wp2;obtain⟨_,rfl,hoz,_,_,_,_⟩:=put11 HO1.o (.slice none 0 0) (.slice none 0 0) (.slice none 0 0) (.int .i64 0) (.int .i64 0) (.int .i64 0) (.int .i64 0) (.slice none 0 0) (.int .i64 0) (.slice none 0 0) (.int .i64 0);obtain⟨q0t,q1t,q2t,q3t,q4t,q5t,q6t,q7t,q8t,q9t,q10t⟩:=c11 hoz;refine bodyPost_ret (v:=.tuple #[.agg #[.slice none 0 0,.slice none 0 0,.slice none 0 0,.int .i64 0,.int .i64 0,.int .i64 0,.int .i64 0,.slice none 0 0,.int .i64 0,.slice none 0 0,.int .i64 0],.int .i64 0,.int .i64 0,.bool false]) (by simp[results,Tryz.results14,go_sem,q0t,q1t,q2t,q3t,q4t,q5t,q6t,q7t,q8t,q9t,q10t]) rfl ⟨_,rfl,_,_,_,_,_,by rw[HV.o.1,HV.o.2.1,HV.o.2.2,HA.o];rfl,by rw[HV.o.1];exact mem_z, ?_⟩;repeat (refine bS ?_ (by simp<;>omega))
  exact HB1.o
 | true=>
 go_wp2_with fail
 refine(sRightsValid_any _ _).mono ?_;rintro e w' ⟨rfl,rfl⟩;rw[h4];obtain⟨a1,a2,a3,a4,a5,a6⟩:=mev_len h1;obtain⟨q0b,q1b,q2b,q3b,q4b,q5b,q6b,q7b,q8b,q9b,q10b⟩:=c11 HX1.o;go_wp2_with fail
 refine(l7Copy_any vb vf vl vo vk M _ (HM.o.now HB1.o) a1 a2 a3 a4 (by omega) a6).mono ?_;rintro e w3 ⟨_,rfl,q1,q2,q3,q4,q5,rfl,hM3,hb3⟩;clear q0b q1b q2b q3b q4b q5b q6b q7b q8b q9b q10b;have hM3':=hM3.mono hs1;obtain⟨A1,c1,A2,c2,A3,c3,A4,c4,g5,c5,rfl,rfl,rfl,rfl,rfl⟩:=hM3'.open a6;obtain⟨w4,hW4,ho4,hb4,hs4⟩:=box1 w3 #[.slice A1 M.m.t.bs.length c1,.slice A2 M.m.t.fs.length c2,.slice A3 M.m.c.ls.length c3,.int .i64 M.m.c.hand,.int .i64 M.m.g.count,.int .i64 M.m.g.next,.int .i64 M.m.g.round,.slice A4 M.m.g.os.length c4,.int .i64 M.m.sp,.slice (some ⟨g5,0,none⟩) M.mk.length c5,.int .i64 M.h] 37
 have U4:Hi (Us w w3.heap.size (.slice A1 M.m.t.bs.length c1) (.slice A2 M.m.t.fs.length c2) (.slice A3 M.m.c.ls.length c3) (.slice A4 M.m.g.os.length c4) (.slice (some ⟨g5,0,none⟩) M.mk.length c5) M w4):=⟨ho4,hM3'.now hb4,(HO1.o.below hb3).below hb4,bT (bT HB1.o hb3) hb4⟩
 have HX4:=Hd ((HX1.o.below hb3).below hb4);have HB4:=Hd U4.o.bl;have hG:w.heap.size+2≤w3.heap.size:=by have:=hb3.size;omega
 have HV1:=Hd (And.intro h1 (And.intro h2 (And.intro h3 h4)));have HMV:=Hd (mev_MEV.1 h1);have HTV:=Hd (And.intro (mav_parts (mav_MV.2 (mev_MEV.1 h1).m)).1 (key_kval (mev_MEV.1 h1).m h2));clear hM3 hM3' hb3 ho4 hb4 HX1 HO1 HB1 h1 h2 h3 h4;go_upto_region 4 with fail
 try rw[hW4]
 clear hW4;refine wp_region_kp (by kernel_rfl) [44,45,46,47,48,49,50,51,52,43,53,54,13,14] [44,45,46,47,48,49,50,51,52,43,53,54,13,14] 34 (fun _=>True) (w4.heap.size) 99 [KP.eq (.pointer (some ⟨w.heap.size,0,none⟩)),KP.eq (.pointer (some ⟨w.heap.size,0,none⟩)),KP.eq (.agg #[vb,vf]),KP.eq (.pointer (some ⟨w.heap.size,0,none⟩)),KP.eq (.pointer (some ⟨w.heap.size,8,none⟩)),KP.eq (.int .i64 M.m.sp),KP.eq (.int .i64 p),KP.eq (.agg #[.int .i64 (keyI M.m.sp p),.int .i64 p]),KP.tun (fndI M.m.t.fs (keyI M.m.sp p) p),KP.tun (fndI M.m.t.fs (keyI M.m.sp p) p),KP.eq (.int .i64 (fndI M.m.t.fs (keyI M.m.sp p) p)),KP.int,KP.eq (.int .i64 (fndI M.m.t.fs (keyI M.m.sp p) p)),KP.int] (fun _ _=>True) (fun v=>(Below (w4.heap.size) w4 v)∧(Own v (w.heap.size) 37 #[vb,vf,vl,.int .i64 M.m.c.hand,.int .i64 M.m.g.count,.int .i64 M.m.g.next,.int .i64 M.m.g.round,vo,.int .i64 M.m.sp,vk,.int .i64 M.h])) (by kernel_rfl) rfl ⟨bD bR,HX4.o.drew⟩ (fun v h=>Nat.le_trans (by omega) h.1.size) (fun v v' ht ⟨hb,h_x⟩=>⟨hb.trans ht.bel,ht.oth.2 _ _ _ h_x (by decide)⟩) (fun _ _ _ _ h=>h) ?_ ?_
 ·intro i o ho x v hC hd K hK
  match i,ho with
  | 0,ho=>
   cases ho;simp only[fillA,Act.put,sA9,sB9,sC9]at hK⊢;go_simp;exact hK _ _ kpT_same rfl
  | 1,ho=>
   cases ho;simp only[fillA,Act.put,sA9,sB9,sC9]at hK⊢;have d0:=hd 0 ⟨⟨0,.data⟩,by simp,rfl,rfl⟩ (by decide);change x 44=.pointer (some ⟨w.heap.size,0,none⟩)at d0;simp only[d0]at hK⊢;go_simp;exact hK _ _ kpT_same rfl
  | 2,ho=>
   cases ho;simp only[fillA,Act.put,sA9,sB9,sC9]at hK⊢;obtain⟨hbw,hx_x⟩:=hC;have z0:=hx_x.cell_ 0 (v:=vb) rfl;have z1:=hx_x.cell_ 1 (v:=vf) rfl;have d0:=hd 1 ⟨⟨1,.data⟩,by simp,rfl,rfl⟩ (by decide);change x 45=.pointer (some ⟨w.heap.size,0,none⟩)at d0;simp only[d0]at hK⊢;go_simp;exact hK _ _ kpT_same rfl
  | 3,ho=>
   cases ho;simp only[fillA,Act.put,sA9,sB9,sC9]at hK⊢;go_simp;exact hK _ _ kpT_same rfl
  | 4,ho=>
   cases ho;simp only[fillA,Act.put,sA9,sB9,sC9]at hK⊢;have d0:=hd 3 ⟨⟨3,.data⟩,by simp,rfl,rfl⟩ (by decide);change x 47=.pointer (some ⟨w.heap.size,0,none⟩)at d0;simp only[d0]at hK⊢;go_simp;exact hK _ _ kpT_same rfl
  | 5,ho=>
   cases ho;simp only[fillA,Act.put,sA9,sB9,sC9]at hK⊢;obtain⟨hbw,hx_x⟩:=hC;have z8:=hx_x.cell_ 8 (v:=.int .i64 M.m.sp) rfl;have d0:=hd 4 ⟨⟨4,.data⟩,by simp,rfl,rfl⟩ (by decide);change x 48=.pointer (some ⟨w.heap.size,8,none⟩)at d0;simp only[d0]at hK⊢;go_simp;exact hK _ _ kpT_same rfl
  | 6,ho=>
   cases ho;simp only[fillA,Act.put,sA9,sB9,sC9]at hK⊢;go_simp;exact hK _ _ kpT_same rfl
  | 7,ho=>
   cases ho;simp only[fillA,Act.put,sA9,sB9,sC9]at hK⊢;obtain⟨hbw,hx_x⟩:=hC;have d0:=hd 5 ⟨⟨5,.data⟩,by simp,rfl,rfl⟩ (by decide);change x 49=.int .i64 M.m.sp at d0;have d1:=hd 6 ⟨⟨6,.data⟩,by simp,rfl,rfl⟩ (by decide);change x 50=.int .i64 p at d1;simp only[d0,d1]at hK⊢;go_wp2_with fail
   refine(sKeyFor_any M.m.sp p v).mono ?_;rintro e v' ⟨rfl,hb⟩;go_simp;exact hK _ _ (kpT_below (by decide) hb) rfl
  | 8,ho=>
   cases ho;simp only[fillA,Act.put,sA9,sB9,sC9]at hK⊢;obtain⟨hbw,hx_x⟩:=hC;have d0:=hd 2 ⟨⟨2,.data⟩,by simp,rfl,rfl⟩ (by decide);change x 46=.agg #[vb,vf]at d0;have d1:=hd 7 ⟨⟨7,.data⟩,by simp,rfl,rfl⟩ (by decide);change x 51=.agg #[.int .i64 (keyI M.m.sp p),.int .i64 p]at d1;simp only[d0,d1]at hK⊢;go_wp2_with fail
   refine(l3Find_any vb vf M.m.t (keyI M.m.sp p) p v (HM.o.m.t.now (bT HB4.o hbw)) HTV.o.1 HTV.o.2).mono ?_;rintro e v' ⟨nn,rfl,hb⟩;go_simp;exact hK _ _ (kpT_below (by decide) hb) ⟨_,rfl⟩
  | 9,ho=>
   cases ho;simp only[fillA,Act.put,sA9,sB9,sC9]at hK⊢;have d0:=hd 8 ⟨⟨8,.data⟩,by simp,rfl,rfl⟩ (by decide);obtain⟨nX,d0⟩:=d0;change x 52=_ at d0;simp only[d0]at hK⊢;go_simp;exact hK _ _ kpT_same ⟨_,rfl⟩
  | 10,ho=>
   cases ho;simp only[fillA,Act.put,sA9,sB9,sC9]at hK⊢;have d0:=hd 9 ⟨⟨9,.data⟩,by simp,rfl,rfl⟩ (by decide);obtain⟨nX,d0⟩:=d0;change x 43=_ at d0;simp only[d0]at hK⊢;go_simp;exact hK _ _ kpT_same rfl
  | 11,ho=>
   cases ho;simp only[fillA,Act.put,sA9,sB9,sC9]at hK⊢;have d0:=hd 9 ⟨⟨9,.data⟩,by simp,rfl,rfl⟩ (by decide);obtain⟨nX,d0⟩:=d0;change x 43=_ at d0;simp only[d0]at hK⊢;go_simp;exact hK _ _ kpT_same ⟨_,rfl⟩
  | 12,ho=>
   cases ho;simp only[fillA,Act.put,sA9,sB9,sC9]at hK⊢;have d0:=hd 10 ⟨⟨10,.data⟩,by simp,rfl,rfl⟩ (by decide);change x 53=.int .i64 (fndI M.m.t.fs (keyI M.m.sp p) p)at d0;simp only[d0]at hK⊢;go_simp;exact hK _ _ kpT_same rfl
  | 13,ho=>
   cases ho;simp only[fillA,Act.put,sA9,sB9,sC9]at hK⊢;have d0:=hd 11 ⟨⟨11,.data⟩,by simp,rfl,rfl⟩ (by decide);obtain⟨nX,d0⟩:=d0;change x 54=_ at d0;simp only[d0]at hK⊢;go_simp;exact hK _ _ kpT_same ⟨_,rfl⟩
  | _+14,ho=>simp at ho
 intro xa wz hC hd;obtain⟨hbz,hoz⟩:=hC;have dL13:=hd 12 (by decide);change xa 13=.int .i64 (fndI M.m.t.fs (keyI M.m.sp p) p)at dL13;have dL14:=hd 13 (by decide);obtain⟨n14,dL14⟩:=dL14;change xa 14=_ at dL14;simp only[fillA,Act.put,sA9,sB9,sC9,dL13,dL14];clear hd dL13 dL14;have U5:=Hd (U4.o.below hbz);have HX5:Hi (Own wz w.heap.size 37 #[vb,vf,vl,.int .i64 M.m.c.hand,.int .i64 M.m.g.count,.int .i64 M.m.g.next,.int .i64 M.m.g.round,vo,.int .i64 M.m.sp,vk,.int .i64 M.h]):=hoz;have hmis:misM M p=decide (fndI M.m.t.fs (keyI M.m.sp p) p<0):=rfl;clear hbz hoz U4 HX4 hs4 HB4 HTV;generalize hZ:fndI M.m.t.fs (keyI M.m.sp p) p=Z at hmis⊢;have HMIS:=Hd hmis;clear hZ hmis;go_upto_if 57 with fail
 go_cut [15]from 16 (fun u wx=>∃(N:Me) (v1 v2 v3 v4 v5:Value),u=.bool (misM M p)∧Hi (useN M p r=some N)∧Hi (Us w w3.heap.size v1 v2 v3 v4 v5 N wx))
 case first=>
  by_cases hz:Z<0
  ·have HM1:Hi (misM M p=true):=by show _=_;rw[HMIS.o];exact decide_eq_true hz
   obtain⟨q0o,q1o,q2o,q3o,q4o,q5o,q6o,q7o,q8o,q9o,q10o⟩:=c11 HX5.o;go_wp2_with fail
   refine(l7Bring_any vb vf vl vo vk M p r _ (HM.o.now U5.o.bl) HV1.o.1).mono ?_;rintro e w8 ⟨_,rfl,q1,q2,q3,q4,q5,N0,ok,rfl,hM9,hbr,hb8⟩;clear q0o q1o q2o q3o q4o q5o q6o q7o q8o q9o q10o;have HBR:=Hd (use_br HM1.o hbr);have hM9':=hM9.mono (show w.heap.size+2≤wz.heap.size by have:=U5.o.ob.lt;omega);obtain⟨D1,r1,rfl,_⟩:=id hM9'.m.t.b;obtain⟨D2,r2,rfl,_⟩:=id hM9'.m.t.f;obtain⟨D3,r3,rfl,_⟩:=id hM9'.m.l;obtain⟨D4,r4,rfl,_⟩:=id hM9'.m.o;obtain⟨D5,r5,rfl,_⟩:=id hM9'.k;obtain⟨wb,hWb,hob,hbb,hsb⟩:=box1 w8 #[.slice D1 N0.m.t.bs.length r1,.slice D2 N0.m.t.fs.length r2,.slice D3 N0.m.c.ls.length r3,.int .i64 N0.m.c.hand,.int .i64 N0.m.g.count,.int .i64 N0.m.g.next,.int .i64 N0.m.g.round,.slice D4 N0.m.g.os.length r4,.int .i64 N0.m.sp,.slice D5 N0.mk.length r5,.int .i64 N0.h] 37;have UB:=Hd ((U5.o.below hb8).below hbb);have HNB:=Hd hob;have HMB:=Hd (hM9'.now hbb);clear hob hbb hM9 hM9' hb8 U5 HX5 hbr;go_upto_region 8 with fail
   try rw[hWb]
   clear hWb
   cases ok with
   | false=>
    have hno:=HBR.o;rw[if_neg (by decide)]at hno;have HA:Hi (useO M p n r=false):=useO_none hno;have HV:=Hd (useO_no HA.o);have HRR:=Hd UB.o.rb;have HBB:=Hd UB.o.bl;clear hno;obtain⟨q0x,q1x,q2x,q3x,q4x,q5x,q6x,q7x,q8x,q9x,q10x⟩:=c11 HRR.o;obtain⟨z0x,z1x,z2x,z3x,z4x,z5x,z6x,z7x,z8x,z9x,z10x⟩:=f11 HRR.o;have hlr:=HRR.o.lt;go_wp2;obtain⟨_,rfl,hoz,_,_,_,_⟩:=put11 HRR.o (.slice none 0 0) (.slice none 0 0) (.slice none 0 0) (.int .i64 0) (.int .i64 0) (.int .i64 0) (.int .i64 0) (.slice none 0 0) (.int .i64 0) (.slice none 0 0) (.int .i64 0);obtain⟨q0t,q1t,q2t,q3t,q4t,q5t,q6t,q7t,q8t,q9t,q10t⟩:=c11 hoz;refine bodyPost_ret (v:=.tuple #[.agg #[.slice none 0 0,.slice none 0 0,.slice none 0 0,.int .i64 0,.int .i64 0,.int .i64 0,.int .i64 0,.slice none 0 0,.int .i64 0,.slice none 0 0,.int .i64 0],.int .i64 0,.int .i64 0,.bool false]) (by simp[results,Tryz.results14,go_sem,q0t,q1t,q2t,q3t,q4t,q5t,q6t,q7t,q8t,q9t,q10t]) rfl ⟨_,rfl,_,_,_,_,_,by rw[HV.o.1,HV.o.2.1,HV.o.2.2,HA.o];rfl,by rw[HV.o.1];exact mem_z, ?_⟩;repeat (refine bS ?_ (by simp<;>omega))
    exact HBB.o
   | true=>
    have hyes:=HBR.o;rw[if_pos rfl]at hyes;have HN:=Hd hyes;clear hyes HBR;obtain⟨q0y,q1y,q2y,q3y,q4y,q5y,q6y,q7y,q8y,q9y,q10y⟩:=c11 HNB.o;obtain⟨z0x,z1x,z2x,z3x,z4x,z5x,z6x,z7x,z8x,z9x,z10x⟩:=f11 UB.o.ob;obtain⟨q0x,q1x,q2x,q3x,q4x,q5x,q6x,q7x,q8x,q9x,q10x⟩:=c11 UB.o.ob;have hlo:=UB.o.ob.lt;have hly:=HNB.o.lt;obtain⟨_,rfl,u9,hs9,hfar9⟩:=UB.o.all hG HMB.o;go_wp2;go_meet
    exact⟨N0,_,_,_,_,_,by rw[HM1.o],HN,Hd u9⟩
  ·have HM1:Hi (misM M p=false):=by show _=_;rw[HMIS.o];exact decide_eq_false hz
   have HN:=Hd (use_stay (r:=r) HM1.o);go_wp2;go_meet
   exact⟨M,_,_,_,_,_,by rw[HM1.o,decide_eq_false (show¬Z<0 by omega)],HN,U5⟩
 case rest=>
  obtain⟨N,v1,v2,v3,v4,v5,rfl,HN,UN⟩:=hcut;have hna:=useN_at HMV.o HN.o;obtain⟨htO,k,hk,hkl⟩:=useN_tch HMV.o HN.o HV1.o.2.1 HV1.o.2.2.1;obtain⟨hO,hVV,hFF,hRR⟩:=useO_some HV1.o.1 HV1.o.2.1 HV1.o.2.2.1 HV1.o.2.2.2 HN.o;rw[hk]at hFF;rw[hk,Int.toNat_natCast]at hVV;have HTP:=Hd (sTouchPage_any v1 v2 v3 v4 N.m p n wc UN.o.mm.m.r)
  obtain⟨T2,hT2⟩:∃T2,tchV N.m p n=T2:=⟨_,rfl⟩
  obtain⟨R,hR⟩:∃R,tchR N.m p n=R:=⟨_,rfl⟩
  rw[htO,hk,hT2,hR]at HTP;rw[hT2]at hVV;rw[hR]at hRR;have hmk1:1≤N.mk.length:=by rw[hna.2.1];exact a6
  have hmk16:N.mk.length≤16:=by rw[hna.2.1];exact a5
  obtain⟨x,ex⟩:∃x,N.mk[k]?=some x:=⟨_,List.getElem?_eq_getElem hkl⟩
  have EX:=Hd ex;have hRng:0≤R∧R≤4:=by rw[←hR];exact tchR_rng _ _ _
  have HRES:=Hd (And.intro hO (And.intro hVV (And.intro hFF hRR)));have hswc:=UN.o.ob.lt;clear hna htO hk hO hVV hFF hRR hT2 hR ex U5;obtain⟨q0o,q1o,q2o,q3o,q4o,q5o,q6o,q7o,q8o,q9o,q10o⟩:=c11 UN.o.ob;go_wp2_with fail
  refine HTP.o.mono ?_;rintro e w12 ⟨_,rfl,q1,q2,q3,q4,rfl,hM12,hb12⟩;clear q0o q1o q2o q3o q4o q5o q6o q7o q8o q9o q10o;clear HTP;obtain⟨E1,s1,E2,s2,E3,s3,E4,s4,rfl,rfl,rfl,rfl⟩:=hM12.open;obtain⟨w13,hW13,ho13,hb13,hs13⟩:=box1 w12 #[.slice E1 T2.t.bs.length s1,.slice E2 T2.t.fs.length s2,.slice E3 T2.c.ls.length s3,.int .i64 T2.c.hand,.int .i64 T2.g.count,.int .i64 T2.g.next,.int .i64 T2.g.round,.slice E4 T2.g.os.length s4,.int .i64 T2.sp] 34;have U13:=Hd ((UN.o.below hb12).below hb13);have HQ13:=Hd ho13;have HM13:=Hd ((hM12.now hb13).mono (show w.heap.size+2≤wc.heap.size by omega));have hs12:=hb12.size;clear hM12 hb12 ho13 hb13 UN;go_upto_region 12 with fail
  try rw[hW13]
  clear hW13;obtain⟨y0,y1,y2,y3,y4,y5,y6,y7,y8⟩:=cells9 HQ13.o;obtain⟨q0x,q1x,q2x,q3x,q4x,q5x,q6x,q7x,q8x,q9x,q10x⟩:=c11 U13.o.ob;obtain⟨z0x,z1x,z2x,z3x,z4x,z5x,z6x,z7x,z8x,z9x,z10x⟩:=f11 U13.o.ob;have hlo:=U13.o.ob.lt;have hlq:=(HQ13.o).lt;obtain⟨_,rfl,u11,hs11,hfar11⟩:=U13.o.mach hG (MaM.mono HM13.o (Nat.le_refl _))
  obtain⟨w14,hW14⟩:∃W,((((((((w13.setCell ⟨w3.heap.size,0,none⟩ (.slice E1 T2.t.bs.length s1)).setCell ⟨w3.heap.size,1,none⟩ (.slice E2 T2.t.fs.length s2)).setCell ⟨w3.heap.size,2,none⟩ (.slice E3 T2.c.ls.length s3)).setCell ⟨w3.heap.size,3,none⟩ (.int .i64 T2.c.hand)).setCell ⟨w3.heap.size,4,none⟩ (.int .i64 T2.g.count)).setCell ⟨w3.heap.size,5,none⟩ (.int .i64 T2.g.next)).setCell ⟨w3.heap.size,6,none⟩ (.int .i64 T2.g.round)).setCell ⟨w3.heap.size,7,none⟩ (.slice E4 T2.g.os.length s4)).setCell ⟨w3.heap.size,8,none⟩ (.int .i64 T2.sp)=W:=⟨_,rfl⟩
  rw[hW14]at u11;have U14:=Hd u11;go_upto_region 13 with fail
  try rw[hW14]
  clear hW14 u11 hfar11 hs11 U13 HQ13 HM13;clear y0 y1 y2 y3 y4 y5 y6 y7 y8 hlo hlq;clear q0x q1x q2x q3x q4x q5x q6x q7x q8x q9x q10x;clear z0x z1x z2x z3x z4x z5x z6x z7x z8x z9x z10x;obtain⟨g5,c5,e5⟩:=U14.o.mm.mk5 (show 1≤N.mk.length from hmk1);subst e5;have U14':Us w w3.heap.size _ _ _ _ (.slice (some ⟨g5,0,none⟩) N.mk.length c5) ⟨T2,N.mk,N.h⟩ w14:=U14.o;obtain⟨w15,hW15,u15,hs15⟩:=U14'.mark EX.o true;obtain⟨d0,d1,d2⟩:=U14'.fz EX.o;have n9:=U14'.ob.cell_ 9 (v:=.slice (some ⟨g5,0,none⟩) N.mk.length c5) rfl;have hlo:=U14'.ob.lt
  obtain⟨Z2,hZ2⟩:∃Z2:Me,(⟨T2,N.mk.set k true,N.h⟩:Me)=Z2:=⟨_,rfl⟩
  have u15':Us w w3.heap.size _ _ _ _ _ (⟨T2,N.mk.set k true,N.h⟩:Me) w15:=u15;rw[hZ2]at u15';have hV2:=HRES.o.2.1;rw[hZ2]at hV2;have U15:=Hd u15';have HVV:=Hd hV2;have HOO:=Hd HRES.o.1;have HFF:=Hd HRES.o.2.2.1;have HRR:=Hd HRES.o.2.2.2;clear u15 u15' hV2 hZ2 HRES;go_upto_region 14 with fail
  try rw[hW15]
  clear hW15 d0 d1 d2 n9 hlo U14 U14';generalize misM M p=mb at HRR⊢
  cases mb with
  | false=>
   have HRV:Hi (useR M p n r=R):=by show _=_;rw[HRR.o];simp
   obtain⟨q0o,q1o,q2o,q3o,q4o,q5o,q6o,q7o,q8o,q9o,q10o⟩:=c11 U15.o.ob;obtain⟨q0x,q1x,q2x,q3x,q4x,q5x,q6x,q7x,q8x,q9x,q10x⟩:=c11 U15.o.rb;obtain⟨z0x,z1x,z2x,z3x,z4x,z5x,z6x,z7x,z8x,z9x,z10x⟩:=f11 U15.o.rb;have hlr:=U15.o.rb.lt;have hlo:=U15.o.ob.lt;go_wp2;obtain⟨_,rfl,hoz,hotz,_,_,hbz⟩:=put11 U15.o.rb (.slice E1 T2.t.bs.length s1) (.slice E2 T2.t.fs.length s2) (.slice E3 T2.c.ls.length s3) (.int .i64 Z2.m.c.hand) (.int .i64 Z2.m.g.count) (.int .i64 Z2.m.g.next) (.int .i64 Z2.m.g.round) (.slice E4 T2.g.os.length s4) (.int .i64 Z2.m.sp) (.slice (some ⟨g5,0,none⟩) N.mk.length c5) (.int .i64 Z2.h);obtain⟨q0t,q1t,q2t,q3t,q4t,q5t,q6t,q7t,q8t,q9t,q10t⟩:=c11 hoz;refine bodyPost_ret (v:=.tuple #[.agg #[.slice E1 T2.t.bs.length s1,.slice E2 T2.t.fs.length s2,.slice E3 T2.c.ls.length s3,.int .i64 Z2.m.c.hand,.int .i64 Z2.m.g.count,.int .i64 Z2.m.g.next,.int .i64 Z2.m.g.round,.slice E4 T2.g.os.length s4,.int .i64 Z2.m.sp,.slice (some ⟨g5,0,none⟩) N.mk.length c5,.int .i64 Z2.h],.int .i64 k,.int .i64 R,.bool true]) (by simp[results,Tryz.results14,go_sem,q0t,q1t,q2t,q3t,q4t,q5t,q6t,q7t,q8t,q9t,q10t]) rfl ⟨_,rfl,_,_,_,_,_,by rw[HVV.o,HFF.o,HRV.o,HOO.o],by rw[HVV.o];exact(U15.o.mm.othm hotz).mono (by omega),hbz w (by omega) U15.o.bl⟩
  | true=>
   by_cases hR:R=2
   ·subst hR;have HRV:Hi (useR M p n r=3):=by show _=_;rw[HRR.o];simp
    obtain⟨q0o,q1o,q2o,q3o,q4o,q5o,q6o,q7o,q8o,q9o,q10o⟩:=c11 U15.o.ob;obtain⟨q0x,q1x,q2x,q3x,q4x,q5x,q6x,q7x,q8x,q9x,q10x⟩:=c11 U15.o.rb;obtain⟨z0x,z1x,z2x,z3x,z4x,z5x,z6x,z7x,z8x,z9x,z10x⟩:=f11 U15.o.rb;have hlr:=U15.o.rb.lt;have hlo:=U15.o.ob.lt;go_wp2;obtain⟨_,rfl,hoz,hotz,_,_,hbz⟩:=put11 U15.o.rb (.slice E1 T2.t.bs.length s1) (.slice E2 T2.t.fs.length s2) (.slice E3 T2.c.ls.length s3) (.int .i64 Z2.m.c.hand) (.int .i64 Z2.m.g.count) (.int .i64 Z2.m.g.next) (.int .i64 Z2.m.g.round) (.slice E4 T2.g.os.length s4) (.int .i64 Z2.m.sp) (.slice (some ⟨g5,0,none⟩) N.mk.length c5) (.int .i64 Z2.h);obtain⟨q0t,q1t,q2t,q3t,q4t,q5t,q6t,q7t,q8t,q9t,q10t⟩:=c11 hoz;refine bodyPost_ret (v:=.tuple #[.agg #[.slice E1 T2.t.bs.length s1,.slice E2 T2.t.fs.length s2,.slice E3 T2.c.ls.length s3,.int .i64 Z2.m.c.hand,.int .i64 Z2.m.g.count,.int .i64 Z2.m.g.next,.int .i64 Z2.m.g.round,.slice E4 T2.g.os.length s4,.int .i64 Z2.m.sp,.slice (some ⟨g5,0,none⟩) N.mk.length c5,.int .i64 Z2.h],.int .i64 k,.int .i64 3,.bool true]) (by simp[results,Tryz.results14,go_sem,q0t,q1t,q2t,q3t,q4t,q5t,q6t,q7t,q8t,q9t,q10t]) rfl ⟨_,rfl,_,_,_,_,_,by rw[HVV.o,HFF.o,HRV.o,HOO.o],by rw[HVV.o];exact(U15.o.mm.othm hotz).mono (by omega),hbz w (by omega) U15.o.bl⟩
   ·have HRV:Hi (useR M p n r=R):=by show _=_;rw[HRR.o,if_neg (fun h=>hR h.2)]
    have hRb:(R == 2)=false:=by rw[beq_eq_false_iff_ne];exact hR
    clear hR;obtain⟨q0o,q1o,q2o,q3o,q4o,q5o,q6o,q7o,q8o,q9o,q10o⟩:=c11 U15.o.ob;obtain⟨q0x,q1x,q2x,q3x,q4x,q5x,q6x,q7x,q8x,q9x,q10x⟩:=c11 U15.o.rb;obtain⟨z0x,z1x,z2x,z3x,z4x,z5x,z6x,z7x,z8x,z9x,z10x⟩:=f11 U15.o.rb;have hlr:=U15.o.rb.lt;have hlo:=U15.o.ob.lt;go_wp2;obtain⟨_,rfl,hoz,hotz,_,_,hbz⟩:=put11 U15.o.rb (.slice E1 T2.t.bs.length s1) (.slice E2 T2.t.fs.length s2) (.slice E3 T2.c.ls.length s3) (.int .i64 Z2.m.c.hand) (.int .i64 Z2.m.g.count) (.int .i64 Z2.m.g.next) (.int .i64 Z2.m.g.round) (.slice E4 T2.g.os.length s4) (.int .i64 Z2.m.sp) (.slice (some ⟨g5,0,none⟩) N.mk.length c5) (.int .i64 Z2.h);obtain⟨q0t,q1t,q2t,q3t,q4t,q5t,q6t,q7t,q8t,q9t,q10t⟩:=c11 hoz;refine bodyPost_ret (v:=.tuple #[.agg #[.slice E1 T2.t.bs.length s1,.slice E2 T2.t.fs.length s2,.slice E3 T2.c.ls.length s3,.int .i64 Z2.m.c.hand,.int .i64 Z2.m.g.count,.int .i64 Z2.m.g.next,.int .i64 Z2.m.g.round,.slice E4 T2.g.os.length s4,.int .i64 Z2.m.sp,.slice (some ⟨g5,0,none⟩) N.mk.length c5,.int .i64 Z2.h],.int .i64 k,.int .i64 R,.bool true]) (by simp[results,Tryz.results14,go_sem,q0t,q1t,q2t,q3t,q4t,q5t,q6t,q7t,q8t,q9t,q10t]) rfl ⟨_,rfl,_,_,_,_,_,by rw[HVV.o,HFF.o,HRV.o,HOO.o],by rw[HVV.o];exact(U15.o.mm.othm hotz).mono (by omega),hbz w (by omega) U15.o.bl⟩
theorem sUsePages_any(vb vf vl vo vk:Value)(M:Me)(A:Option Addr)(cp:Nat)(ps:List Int)(w:World)(hM:MeR w vb vf vl vo vk M)(hps:Rs intE w.heap.size w A ps)(hpl:ps.length≤9223372036854775807):
  Calls Tryz.prog 22 #[.agg #[vb,vf,vl,.int .i64 M.m.c.hand,.int .i64 M.m.g.count,.int .i64 M.m.g.next,.int .i64 M.m.g.round,vo,.int .i64 M.m.sp,vk,.int .i64 M.h],.slice A ps.length cp] w (Post2 fun v w'=>∃v1 v2 v3 v4 v5 pl,v=.tuple #[.agg #[v1,v2,v3,.int .i64 (usV M ps).m.c.hand,.int .i64 (usV M ps).m.g.count,.int .i64 (usV M ps).m.g.next,.int .i64 (usV M ps).m.g.round,v4,.int .i64 (usV M ps).m.sp,v5,.int .i64 (usV M ps).h],pl,.bool (usO M ps)]∧MeM w.heap.size w' v1 v2 v3 v4 v5 (usV M ps)∧SlM intE 3 w.heap.size w' pl (usC M ps)∧Apart v1 pl∧Below w.heap.size w w'):=by
 have HM:=Hd hM;have HPS:=Hd hps;clear hM hps;obtain⟨W0,hW,hbx,hbo,hb0,hs0⟩:=box2 w #[vb,vf,vl,.int .i64 M.m.c.hand,.int .i64 M.m.g.count,.int .i64 M.m.g.next,.int .i64 M.m.g.round,vo,.int .i64 M.m.sp,vk,.int .i64 M.h] 37 #[.slice none 0 0,.slice none 0 0,.slice none 0 0,.int .i64 0,.int .i64 0,.int .i64 0,.int .i64 0,.slice none 0 0,.int .i64 0,.slice none 0 0,.int .i64 0] 37;have HX0:=Hd hbx;have HO0:=Hd hbo;have HB0:=Hd hb0;clear hbx hbo hb0;obtain⟨q0a,q1a,q2a,q3a,q4a,q5a,q6a,q7a,q8a,q9a,q10a⟩:=c11 HX0.o
 go_enter Tryz.func22,Tryz.ntmps22
 go_wp2_with fail
 refine(sMemoryValid_any vb vf vl vo vk M _ (HM.o.now HB0.o)).mono ?_;rintro e w1 ⟨rfl,hb1⟩;clear q0a q1a q2a q3a q4a q5a q6a q7a q8a q9a q10a;have HX1:=Hd (HX0.o.below hb1);have HO1:=Hd (HO0.o.below hb1);have HB1:=Hd (bT HB0.o hb1);have hs1:w.heap.size+2≤w1.heap.size:=by have:=hb1.size;omega
 clear hb1 HX0 HO0 HB0 hW
 cases h1:mev M with
 | false=>
  have HA:Hi (usA M ps=none):=usA_v h1;have HV:=Hd (usA_no HA.o);obtain⟨q0x,q1x,q2x,q3x,q4x,q5x,q6x,q7x,q8x,q9x,q10x⟩:=c11 HO1.o;obtain⟨z0x,z1x,z2x,z3x,z4x,z5x,z6x,z7x,z8x,z9x,z10x⟩:=f11 HO1.o;have hlr:=HO1.o.lt;go_wp2;obtain⟨_,rfl,hoz,_,hsz,_,hbz⟩:=put11 HO1.o (.slice none 0 0) (.slice none 0 0) (.slice none 0 0) (.int .i64 0) (.int .i64 0) (.int .i64 0) (.int .i64 0) (.slice none 0 0) (.int .i64 0) (.slice none 0 0) (.int .i64 0);have hoz2:=hoz.alloc (o:=.cells #[] 3);obtain⟨q0t,q1t,q2t,q3t,q4t,q5t,q6t,q7t,q8t,q9t,q10t⟩:=c11 hoz2;refine bodyPost_ret (v:=.tuple #[.agg #[.slice none 0 0,.slice none 0 0,.slice none 0 0,.int .i64 0,.int .i64 0,.int .i64 0,.int .i64 0,.slice none 0 0,.int .i64 0,.slice none 0 0,.int .i64 0],.slice (some ⟨w1.heap.size,0,none⟩) 0 0,.bool false]) (by simp[results,Tryz.results22,go_sem,q0t,q1t,q2t,q3t,q4t,q5t,q6t,q7t,q8t,q9t,q10t]) rfl ⟨_,rfl,_,_,_,_,_,.slice (some ⟨w1.heap.size,0,none⟩) 0 0,by rw[HV.o.1,HV.o.2.1];rfl,by rw[HV.o.2.1];exact mem_z,by rw[HV.o.2.2];exact⟨_,0,rfl,Nat.le_refl _,by simp[maxLen],MineE.nil_ _⟩,(fun _ _ _ e=>by cases e),bA (hbz w (by omega) HB1.o)⟩
 | true=>
 by_cases h2:ps.length≤64
 case neg=>
  have h2i:(64:Int)<(ps.length:Int):=by omega
  have HH2:=Hd h2;clear h2;have HA:Hi (usA M ps=none):=usA_l HH2.o;have HV:=Hd (usA_no HA.o);obtain⟨q0x,q1x,q2x,q3x,q4x,q5x,q6x,q7x,q8x,q9x,q10x⟩:=c11 HO1.o;obtain⟨z0x,z1x,z2x,z3x,z4x,z5x,z6x,z7x,z8x,z9x,z10x⟩:=f11 HO1.o;have hlr:=HO1.o.lt;go_wp2;obtain⟨_,rfl,hoz,_,hsz,_,hbz⟩:=put11 HO1.o (.slice none 0 0) (.slice none 0 0) (.slice none 0 0) (.int .i64 0) (.int .i64 0) (.int .i64 0) (.int .i64 0) (.slice none 0 0) (.int .i64 0) (.slice none 0 0) (.int .i64 0);have hoz2:=hoz.alloc (o:=.cells #[] 3);obtain⟨q0t,q1t,q2t,q3t,q4t,q5t,q6t,q7t,q8t,q9t,q10t⟩:=c11 hoz2;refine bodyPost_ret (v:=.tuple #[.agg #[.slice none 0 0,.slice none 0 0,.slice none 0 0,.int .i64 0,.int .i64 0,.int .i64 0,.int .i64 0,.slice none 0 0,.int .i64 0,.slice none 0 0,.int .i64 0],.slice (some ⟨w1.heap.size,0,none⟩) 0 0,.bool false]) (by simp[results,Tryz.results22,go_sem,q0t,q1t,q2t,q3t,q4t,q5t,q6t,q7t,q8t,q9t,q10t]) rfl ⟨_,rfl,_,_,_,_,_,.slice (some ⟨w1.heap.size,0,none⟩) 0 0,by rw[HV.o.1,HV.o.2.1];rfl,by rw[HV.o.2.1];exact mem_z,by rw[HV.o.2.2];exact⟨_,0,rfl,Nat.le_refl _,by simp[maxLen],MineE.nil_ _⟩,(fun _ _ _ e=>by cases e),bA (hbz w (by omega) HB1.o)⟩
 case pos=>
 have h2i:¬(64:Int)<(ps.length:Int):=by omega
 obtain⟨a1,a2,a3,a4,a5,a6⟩:=mev_len h1;have HMV:=Hd h1;obtain⟨q0b,q1b,q2b,q3b,q4b,q5b,q6b,q7b,q8b,q9b,q10b⟩:=c11 HX1.o;go_wp2_with fail
 refine(l7Copy_any vb vf vl vo vk M _ (HM.o.now HB1.o) a1 a2 a3 a4 (by omega) a6).mono ?_;rintro e w3 ⟨_,rfl,q1,q2,q3,q4,q5,rfl,hM3,hb3⟩;clear q0b q1b q2b q3b q4b q5b q6b q7b q8b q9b q10b;have hM3':=hM3.mono hs1;obtain⟨A1,c1,A2,c2,A3,c3,A4,c4,g5,c5,rfl,rfl,rfl,rfl,rfl⟩:=hM3'.open a6;obtain⟨w4,hW4,ho4,hb4,hs4⟩:=box1 w3 #[.slice A1 M.m.t.bs.length c1,.slice A2 M.m.t.fs.length c2,.slice A3 M.m.c.ls.length c3,.int .i64 M.m.c.hand,.int .i64 M.m.g.count,.int .i64 M.m.g.next,.int .i64 M.m.g.round,.slice A4 M.m.g.os.length c4,.int .i64 M.m.sp,.slice (some ⟨g5,0,none⟩) M.mk.length c5,.int .i64 M.h] 37
 have U4:Hi (Us w w3.heap.size (.slice A1 M.m.t.bs.length c1) (.slice A2 M.m.t.fs.length c2) (.slice A3 M.m.c.ls.length c3) (.slice A4 M.m.g.os.length c4) (.slice (some ⟨g5,0,none⟩) M.mk.length c5) M w4):=⟨ho4,hM3'.now hb4,(HO1.o.below hb3).below hb4,bT (bT HB1.o hb3) hb4⟩
 have hG:w.heap.size+2≤w3.heap.size:=by have:=hb3.size;omega
 clear hM3 hM3' hb3 ho4 hb4 HX1 HO1 HB1 h1;go_upto_region 4 with fail
 try rw[hW4]
 clear hW4 h2i;obtain⟨cs5,hcs5,hmk5⟩:=make_five;obtain⟨w5,hW5,ho5,hb5,hs5⟩:=box1 w4 cs5 3;go_upto_region 5 with fail
 try rw[hW5]
 have U5:=Hd (U4.o.below hb5);have HC5:Hi (MineE intE 3 (w.heap.size+2) w5 (some ⟨w4.heap.size,0,none⟩) [0,0,0,0,0]):=mine_of ho5 hcs5 (by omega);have HAP:Hi (Apart (.slice A1 M.m.t.bs.length c1) (.slice (some ⟨w4.heap.size,0,none⟩) 5 5)):=apart_far U4.o.mm.m (fun k hk=>by injection hk with hk;subst hk;exact Nat.le_refl _);clear hW5 ho5 hb5 hmk5 hcs5 U4;rw[hs4]at HC5 HAP
 obtain⟨gc,hgc⟩:∃gc,w3.heap.size+1=gc:=⟨_,rfl⟩
 rw[hgc]at HC5 HAP⊢;have hgc2:w.heap.size+2≤gc:=by omega
 have hgc3:gc+1≤w5.heap.size:=by omega
 clear hgc hs4 hs5;go_wp2;go_loopw [9] (fun u wr=>∃(k:Nat) (x:Me×List Int) (v1 v2 v3 v4 v5:Value),k≤ps.length∧u=.int .i64 k∧Hi (usL M ps k=some x)∧Us w w3.heap.size v1 v2 v3 v4 v5 x.1 wr∧MineE intE 3 (w.heap.size+2) wr (some ⟨gc,0,none⟩) x.2∧Apart v1 (.slice (some ⟨gc,0,none⟩) 5 5)) (fun u _=>ps.length-(intOf u).toNat)
 case atStart=>exact⟨0,(M,[0,0,0,0,0]),_,_,_,_,_,by omega,rfl,rfl,U5.o,HC5.o,HAP.o⟩
 case round=>
  obtain⟨k,⟨X,cs⟩,v1,v2,v3,v4,v5,hk,rfl,hst,hus,hmi,hap⟩:=hrel;simp only at hus hmi;have HUS:=Hd hus;have HMI:=Hd hmi;clear HAP;have HAP:=Hd hap;clear hus hmi hap U5 HC5;by_cases hlt:k<ps.length
  ·have hlti:(k:Int)<(ps.length:Int):=by omega
   obtain⟨p,ep⟩:∃p,ps[k]?=some p:=⟨_,List.getElem?_eq_getElem hlt⟩
   have HSTEP:=Hd (usL_step hst.o ep);have HEP:=Hd ep;obtain⟨bp,op,eA,hbp,d0⟩:=Rd.i1 (HPS.o.below HUS.o.bl) ep;subst eA;clear ep
   have hgw:gc<wr.heap.size:=by
    obtain⟨g,cc,e,hg,ho,hs⟩:=HMI.o.own (by have:=usL_len hst.o;simp only at this;omega);injection e with e;injection e with e1 _ _;have:=ho.lt;omega
   have hup:=fun(v:World) (e1 e2 e3 e4 e5:Value) (h:MeR v e1 e2 e3 e4 e5 X)=>sUsePage_any e1 e2 e3 e4 e5 X p 1 1 v h
   obtain⟨Z,hZ⟩:∃Z,useV X p 1 1=Z:=⟨_,rfl⟩
   obtain⟨F,hF⟩:∃F,useF X p 1 1=F:=⟨_,rfl⟩
   obtain⟨R,hR⟩:∃R,useR X p 1 1=R:=⟨_,rfl⟩
   obtain⟨O,hO⟩:∃O,useO X p 1 1=O:=⟨_,rfl⟩
   have hRr:=useR_rng X p 1 1;simp only at HSTEP;rw[hZ,hF,hR,hO]at hup;rw[hZ,hR,hO]at HSTEP;rw[hR]at hRr;have HUP:=Hd hup
   have hmz:O=true→1≤Z.mk.length:=by
    intro ho;rw[ho]at hO;obtain⟨g1,g2,g3,g4,N,g5⟩:=useO_parts hO;rw[←hZ,(useO_some g1 g2 g3 g4 g5).2.1];show 1≤(N.mk.set _ true).length;rw[List.length_set,(useN_at (mev_MEV.1 g1) g5).2.1];exact(mev_len g1).2.2.2.2.2
   have HMZ:=Hd hmz;clear hZ hF hR hO hup hmz;obtain⟨R,rfl⟩:∃r:Nat,R=(r:Int):=Int.eq_ofNat_of_zero_le hRr.1;have hR5:R<5:=by omega
   rw[Int.toNat_natCast]at HSTEP;go_upto_region 8 with fail
   have hki:(0:Int)≤(k:Int):=by omega
   have hlo8:=HUS.o.ob.lt;refine wp_region_kp (by kernel_rfl) [34,35,36,37,38,39,33,40,41,42,43,10,11,12,13] [34,35,36,37,38,39,33,40,41,42,43,10,10,11,12,13] 37 (fun g=>g<wr.heap.size) (wr.heap.size) 12 [KP.eq (.agg #[v1,v2,v3,.int .i64 X.m.c.hand,.int .i64 X.m.g.count,.int .i64 X.m.g.next,.int .i64 X.m.g.round,v4,.int .i64 X.m.sp,v5,.int .i64 X.h]),KP.eq (.slice (some ⟨bp,op,none⟩) ps.length cp),KP.eq (.int .i64 (k:Int)),KP.eq (.pointer (some ⟨bp,op+k,none⟩)),KP.eq (.int .i64 p),KP.tum okT_me (wr.heap.size) (Z) [.int .i64 F,.int .i64 (R:Int),.bool O],KP.tum okT_me (wr.heap.size) (Z) [.int .i64 F,.int .i64 (R:Int),.bool O],KP.me okT_me (wr.heap.size) (Z),KP.eq (.int .i64 F),KP.eq (.int .i64 (R:Int)),KP.eq (.bool O),KP.box (wr.heap.size) 11,KP.eq (.bool true),KP.eq (.int .i64 F),KP.eq (.int .i64 (R:Int)),KP.eq (.bool O)] (fun u v=>∃g e1 e2 e3 e4 e5,u=.pointer (some ⟨g,0,none⟩)∧wr.heap.size≤g∧Own v g 37 #[e1,e2,e3,.int .i64 Z.m.c.hand,.int .i64 Z.m.g.count,.int .i64 Z.m.g.next,.int .i64 Z.m.g.round,e4,.int .i64 Z.m.sp,e5,.int .i64 Z.h]∧MeM (wr.heap.size) v e1 e2 e3 e4 e5 Z) (fun v=>(Below (wr.heap.size) wr v)∧(Own v (w3.heap.size) 37 #[v1,v2,v3,.int .i64 X.m.c.hand,.int .i64 X.m.g.count,.int .i64 X.m.g.next,.int .i64 X.m.g.round,v4,.int .i64 X.m.sp,v5,.int .i64 X.h])∧(MeM (w.heap.size+2) v v1 v2 v3 v4 v5 X)) (by kernel_rfl) rfl ⟨bD bR,HUS.o.ob.drew,HUS.o.mm.now (bD bR)⟩ (fun v h=>Nat.le_trans (by omega) h.1.size) (fun v v' ht ⟨hb,h_o,hmm⟩=>⟨hb.trans ht.bel,ht.own _ _ (show w3.heap.size<wr.heap.size by have:=hlo8;omega) h_o,hmm.tS okT_me ht⟩) (fun u v v' hb ⟨g,e1,e2,e3,e4,e5,h1,h2,h3,h4⟩=>⟨g,e1,e2,e3,e4,e5,h1,h2,h3.below hb,h4.now hb⟩) ?_ ?_
   ·intro i o ho x v hC hd K hK
    match i,ho with
    | 0,ho=>
     cases ho;simp only[fillA,Act.put,sA9,sB9,sC9]at hK⊢;obtain⟨hbw,hx_o,hmm⟩:=hC;obtain⟨z0,z1,z2,z3,z4,z5,z6,z7,z8,z9,z10⟩:=c11 hx_o;go_simp;exact hK _ _ kpT_same rfl
    | 1,ho=>
     cases ho;simp only[fillA,Act.put,sA9,sB9,sC9]at hK⊢;go_simp;exact hK _ _ kpT_same rfl
    | 2,ho=>
     cases ho;simp only[fillA,Act.put,sA9,sB9,sC9]at hK⊢;go_simp;exact hK _ _ kpT_same rfl
    | 3,ho=>
     cases ho;simp only[fillA,Act.put,sA9,sB9,sC9]at hK⊢;have d0:=hd 1 ⟨⟨1,.data⟩,by simp,rfl,rfl⟩ (by decide);change x 35=.slice (some ⟨bp,op,none⟩) ps.length cp at d0;have d1:=hd 2 ⟨⟨2,.data⟩,by simp,rfl,rfl⟩ (by decide);change x 36=.int .i64 (k:Int)at d1;simp only[d0,d1]at hK⊢;go_simp;exact hK _ _ kpT_same rfl
    | 4,ho=>
     cases ho;simp only[fillA,Act.put,sA9,sB9,sC9]at hK⊢;obtain⟨hbw,hx_o,hmm⟩:=hC;obtain⟨bq,oq,eq,_,y0⟩:=Rd.i1 (HPS.o.below (bT HUS.o.bl hbw)) HEP.o;injection eq with eq;injection eq with eq1 eq2 _;subst eq1 eq2;have d0:=hd 3 ⟨⟨3,.data⟩,by simp,rfl,rfl⟩ (by decide);change x 37=.pointer (some ⟨bp,op+k,none⟩)at d0;simp only[d0]at hK⊢;go_simp;exact hK _ _ kpT_same rfl
    | 5,ho=>
     cases ho;simp only[fillA,Act.put,sA9,sB9,sC9]at hK⊢;obtain⟨hbw,hx_o,hmm⟩:=hC;have d0:=hd 0 ⟨⟨0,.data⟩,by simp,rfl,rfl⟩ (by decide);change x 34=.agg #[v1,v2,v3,.int .i64 X.m.c.hand,.int .i64 X.m.g.count,.int .i64 X.m.g.next,.int .i64 X.m.g.round,v4,.int .i64 X.m.sp,v5,.int .i64 X.h]at d0;have d1:=hd 4 ⟨⟨4,.data⟩,by simp,rfl,rfl⟩ (by decide);change x 38=.int .i64 p at d1;simp only[d0,d1]at hK⊢;go_wp2_with fail
     refine(HUP.o v _ _ _ _ _ hmm.r).mono ?_;rintro e v' ⟨_,rfl,f1,f2,f3,f4,f5,rfl,hm1,hb⟩;go_simp;exact hK _ _ (kpT_below (by decide) hb) ⟨_,_,_,_,_,rfl,hm1.mono hbw.size⟩
    | 6,ho=>
     cases ho;simp only[fillA,Act.put,sA9,sB9,sC9]at hK⊢;have d0:=hd 5 ⟨⟨5,.data⟩,by simp,rfl,rfl⟩ (by decide);obtain⟨e1,e2,e3,e4,e5,d0,hmX⟩:=d0;change x 39=_ at d0;simp only[d0]at hK⊢;go_simp;exact hK _ _ kpT_same ⟨_,_,_,_,_,rfl,hmX⟩
    | 7,ho=>
     cases ho;simp only[fillA,Act.put,sA9,sB9,sC9]at hK⊢;have d0:=hd 6 ⟨⟨6,.data⟩,by simp,rfl,rfl⟩ (by decide);obtain⟨e1,e2,e3,e4,e5,d0,hmX⟩:=d0;change x 33=_ at d0;simp only[d0]at hK⊢;go_simp;exact hK _ _ kpT_same ⟨_,_,_,_,_,rfl,hmX⟩
    | 8,ho=>
     cases ho;simp only[fillA,Act.put,sA9,sB9,sC9]at hK⊢;have d0:=hd 6 ⟨⟨6,.data⟩,by simp,rfl,rfl⟩ (by decide);obtain⟨e1,e2,e3,e4,e5,d0,hmX⟩:=d0;change x 33=_ at d0;simp only[d0]at hK⊢;go_simp;exact hK _ _ kpT_same rfl
    | 9,ho=>
     cases ho;simp only[fillA,Act.put,sA9,sB9,sC9]at hK⊢;have d0:=hd 6 ⟨⟨6,.data⟩,by simp,rfl,rfl⟩ (by decide);obtain⟨e1,e2,e3,e4,e5,d0,hmX⟩:=d0;change x 33=_ at d0;simp only[d0]at hK⊢;go_simp;exact hK _ _ kpT_same rfl
    | 10,ho=>
     cases ho;simp only[fillA,Act.put,sA9,sB9,sC9]at hK⊢;have d0:=hd 6 ⟨⟨6,.data⟩,by simp,rfl,rfl⟩ (by decide);obtain⟨e1,e2,e3,e4,e5,d0,hmX⟩:=d0;change x 33=_ at d0;simp only[d0]at hK⊢;go_simp;exact hK _ _ kpT_same rfl
    | 11,ho=>
     cases ho;simp only[fillA,Act.put,sA9,sB9,sC9]at hK⊢;go_simp;exact hK _ _ (kpT_below (by decide) (bA bR)) ⟨_,_,rfl,(by have:=hC.1.size;omega),rfl,Own.new_ _ _ _⟩
    | 12,ho=>
     cases ho;simp only[fillA,Act.put,sA9,sB9,sC9]at hK⊢;have d11:=hd 11 ⟨⟨11,.data⟩,by simp,rfl,rfl⟩ (by decide);obtain⟨gb,cb,d11,hgb,hnb,hob⟩:=d11;change x 10=_ at d11;have d9:=hd 7 ⟨⟨7,.data⟩,by simp,rfl,rfl⟩ (by decide);obtain⟨e1,e2,e3,e4,e5,d9,hmX⟩:=d9;change x 40=_ at d9;obtain⟨E1,s1,rfl,_⟩:=id hmX.m.t.b;obtain⟨E2,s2,rfl,_⟩:=id hmX.m.t.f;obtain⟨E3,s3,rfl,_⟩:=id hmX.m.l;obtain⟨E4,s4,rfl,_⟩:=id hmX.m.o;obtain⟨E5,s5,rfl,_⟩:=id hmX.k;obtain⟨a0,a1,a2,a3,a4,a5,a6,a7,a8,a9,a10,rfl⟩:=arr11 hnb;obtain⟨y0,y1,y2,y3,y4,y5,y6,y7,y8,y9,y10⟩:=c11 hob;obtain⟨z0,z1,z2,z3,z4,z5,z6,z7,z8,z9,z10⟩:=f11 hob;have hlo:=hob.lt;simp only[d9,d11]at hK⊢;go_simp;have hS:tS 37 (fun g=>g<wr.heap.size) (wr.heap.size) v (sets gb 0 [.slice E1 Z.m.t.bs.length s1,.slice E2 Z.m.t.fs.length s2,.slice E3 Z.m.c.ls.length s3,.int .i64 Z.m.c.hand,.int .i64 Z.m.g.count,.int .i64 Z.m.g.next,.int .i64 Z.m.g.round,.slice E4 Z.m.g.os.length s4,.int .i64 Z.m.sp,.slice E5 Z.mk.length s5,.int .i64 Z.h] v):=tS.sets hob hgb (by omega) 0 _;refine hK undef _ (kpT_store hS) ⟨gb,_,_,_,_,_,d11,hgb,set11 hob (.slice E1 Z.m.t.bs.length s1) (.slice E2 Z.m.t.fs.length s2) (.slice E3 Z.m.c.ls.length s3) (.int .i64 Z.m.c.hand) (.int .i64 Z.m.g.count) (.int .i64 Z.m.g.next) (.int .i64 Z.m.g.round) (.slice E4 Z.m.g.os.length s4) (.int .i64 Z.m.sp) (.slice E5 Z.mk.length s5) (.int .i64 Z.h),hmX.tS okT_me hS⟩
    | 13,ho=>
     cases ho;simp only[fillA,Act.put,sA9,sB9,sC9]at hK⊢;have d0:=hd 8 ⟨⟨8,.data⟩,by simp,rfl,rfl⟩ (by decide);change x 41=.int .i64 F at d0;simp only[d0]at hK⊢;go_simp;exact hK _ _ kpT_same rfl
    | 14,ho=>
     cases ho;simp only[fillA,Act.put,sA9,sB9,sC9]at hK⊢;have d0:=hd 9 ⟨⟨9,.data⟩,by simp,rfl,rfl⟩ (by decide);change x 42=.int .i64 (R:Int)at d0;simp only[d0]at hK⊢;go_simp;exact hK _ _ kpT_same rfl
    | 15,ho=>
     cases ho;simp only[fillA,Act.put,sA9,sB9,sC9]at hK⊢;have d0:=hd 10 ⟨⟨10,.data⟩,by simp,rfl,rfl⟩ (by decide);change x 43=.bool O at d0;simp only[d0]at hK⊢;go_simp;exact hK _ _ kpT_same rfl
    | _+16,ho=>simp at ho
   intro xa wz hC hd;obtain⟨g9,e1,e2,e3,e4,e5,dS,hg9,ho9,hm9⟩:=hd 12 (by decide);change xa 10=_ at dS;obtain⟨hbz,hoz,hmz⟩:=hC;have dL11:=hd 13 (by decide);change xa 11=.int .i64 F at dL11;have dL12:=hd 14 (by decide);change xa 12=.int .i64 (R:Int)at dL12;have dL13:=hd 15 (by decide);change xa 13=.bool O at dL13;simp only[fillA,Act.put,sA9,sB9,sC9,dS,dL11,dL12,dL13];clear hd dS dL11 dL12 dL13;have U9:=Hd (HUS.o.below hbz);have HI9:=Hd (HMI.o.below hbz);have HNB:=Hd ho9;have hM9:=hm9;obtain⟨D1,r1,rfl,_⟩:=id hM9.m.t.b;obtain⟨D2,r2,rfl,_⟩:=id hM9.m.t.f;obtain⟨D3,r3,rfl,_⟩:=id hM9.m.l;obtain⟨D4,r4,rfl,_⟩:=id hM9.m.o;obtain⟨D5,r5,rfl,_⟩:=id hM9.k;have UB:=U9;have HMB:=Hd hM9;have HIB:=HI9;clear hbz hoz hmz hM9 hm9 ho9 HUS HMI HAP HUP d0
   cases O with
   | false=>
    have hno:=HSTEP.o;rw[if_neg (by decide)]at hno;have HNO:=Hd (usA_bad hno (by omega));have HRR:=Hd UB.o.rb;have HBC:=Hd UB.o.bl;clear hno HSTEP;have HA:Hi (usA M ps=none):=HNO.o;have HV:=Hd (usA_no HA.o);obtain⟨q0x,q1x,q2x,q3x,q4x,q5x,q6x,q7x,q8x,q9x,q10x⟩:=c11 HRR.o;obtain⟨z0x,z1x,z2x,z3x,z4x,z5x,z6x,z7x,z8x,z9x,z10x⟩:=f11 HRR.o;have hlr:=HRR.o.lt;go_wp2;obtain⟨_,rfl,hoz,_,hsz,_,hbz⟩:=put11 HRR.o (.slice none 0 0) (.slice none 0 0) (.slice none 0 0) (.int .i64 0) (.int .i64 0) (.int .i64 0) (.int .i64 0) (.slice none 0 0) (.int .i64 0) (.slice none 0 0) (.int .i64 0);have hoz2:=hoz.alloc (o:=.cells #[] 3);obtain⟨q0t,q1t,q2t,q3t,q4t,q5t,q6t,q7t,q8t,q9t,q10t⟩:=c11 hoz2;refine bodyPost_ret (v:=.tuple #[.agg #[.slice none 0 0,.slice none 0 0,.slice none 0 0,.int .i64 0,.int .i64 0,.int .i64 0,.int .i64 0,.slice none 0 0,.int .i64 0,.slice none 0 0,.int .i64 0],.slice (some ⟨wz.heap.size,0,none⟩) 0 0,.bool false]) (by simp[results,Tryz.results22,go_sem,q0t,q1t,q2t,q3t,q4t,q5t,q6t,q7t,q8t,q9t,q10t]) rfl ⟨_,rfl,_,_,_,_,_,.slice (some ⟨wz.heap.size,0,none⟩) 0 0,by rw[HV.o.1,HV.o.2.1];rfl,by rw[HV.o.2.1];exact mem_z,by rw[HV.o.2.2];exact⟨_,0,rfl,Nat.le_refl _,by simp[maxLen],MineE.nil_ _⟩,(fun _ _ _ e=>by cases e),bA (hbz w (by omega) HBC.o)⟩
   | true=>
    have hyes:=HSTEP.o;rw[if_pos rfl]at hyes;have HNX:=Hd hyes;have hcl:cs.length=5:=usL_len hst.o
    obtain⟨c,ec⟩:∃c,cs[R]?=some c:=⟨_,List.getElem?_eq_getElem (by omega)⟩
    have hcb:=usL_bd hst.o R c ec;have hrl:R<cs.length:=by omega
    have hgd:bmp cs R=cs.set R (c+1):=by unfold bmp;rw[getD_i ec]
    rw[hgd]at HNX;have HEC:=Hd ec;clear hyes HSTEP ec hcl hgd;obtain⟨q0y,q1y,q2y,q3y,q4y,q5y,q6y,q7y,q8y,q9y,q10y⟩:=c11 HNB.o;obtain⟨z0x,z1x,z2x,z3x,z4x,z5x,z6x,z7x,z8x,z9x,z10x⟩:=f11 UB.o.ob;obtain⟨q0x,q1x,q2x,q3x,q4x,q5x,q6x,q7x,q8x,q9x,q10x⟩:=c11 UB.o.ob;have hlo:=UB.o.ob.lt;have hly:=HNB.o.lt;obtain⟨w10,hW10,u10,hoth⟩:=UB.o.allo hG (HMB.o.mono (show w.heap.size+2≤wr.heap.size by omega));have HI10:=Hd (HIB.o.oth hoth (by decide));have HN10:=Hd (HMB.o.othm hoth);have U10:=Hd u10;go_upto_region 12 with fail
    try rw[hW10]
    clear q0y q1y q2y q3y q4y q5y q6y q7y q8y q9y q10y;clear q0x q1x q2x q3x q4x q5x q6x q7x q8x q9x q10x;clear z0x z1x z2x z3x z4x z5x z6x z7x z8x z9x z10x;clear hW10 u10 hoth hlo hly UB HNB HMB HIB;obtain⟨d0,d1,d2⟩:=HI10.o.ifz HEC.o;obtain⟨w11,hW11,u11,hi11,hn11⟩:=U10.o.cnt HI10.o (show gc<wr.heap.size by omega) HN10.o hrl (c+1);have hR0:(0:Int)≤(R:Int):=by omega
    have hRl:(R:Int)<5:=by omega
    go_upto_region 7 with fail
    try rw[hW11]
    clear hW11 d0 d1 d2 U10 HI10 HN10;go_wp2;go_roundw;case rel=>exact⟨k+1,(Z,cs.set R (c+1)),_,_,_,_,_,by omega,by go_num,HNX,u11,hi11,apart_new (B:=wr.heap.size) hn11.m (fun q hq=>by injection hq with hq;subst hq;exact hgw)⟩
    case measure=>simp[intOf];omega
  ·obtain rfl:k=ps.length:=by omega
   have HE:=Hd (usA_yes (usA_end HMV.o h2 hst.o));obtain⟨D1,r1,rfl,_⟩:=id HUS.o.mm.m.t.b;obtain⟨D2,r2,rfl,_⟩:=id HUS.o.mm.m.t.f;obtain⟨D3,r3,rfl,_⟩:=id HUS.o.mm.m.l;obtain⟨D4,r4,rfl,_⟩:=id HUS.o.mm.m.o;obtain⟨D5,r5,rfl,_⟩:=id HUS.o.mm.k;obtain⟨q0o,q1o,q2o,q3o,q4o,q5o,q6o,q7o,q8o,q9o,q10o⟩:=c11 HUS.o.ob;obtain⟨q0x,q1x,q2x,q3x,q4x,q5x,q6x,q7x,q8x,q9x,q10x⟩:=c11 HUS.o.rb;obtain⟨z0x,z1x,z2x,z3x,z4x,z5x,z6x,z7x,z8x,z9x,z10x⟩:=f11 HUS.o.rb;have hlr:=HUS.o.rb.lt;have hlo:=HUS.o.ob.lt;go_wp2;obtain⟨_,rfl,hoz,hotz,_,_,hbz⟩:=put11 HUS.o.rb (.slice D1 X.m.t.bs.length r1) (.slice D2 X.m.t.fs.length r2) (.slice D3 X.m.c.ls.length r3) (.int .i64 X.m.c.hand) (.int .i64 X.m.g.count) (.int .i64 X.m.g.next) (.int .i64 X.m.g.round) (.slice D4 X.m.g.os.length r4) (.int .i64 X.m.sp) (.slice D5 X.mk.length r5) (.int .i64 X.h);obtain⟨q0t,q1t,q2t,q3t,q4t,q5t,q6t,q7t,q8t,q9t,q10t⟩:=c11 hoz;have hcl:cs.length=5:=usL_len hst.o;refine bodyPost_ret (v:=.tuple #[.agg #[.slice D1 X.m.t.bs.length r1,.slice D2 X.m.t.fs.length r2,.slice D3 X.m.c.ls.length r3,.int .i64 X.m.c.hand,.int .i64 X.m.g.count,.int .i64 X.m.g.next,.int .i64 X.m.g.round,.slice D4 X.m.g.os.length r4,.int .i64 X.m.sp,.slice D5 X.mk.length r5,.int .i64 X.h],.slice (some ⟨gc,0,none⟩) 5 5,.bool true]) (by simp[results,Tryz.results22,go_sem,q0t,q1t,q2t,q3t,q4t,q5t,q6t,q7t,q8t,q9t,q10t]) rfl ⟨_,rfl,_,_,_,_,_,.slice (some ⟨gc,0,none⟩) 5 5,by rw[HE.o.1,HE.o.2.1],by rw[HE.o.2.1];exact(HUS.o.mm.othm hotz).mono (by omega), ?_,HAP.o,hbz w (by omega) HUS.o.bl⟩;rw[HE.o.2.2];exact(slm_of (n:=5) hcl.symm (by show cs.length≤5;omega) (by unfold maxLen;omega) (HMI.o.oth hotz (by decide))).mono (by omega)
end Go.Proofs.YtfbnokjdkhcgoaaGreatDoor
