/- A part of the proofs of this seat. -/
import Derived.Test.YtfbnokjdkhcgoaaGreatDoorCNmG
set_option linter.unusedVariables false
set_option linter.unusedSimpArgs false
set_option maxRecDepth 1000000
set_option maxHeartbeats 16000000
namespace Go.Proofs.YtfbnokjdkhcgoaaGreatDoor
open Go.RowKit
theorem ffr_neg{fs:List Fr}(h:¬0≤ffI fs):ffr fs=none:=by
 cases e:ffr fs with
 | none=>rfl
 | some k=>rw[ffI_some e]at h;omega
theorem br_free{M:Me}{k:Nat}(h:ffr M.m.t.fs=some k):brN M=some (M,k):=by unfold brN;rw[h]
theorem br_none{M:Me}(h:ffr M.m.t.fs=none)(hc:clR M=none):brN M=none:=by unfold brN;rw[h,hc]
theorem br_vic{M:Me}{mk:List Bool}{h a:Nat}{f:Fr}(hf:ffr M.m.t.fs=none)(hc:clR M=some (mk,h,a))(ef:M.m.t.fs[a]?=some f):brN M=some (⟨takV M.m f.s f.p,mk,h⟩,a):=by
 unfold brN;rw[hf,hc];simp only[getD_at ef]
theorem use_stay{M:Me}{p r:Int}(hm:misM M p=false):useN M p r=some M:=by unfold useN;rw[hm];rfl
theorem use_no1{M:Me}{p r:Int}(hm:misM M p=true)(hb:brN M=none):useN M p r=none:=by unfold useN brO;rw[hm,hb];rfl
theorem use_no2{M X:Me}{p r:Int}{a:Nat}(hm:misM M p=true)(hb:brN M=some (X,a))(hp:putOK X.m (keyI M.m.sp p) p a r=false):useN M p r=none:=by unfold useN brO brP;rw[hm,hb];simp[hp]
theorem use_yes{M X:Me}{p r:Int}{a:Nat}(hm:misM M p=true)(hb:brN M=some (X,a))(hp:putOK X.m (keyI M.m.sp p) p a r=true):useN M p r=some ⟨putV X.m (keyI M.m.sp p) p a r,X.mk,X.h⟩:=by unfold useN brO brP;rw[hm,hb];simp[hp]
theorem arr9{cs:Array Value}(h:cs.size=9):∃a0 a1 a2 a3 a4 a5 a6 a7 a8,cs=#[a0,a1,a2,a3,a4,a5,a6,a7,a8]:=by
 refine⟨cs[0],cs[1],cs[2],cs[3],cs[4],cs[5],cs[6],cs[7],cs[8], ?_⟩;refine Array.ext (by simpa using h) fun i hi hj=> ?_
 rcases i with _ | _ | _ | _ | _ | _ | _ | _ | _ | i<;>first | rfl | omega
theorem UsePage_any (vb vf vl vo vk:Value) (M:Me) (p n r:Int) (w:World) (hM:MeR w vb vf vl vo vk M) (hfree:Free w):
  Calls Tryz.prog 12 #[.agg #[vb,vf,vl,.int .i64 M.m.c.hand,.int .i64 M.m.g.count,.int .i64 M.m.g.next,.int .i64 M.m.g.round,vo,.int .i64 M.m.sp,vk,.int .i64 M.h],.int .i64 p,.int .i64 n,.int .i64 r] w (Post2 fun v w'=>∃v1 v2 v3 v4 v5,v=.tuple #[.agg #[v1,v2,v3,.int .i64 (useV M p n r).m.c.hand,.int .i64 (useV M p n r).m.g.count,.int .i64 (useV M p n r).m.g.next,.int .i64 (useV M p n r).m.g.round,v4,.int .i64 (useV M p n r).m.sp,v5,.int .i64 (useV M p n r).h],.int .i64 (useF M p n r),.int .i64 (useR M p n r),.bool (useO M p n r)]∧MeM w.heap.size w' v1 v2 v3 v4 v5 (useV M p n r)∧Below w.heap.size w w'):=by
 have HFR:=Hd hfree;have HM:=Hd hM;clear hfree hM;obtain⟨W0,hW,hbx,hbo,hb0,hs0⟩:=box2 w #[vb,vf,vl,.int .i64 M.m.c.hand,.int .i64 M.m.g.count,.int .i64 M.m.g.next,.int .i64 M.m.g.round,vo,.int .i64 M.m.sp,vk,.int .i64 M.h] 37 #[.slice none 0 0,.slice none 0 0,.slice none 0 0,.int .i64 0,.int .i64 0,.int .i64 0,.int .i64 0,.slice none 0 0,.int .i64 0,.slice none 0 0,.int .i64 0] 37;have HX0:=Hd hbx;have HO0:=Hd hbo;have HB0:=Hd hb0;clear hbx hbo hb0;obtain⟨q0a,q1a,q2a,q3a,q4a,q5a,q6a,q7a,q8a,q9a,q10a⟩:=c11 HX0.o
 go_enter Tryz.func12,Tryz.ntmps12
 go_wp2_with fail
 refine(MemoryValid_any vb vf vl vo vk M _ (HM.o.now HB0.o) (HFR.o.now HB0.o)).mono ?_;rintro e w1 ⟨rfl,hb1⟩;clear q0a q1a q2a q3a q4a q5a q6a q7a q8a q9a q10a;have HX1:=Hd (HX0.o.below hb1);have HO1:=Hd (HO0.o.below hb1);have HB1:=Hd (bT HB0.o hb1);have hs1:w.heap.size+2≤w1.heap.size:=by have:=hb1.size;omega
 clear hb1 HX0 HO0 HB0 hW
 have US1:Hi (Own w1 (w.heap.size+1) 37 #[.slice none 0 0,.slice none 0 0,.slice none 0 0,.int .i64 0,.int .i64 0,.int .i64 0,.int .i64 0,.slice none 0 0,.int .i64 0,.slice none 0 0,.int .i64 0]∧Below w.heap.size w w1):=⟨HO1.o,HB1.o⟩
 cases h1:mev M with
 | false=>
  have HA:Hi (useO M p n r=false):=useO_v h1;have HV:=Hd (useO_no HA.o);obtain⟨q0x,q1x,q2x,q3x,q4x,q5x,q6x,q7x,q8x,q9x,q10x⟩:=c11 HO1.o;obtain⟨z0x,z1x,z2x,z3x,z4x,z5x,z6x,z7x,z8x,z9x,z10x⟩:=f11 HO1.o;have hlr:=HO1.o.lt;go_wp2;obtain⟨_,rfl,hoz,_,_,_,_⟩:=put11 HO1.o (.slice none 0 0) (.slice none 0 0) (.slice none 0 0) (.int .i64 0) (.int .i64 0) (.int .i64 0) (.int .i64 0) (.slice none 0 0) (.int .i64 0) (.slice none 0 0) (.int .i64 0);obtain⟨q0t,q1t,q2t,q3t,q4t,q5t,q6t,q7t,q8t,q9t,q10t⟩:=c11 hoz;refine bodyPost_ret (v:=.tuple #[.agg #[.slice none 0 0,.slice none 0 0,.slice none 0 0,.int .i64 0,.int .i64 0,.int .i64 0,.int .i64 0,.slice none 0 0,.int .i64 0,.slice none 0 0,.int .i64 0],.int .i64 0,.int .i64 0,.bool false]) (by simp[results,Tryz.results12,go_sem,q0t,q1t,q2t,q3t,q4t,q5t,q6t,q7t,q8t,q9t,q10t]) rfl ⟨_,rfl,_,_,_,_,_,by rw[HV.o.1,HV.o.2.1,HV.o.2.2,HA.o];rfl,by rw[HV.o.1];exact mem_z, ?_⟩;repeat (refine bS ?_ (by simp<;>omega))
  exact HB1.o
 | true=>
 cases h2:inR p 256 with
 | false=>
  go_wp2_with fail
  refine(within_any _ _ _).mono ?_;rintro e w' ⟨rfl,rfl⟩;rw[h2];have HA:Hi (useO M p n r=false):=useO_p h2;have HV:=Hd (useO_no HA.o);obtain⟨q0x,q1x,q2x,q3x,q4x,q5x,q6x,q7x,q8x,q9x,q10x⟩:=c11 HO1.o;obtain⟨z0x,z1x,z2x,z3x,z4x,z5x,z6x,z7x,z8x,z9x,z10x⟩:=f11 HO1.o;have hlr:=HO1.o.lt;go_wp2;obtain⟨_,rfl,hoz,_,_,_,_⟩:=put11 HO1.o (.slice none 0 0) (.slice none 0 0) (.slice none 0 0) (.int .i64 0) (.int .i64 0) (.int .i64 0) (.int .i64 0) (.slice none 0 0) (.int .i64 0) (.slice none 0 0) (.int .i64 0);obtain⟨q0t,q1t,q2t,q3t,q4t,q5t,q6t,q7t,q8t,q9t,q10t⟩:=c11 hoz;refine bodyPost_ret (v:=.tuple #[.agg #[.slice none 0 0,.slice none 0 0,.slice none 0 0,.int .i64 0,.int .i64 0,.int .i64 0,.int .i64 0,.slice none 0 0,.int .i64 0,.slice none 0 0,.int .i64 0],.int .i64 0,.int .i64 0,.bool false]) (by simp[results,Tryz.results12,go_sem,q0t,q1t,q2t,q3t,q4t,q5t,q6t,q7t,q8t,q9t,q10t]) rfl ⟨_,rfl,_,_,_,_,_,by rw[HV.o.1,HV.o.2.1,HV.o.2.2,HA.o];rfl,by rw[HV.o.1];exact mem_z, ?_⟩;repeat (refine bS ?_ (by simp<;>omega))
  exact HB1.o
 | true=>
 go_wp2_with fail
 refine(within_any _ _ _).mono ?_;rintro e w' ⟨rfl,rfl⟩;rw[h2]
 cases h3:inR n 8 with
 | false=>
  go_wp2_with fail
  refine(RightsValid_any _ _).mono ?_;rintro e w' ⟨rfl,rfl⟩;rw[h3];have HA:Hi (useO M p n r=false):=useO_n h3;have HV:=Hd (useO_no HA.o);obtain⟨q0x,q1x,q2x,q3x,q4x,q5x,q6x,q7x,q8x,q9x,q10x⟩:=c11 HO1.o;obtain⟨z0x,z1x,z2x,z3x,z4x,z5x,z6x,z7x,z8x,z9x,z10x⟩:=f11 HO1.o;have hlr:=HO1.o.lt;go_wp2;obtain⟨_,rfl,hoz,_,_,_,_⟩:=put11 HO1.o (.slice none 0 0) (.slice none 0 0) (.slice none 0 0) (.int .i64 0) (.int .i64 0) (.int .i64 0) (.int .i64 0) (.slice none 0 0) (.int .i64 0) (.slice none 0 0) (.int .i64 0);obtain⟨q0t,q1t,q2t,q3t,q4t,q5t,q6t,q7t,q8t,q9t,q10t⟩:=c11 hoz;refine bodyPost_ret (v:=.tuple #[.agg #[.slice none 0 0,.slice none 0 0,.slice none 0 0,.int .i64 0,.int .i64 0,.int .i64 0,.int .i64 0,.slice none 0 0,.int .i64 0,.slice none 0 0,.int .i64 0],.int .i64 0,.int .i64 0,.bool false]) (by simp[results,Tryz.results12,go_sem,q0t,q1t,q2t,q3t,q4t,q5t,q6t,q7t,q8t,q9t,q10t]) rfl ⟨_,rfl,_,_,_,_,_,by rw[HV.o.1,HV.o.2.1,HV.o.2.2,HA.o];rfl,by rw[HV.o.1];exact mem_z, ?_⟩;repeat (refine bS ?_ (by simp<;>omega))
  exact HB1.o
 | true=>
 go_wp2_with fail
 refine(RightsValid_any _ _).mono ?_;rintro e w' ⟨rfl,rfl⟩;rw[h3]
 cases h4:inR r 8 with
 | false=>
  go_wp2_with fail
  refine(RightsValid_any _ _).mono ?_;rintro e w' ⟨rfl,rfl⟩;rw[h4];have HA:Hi (useO M p n r=false):=useO_r h4;have HV:=Hd (useO_no HA.o);obtain⟨q0x,q1x,q2x,q3x,q4x,q5x,q6x,q7x,q8x,q9x,q10x⟩:=c11 HO1.o;obtain⟨z0x,z1x,z2x,z3x,z4x,z5x,z6x,z7x,z8x,z9x,z10x⟩:=f11 HO1.o;have hlr:=HO1.o.lt;go_wp2;obtain⟨_,rfl,hoz,_,_,_,_⟩:=put11 HO1.o (.slice none 0 0) (.slice none 0 0) (.slice none 0 0) (.int .i64 0) (.int .i64 0) (.int .i64 0) (.int .i64 0) (.slice none 0 0) (.int .i64 0) (.slice none 0 0) (.int .i64 0);obtain⟨q0t,q1t,q2t,q3t,q4t,q5t,q6t,q7t,q8t,q9t,q10t⟩:=c11 hoz;refine bodyPost_ret (v:=.tuple #[.agg #[.slice none 0 0,.slice none 0 0,.slice none 0 0,.int .i64 0,.int .i64 0,.int .i64 0,.int .i64 0,.slice none 0 0,.int .i64 0,.slice none 0 0,.int .i64 0],.int .i64 0,.int .i64 0,.bool false]) (by simp[results,Tryz.results12,go_sem,q0t,q1t,q2t,q3t,q4t,q5t,q6t,q7t,q8t,q9t,q10t]) rfl ⟨_,rfl,_,_,_,_,_,by rw[HV.o.1,HV.o.2.1,HV.o.2.2,HA.o];rfl,by rw[HV.o.1];exact mem_z, ?_⟩;repeat (refine bS ?_ (by simp<;>omega))
  exact HB1.o
 | true=>
 go_wp2_with fail
 refine(RightsValid_any _ _).mono ?_;rintro e w' ⟨rfl,rfl⟩;rw[h4];obtain⟨a1,a2,a3,a4,a5,a6⟩:=mev_len h1;obtain⟨q0b,q1b,q2b,q3b,q4b,q5b,q6b,q7b,q8b,q9b,q10b⟩:=c11 HX1.o;go_wp2_with fail
 refine(Mclone_any vb vf vl vo vk M _ (HM.o.now HB1.o) a1 a2 a3 a4 (by omega)).mono ?_;rintro e w3 ⟨_,rfl,q1,q2,q3,q4,q5,rfl,hM3,hb3⟩;clear q0b q1b q2b q3b q4b q5b q6b q7b q8b q9b q10b;have hM3':=hM3.mono hs1;obtain⟨A1,c1,A2,c2,A3,c3,A4,c4,g5,c5,rfl,rfl,rfl,rfl,rfl⟩:=hM3'.open a6;obtain⟨w4,hW4,ho4,hb4,hs4⟩:=box1 w3 #[.slice A1 M.m.t.bs.length c1,.slice A2 M.m.t.fs.length c2,.slice A3 M.m.c.ls.length c3,.int .i64 M.m.c.hand,.int .i64 M.m.g.count,.int .i64 M.m.g.next,.int .i64 M.m.g.round,.slice A4 M.m.g.os.length c4,.int .i64 M.m.sp,.slice (some ⟨g5,0,none⟩) M.mk.length c5,.int .i64 M.h] 37
 have U4:Hi (Us w w3.heap.size (.slice A1 M.m.t.bs.length c1) (.slice A2 M.m.t.fs.length c2) (.slice A3 M.m.c.ls.length c3) (.slice A4 M.m.g.os.length c4) (.slice (some ⟨g5,0,none⟩) M.mk.length c5) M w4):=⟨ho4,hM3'.now hb4,(HO1.o.below hb3).below hb4,bT (bT HB1.o hb3) hb4⟩
 have HX4:=Hd ((HX1.o.below hb3).below hb4);have hG:w.heap.size+2≤w3.heap.size:=by have:=hb3.size;omega
 have HV1:=Hd (And.intro h1 (And.intro h2 (And.intro h3 h4)));have HMV:=Hd (mev_MEV.1 h1);clear hM3 hM3' hb3 ho4 hb4 HX1 HO1 HB1 US1 h1 h2 h3 h4;go_upto_region 4 with fail
 try rw[hW4]
 clear hW4;have n8:=HX4.c 8 (.int .i64 M.m.sp) rfl;go_wp2_with fail
 refine(KeyFor_any M.m.sp p _).mono ?_;rintro e w5 ⟨rfl,hb5⟩;obtain⟨w6,hW6,ho6,hb6,hs6⟩:=box1 w5 #[.int .i64 (keyI M.m.sp p),.int .i64 p] 54;go_upto_region 5 with fail
 try rw[hW6]
 have U6:=Hd (U4.o.below (bT hb5 hb6));have HX6:=Hd (HX4.o.below (bT hb5 hb6));have HK6:=Hd ho6;have hkG:w3.heap.size<w5.heap.size:=by have:=hb5.size;omega
 clear n8 hW6 ho6 hb5 hb6 U4 HX4 hs4;have n0:=HX6.c 0 (vb) rfl;have n1:=HX6.c 1 (vf) rfl;have k0:=HK6.c 0 (.int .i64 (keyI M.m.sp p)) rfl;have k1:=HK6.c 1 (.int .i64 p) rfl;go_wp2_with fail
 refine(find_any vb vf M.m.t (keyI M.m.sp p) p _ (HM.o.m.t.now U6.o.bl)).mono ?_;rintro e w7 ⟨rfl,hb7⟩;have U7:=Hd (U6.o.below hb7);have HK7:=Hd (HK6.o.below hb7);have hmis:misM M p=decide (fndI M.m.t.fs (keyI M.m.sp p) p<0):=rfl;clear n0 n1 k0 k1 hb7 U6 HX6 HK6 hs6;generalize hZ:fndI M.m.t.fs (keyI M.m.sp p) p=Z at hmis⊢;have HMIS:=Hd hmis;clear hZ hmis;go_upto_if 60 with fail
 go_cut [14]from 15 (fun u wx=>∃(N:Me) (v1 v2 v3 v4 v5:Value),u=.bool (misM M p)∧Hi (useN M p r=some N)∧Hi (Us w w3.heap.size v1 v2 v3 v4 v5 N wx))
 case first=>
  by_cases hz:Z<0
  ·have HM1:Hi (misM M p=true):=by show _=_;rw[HMIS.o];exact decide_eq_true hz
   obtain⟨q0o,q1o,q2o,q3o,q4o,q5o,q6o,q7o,q8o,q9o,q10o⟩:=c11 U7.o.ob;go_wp2_with fail
   refine(FreeFrame_any _ _ _ _ _ M _ U7.o.mm.r (HFR.o.now U7.o.bl)).mono ?_;rintro e w8 ⟨rfl,hb8⟩;clear q0o q1o q2o q3o q4o q5o q6o q7o q8o q9o q10o;have U8:=Hd (U7.o.below hb8);have HK8:=Hd (HK7.o.below hb8);have hs8:=hb8.size;clear U7 HK7 hb8
   obtain⟨FV,hFV⟩:∃FV,ffV M=FV:=⟨_,rfl⟩
   obtain⟨FO,hFO⟩:∃FO,ffO M=FO:=⟨_,rfl⟩
   rw[hFV,hFO];have HFV:=Hd hFV;have HFO:=Hd hFO;clear hFV hFO;go_upto_if 67 with fail
   go_cut [15]from 16 (fun u wx=>∃(X:Me) (a:Nat) (v1 v2 v3 v4 v5:Value),u=.int .i64 a∧Hi (brN M=some (X,a))∧Hi (Us w w3.heap.size v1 v2 v3 v4 v5 X wx)∧Hi (Own wx w5.heap.size 54 #[.int .i64 (keyI M.m.sp p),.int .i64 p]))
   case first=>
    cases FO with
    | true=>
     have hO:=HFO.o
     have h0:0≤ffI M.m.t.fs:=by
      unfold ffO at hO;rw[Bool.and_eq_true]at hO;exact of_decide_eq_true hO.2
     obtain⟨k,hk,hf,_⟩:=ffI_lt h0;have hv:FV=(k:Int):=by rw[←HFV.o];unfold ffV;rw[if_pos hO,hk]
     have HBR:=Hd (br_free hf);clear hO h0 hk hf;subst hv;go_wp2;go_meet
     exact⟨M,k,_,_,_,_,_,rfl,HBR,U8,HK8⟩
    | false=>
     have hffn:ffr M.m.t.fs=none:=by
      refine ffr_neg fun h=> ?_
      have hO:=HFO.o;unfold ffO at hO;rw[HV1.o.1,decide_eq_true h]at hO;cases hO
     have HFN:=Hd hffn;clear hffn;obtain⟨q0o,q1o,q2o,q3o,q4o,q5o,q6o,q7o,q8o,q9o,q10o⟩:=c11 U8.o.ob;have HFV9:=Hd (FrameVictim_any _ _ _ _ _ M _ U8.o.mm.r (HFR.o.now U8.o.bl))
     cases hc:clR M with
     | none=>
      have hO:=clO_none hc;have hM0:=clO_no hO;rw[hO,hM0.1,hM0.2]at HFV9;have HNO:Hi (useO M p n r=false):=useO_none (use_no1 HM1.o (br_none HFN.o hc));clear hO hM0 hc;go_wp2_with fail
      refine HFV9.o.mono ?_;rintro e w9 ⟨_,rfl,q1,q2,q3,q4,q5,rfl,hM9,hb9⟩;clear q0o q1o q2o q3o q4o q5o q6o q7o q8o q9o q10o;have U9:=Hd (U8.o.below hb9);obtain⟨D1,r1,rfl,_⟩:=hM9.m.t.b;obtain⟨D2,r2,rfl,_⟩:=hM9.m.t.f;obtain⟨D3,r3,rfl,_⟩:=hM9.m.l;obtain⟨D4,r4,rfl,_⟩:=hM9.m.o;obtain⟨D5,r5,rfl,_⟩:=hM9.k;obtain⟨wb,hWb,hob,hbb,hsb⟩:=box1 w9 #[.slice D1 mez.m.t.bs.length r1,.slice D2 mez.m.t.fs.length r2,.slice D3 mez.m.c.ls.length r3,.int .i64 mez.m.c.hand,.int .i64 mez.m.g.count,.int .i64 mez.m.g.next,.int .i64 mez.m.g.round,.slice D4 mez.m.g.os.length r4,.int .i64 mez.m.sp,.slice D5 mez.mk.length r5,.int .i64 mez.h] 37;have UB:=Hd (U9.o.below hbb);go_upto_region 10 with fail
      try rw[hWb]
      clear hWb hob hbb hM9 hb9 HFV9 U8 U9;have HA:Hi (useO M p n r=false):=HNO.o;have HV:=Hd (useO_no HA.o);have HRR:=Hd UB.o.rb;have HBB:=Hd UB.o.bl;obtain⟨q0x,q1x,q2x,q3x,q4x,q5x,q6x,q7x,q8x,q9x,q10x⟩:=c11 HRR.o;obtain⟨z0x,z1x,z2x,z3x,z4x,z5x,z6x,z7x,z8x,z9x,z10x⟩:=f11 HRR.o;have hlr:=HRR.o.lt;go_wp2;obtain⟨_,rfl,hoz,_,_,_,_⟩:=put11 HRR.o (.slice none 0 0) (.slice none 0 0) (.slice none 0 0) (.int .i64 0) (.int .i64 0) (.int .i64 0) (.int .i64 0) (.slice none 0 0) (.int .i64 0) (.slice none 0 0) (.int .i64 0);obtain⟨q0t,q1t,q2t,q3t,q4t,q5t,q6t,q7t,q8t,q9t,q10t⟩:=c11 hoz;refine bodyPost_ret (v:=.tuple #[.agg #[.slice none 0 0,.slice none 0 0,.slice none 0 0,.int .i64 0,.int .i64 0,.int .i64 0,.int .i64 0,.slice none 0 0,.int .i64 0,.slice none 0 0,.int .i64 0],.int .i64 0,.int .i64 0,.bool false]) (by simp[results,Tryz.results12,go_sem,q0t,q1t,q2t,q3t,q4t,q5t,q6t,q7t,q8t,q9t,q10t]) rfl ⟨_,rfl,_,_,_,_,_,by rw[HV.o.1,HV.o.2.1,HV.o.2.2,HA.o];rfl,by rw[HV.o.1];exact mem_z, ?_⟩;repeat (refine bS ?_ (by simp<;>omega))
      exact HBB.o
     | some rr=>
      obtain⟨mk,hd,a⟩:=rr;obtain⟨hO,hM0,hA0⟩:=clO_at HV1.o.1 hc;have hcl:=HMV.o.clk hc;obtain⟨f,ef,hu⟩:=usedAt_iff.1 hcl.us;have htk:=HMV.o.m.takO ef hu;have HBR:=Hd (br_vic HFN.o hc ef);have hln:mk.length=M.mk.length:=hcl.ln;have hal:a<M.mk.length:=hcl.at_
      obtain⟨N0,hN0⟩:∃N0:Me,N0=⟨M.m,mk,(hd:Int)⟩:=⟨_,rfl⟩
      rw[←hN0]at hM0;rw[hO,hM0,hA0]at HFV9;have e1:N0.m=M.m:=by rw[hN0]
      have e2:N0.mk=mk:=by rw[hN0]
      have e3:N0.h=(hd:Int):=by rw[hN0]
      rw[←e1]at ef htk;have HEF:=Hd ef;have hfl:a<N0.m.t.fs.length:=(List.getElem?_eq_some_iff.1 ef).1;have hmkl:1≤N0.mk.length:=by rw[e2,hln];exact a6
      obtain⟨T,hT⟩:∃T,takV N0.m f.s f.p=T:=⟨_,rfl⟩
      rw[←e1,←e2,←e3,hT]at HBR;have HTO:=Hd (And.intro htk hT);clear hO hM0 hA0 hcl hu htk ef hln hal hN0 e1 e2 e3 hT hc;go_wp2_with fail
      refine HFV9.o.mono ?_;rintro e w8b ⟨_,rfl,q1,q2,q3,q4,q5,rfl,hM9,hb9⟩;clear q0o q1o q2o q3o q4o q5o q6o q7o q8o q9o q10o;have hM9':=hM9.mono (show w.heap.size+2≤w8.heap.size by have:=U8.o.ob.lt;omega);obtain⟨D1,r1,D2,r2,D3,r3,D4,r4,g6,r6,rfl,rfl,rfl,rfl,rfl⟩:=hM9'.open hmkl;obtain⟨wb,hWb,hob,hbb,hsb⟩:=box1 w8b #[.slice D1 N0.m.t.bs.length r1,.slice D2 N0.m.t.fs.length r2,.slice D3 N0.m.c.ls.length r3,.int .i64 N0.m.c.hand,.int .i64 N0.m.g.count,.int .i64 N0.m.g.next,.int .i64 N0.m.g.round,.slice D4 N0.m.g.os.length r4,.int .i64 N0.m.sp,.slice (some ⟨g6,0,none⟩) N0.mk.length r6,.int .i64 N0.h] 37;have UB:=Hd ((U8.o.below hb9).below hbb);have HKB:=Hd ((HK8.o.below hb9).below hbb);have HNB:=Hd hob;have HMB:=Hd (hM9'.now hbb);have hsz9:=hb9.size;clear hob hbb hM9 hM9' hb9 HFV9 U8 HK8;go_upto_region 12 with fail
      try rw[hWb]
      clear hWb;obtain⟨q0y,q1y,q2y,q3y,q4y,q5y,q6y,q7y,q8y,q9y,q10y⟩:=c11 HNB.o;obtain⟨z0x,z1x,z2x,z3x,z4x,z5x,z6x,z7x,z8x,z9x,z10x⟩:=f11 UB.o.ob;obtain⟨q0x,q1x,q2x,q3x,q4x,q5x,q6x,q7x,q8x,q9x,q10x⟩:=c11 UB.o.ob;have hlo:=UB.o.ob.lt;have hly:=HNB.o.lt;obtain⟨w9,hW9,u9,hs9,hfar9⟩:=UB.o.all hG HMB.o;go_upto_region 13 with fail
      try rw[hW9]
      clear q0y q1y q2y q3y q4y q5y q6y q7y q8y q9y q10y;clear q0x q1x q2x q3x q4x q5x q6x q7x q8x q9x q10x;clear z0x z1x z2x z3x z4x z5x z6x z7x z8x z9x z10x;have U9:=Hd u9;have HK9:=Hd (hfar9 _ _ _ (by omega) HKB.o);have HB9:=Hd u9.bl;clear hW9 hfar9 u9 UB HKB HNB HMB hlo hly;obtain⟨bf,of_,e0,hbf,_⟩:=(slm_is U9.o.mm.m.t.f).fr HEF.o;subst e0;have hbM:MeM (w.heap.size+2) w9 (.slice D1 N0.m.t.bs.length r1) (.slice (some ⟨bf,of_,none⟩) N0.m.t.fs.length r2) (.slice D3 N0.m.c.ls.length r3) (.slice D4 N0.m.g.os.length r4) (.slice (some ⟨g6,0,none⟩) N0.mk.length r6) N0:=U9.o.mm;have hsw9:=U9.o.ob.lt;have hbw9:w.heap.size≤w9.heap.size:=U9.o.bl.size;have HTP:=Hd (fun(v:World) (e1 e2 e3 e4:Value) (h:MaR v e1 e2 e3 e4 N0.m) (hb:Below w9.heap.size w9 v)=>TakePage_any e1 e2 e3 e4 N0.m f.s f.p v h (HFR.o.now (bT HB9.o hb)));rw[HTO.o.1,HTO.o.2]at HTP;refine wp_region_kp (by kernel_rfl) [80,81,82,83,84,85,86,87,88,89,90,79,91,92,20,21] [80,81,82,83,84,85,86,87,88,89,90,79,91,92,20,20,21] 34 (fun g=>g<w9.heap.size) (w9.heap.size) 15 [KP.eq (.pointer (some ⟨w3.heap.size,0,none⟩)),KP.eq (.agg #[.slice D1 N0.m.t.bs.length r1,.slice (some ⟨bf,of_,none⟩) N0.m.t.fs.length r2,.slice D3 N0.m.c.ls.length r3,.int .i64 N0.m.c.hand,.int .i64 N0.m.g.count,.int .i64 N0.m.g.next,.int .i64 N0.m.g.round,.slice D4 N0.m.g.os.length r4,.int .i64 N0.m.sp]),KP.eq (.pointer (some ⟨w3.heap.size,0,none⟩)),KP.eq (.pointer (some ⟨w3.heap.size,0,none⟩)),KP.eq (.pointer (some ⟨w3.heap.size,1,none⟩)),KP.eq (.slice (some ⟨bf,of_,none⟩) N0.m.t.fs.length r2),KP.eq (.int .i64 (a:Int)),KP.eq (.pointer (some ⟨bf,of_+a*5,none⟩)),KP.eq (.pointer (some ⟨bf,of_+a*5+1,none⟩)),KP.eq (.agg #[.int .i64 f.s,.int .i64 f.p]),KP.tup okT_ma (w9.heap.size) (T) [.bool true],KP.tup okT_ma (w9.heap.size) (T) [.bool true],KP.ma okT_ma (w9.heap.size) (T),KP.eq (.bool true),KP.box (w9.heap.size) 9,KP.eq (.bool true),KP.eq (.bool true)] (fun u v=>∃g e1 e2 e3 e4,u=.pointer (some ⟨g,0,none⟩)∧w9.heap.size≤g∧Own v g 34 #[e1,e2,e3,.int .i64 T.c.hand,.int .i64 T.g.count,.int .i64 T.g.next,.int .i64 T.g.round,e4,.int .i64 T.sp]∧MaM (w9.heap.size) v e1 e2 e3 e4 T) (fun v=>(Below (w9.heap.size) w9 v)∧(Own v (w3.heap.size) 37 #[.slice D1 N0.m.t.bs.length r1,.slice (some ⟨bf,of_,none⟩) N0.m.t.fs.length r2,.slice D3 N0.m.c.ls.length r3,.int .i64 N0.m.c.hand,.int .i64 N0.m.g.count,.int .i64 N0.m.g.next,.int .i64 N0.m.g.round,.slice D4 N0.m.g.os.length r4,.int .i64 N0.m.sp,.slice (some ⟨g6,0,none⟩) N0.mk.length r6,.int .i64 N0.h])∧(MeM (w.heap.size+2) v (.slice D1 N0.m.t.bs.length r1) (.slice (some ⟨bf,of_,none⟩) N0.m.t.fs.length r2) (.slice D3 N0.m.c.ls.length r3) (.slice D4 N0.m.g.os.length r4) (.slice (some ⟨g6,0,none⟩) N0.mk.length r6) N0)) (by kernel_rfl) rfl ⟨bD bR,U9.o.ob.drew,U9.o.mm.now (bD bR)⟩ (fun v h=>Nat.le_trans (by omega) h.1.size) (fun v v' ht ⟨hb,h_o,hmm⟩=>⟨hb.trans ht.bel,ht.oth.2 _ _ _ h_o (by decide),hmm.tS okT_ma ht⟩) (fun u v v' hb ⟨g,e1,e2,e3,e4,h1,h2,h3,h4⟩=>⟨g,e1,e2,e3,e4,h1,h2,h3.below hb,h4.now hb⟩) ?_ ?_
      ·intro i o ho x v hC hd K hK
       match i,ho with
       | 0,ho=>
        cases ho;simp only[fillA,Act.put,sA9,sB9,sC9]at hK⊢;go_simp;exact hK _ _ kpT_same rfl
       | 1,ho=>
        cases ho;simp only[fillA,Act.put,sA9,sB9,sC9]at hK⊢;obtain⟨hbw,hx_o,hmm⟩:=hC;obtain⟨z0,z1,z2,z3,z4,z5,z6,z7,z8,z9,z10⟩:=c11 hx_o;have d0:=hd 0 ⟨⟨0,.data⟩,by simp,rfl,rfl⟩ (by decide);change x 80=.pointer (some ⟨w3.heap.size,0,none⟩)at d0;simp only[d0]at hK⊢;go_simp;exact hK _ _ kpT_same rfl
       | 2,ho=>
        cases ho;simp only[fillA,Act.put,sA9,sB9,sC9]at hK⊢;go_simp;exact hK _ _ kpT_same rfl
       | 3,ho=>
        cases ho;simp only[fillA,Act.put,sA9,sB9,sC9]at hK⊢;have d0:=hd 2 ⟨⟨2,.data⟩,by simp,rfl,rfl⟩ (by decide);change x 82=.pointer (some ⟨w3.heap.size,0,none⟩)at d0;simp only[d0]at hK⊢;go_simp;exact hK _ _ kpT_same rfl
       | 4,ho=>
        cases ho;simp only[fillA,Act.put,sA9,sB9,sC9]at hK⊢;have d0:=hd 3 ⟨⟨3,.data⟩,by simp,rfl,rfl⟩ (by decide);change x 83=.pointer (some ⟨w3.heap.size,0,none⟩)at d0;simp only[d0]at hK⊢;go_simp;exact hK _ _ kpT_same rfl
       | 5,ho=>
        cases ho;simp only[fillA,Act.put,sA9,sB9,sC9]at hK⊢;obtain⟨hbw,hx_o,hmm⟩:=hC;have z1:=hx_o.cell_ 1 (v:=.slice (some ⟨bf,of_,none⟩) N0.m.t.fs.length r2) rfl;have d0:=hd 4 ⟨⟨4,.data⟩,by simp,rfl,rfl⟩ (by decide);change x 84=.pointer (some ⟨w3.heap.size,1,none⟩)at d0;simp only[d0]at hK⊢;go_simp;exact hK _ _ kpT_same rfl
       | 6,ho=>
        cases ho;simp only[fillA,Act.put,sA9,sB9,sC9]at hK⊢;go_simp;exact hK _ _ kpT_same rfl
       | 7,ho=>
        cases ho;simp only[fillA,Act.put,sA9,sB9,sC9]at hK⊢;have d0:=hd 5 ⟨⟨5,.data⟩,by simp,rfl,rfl⟩ (by decide);change x 85=.slice (some ⟨bf,of_,none⟩) N0.m.t.fs.length r2 at d0;have d1:=hd 6 ⟨⟨6,.data⟩,by simp,rfl,rfl⟩ (by decide);change x 86=.int .i64 (a:Int)at d1;simp only[d0,d1]at hK⊢;have hi0:(0:Int)≤(a:Int):=by omega
        go_simp
        exact hK _ _ kpT_same rfl
       | 8,ho=>
        cases ho;simp only[fillA,Act.put,sA9,sB9,sC9]at hK⊢;have d0:=hd 7 ⟨⟨7,.data⟩,by simp,rfl,rfl⟩ (by decide);change x 87=.pointer (some ⟨bf,of_+a*5,none⟩)at d0;simp only[d0]at hK⊢;go_simp;exact hK _ _ kpT_same rfl
       | 9,ho=>
        cases ho;simp only[fillA,Act.put,sA9,sB9,sC9]at hK⊢;obtain⟨hbw,hx_o,hmm⟩:=hC;obtain⟨bq,oq,eq,_,y0,y1,y2,y3,y4⟩:=(slm_is hmm.m.t.f).fr HEF.o;injection eq with eq;injection eq with eq1 eq2 _;subst eq1 eq2;have d0:=hd 8 ⟨⟨8,.data⟩,by simp,rfl,rfl⟩ (by decide);change x 88=.pointer (some ⟨bf,of_+a*5+1,none⟩)at d0;simp only[d0]at hK⊢;go_simp;exact hK _ _ kpT_same rfl
       | 10,ho=>
        cases ho;simp only[fillA,Act.put,sA9,sB9,sC9]at hK⊢;obtain⟨hbw,hx_o,hmm⟩:=hC;have d0:=hd 1 ⟨⟨1,.data⟩,by simp,rfl,rfl⟩ (by decide);change x 81=.agg #[.slice D1 N0.m.t.bs.length r1,.slice (some ⟨bf,of_,none⟩) N0.m.t.fs.length r2,.slice D3 N0.m.c.ls.length r3,.int .i64 N0.m.c.hand,.int .i64 N0.m.g.count,.int .i64 N0.m.g.next,.int .i64 N0.m.g.round,.slice D4 N0.m.g.os.length r4,.int .i64 N0.m.sp]at d0;have d1:=hd 9 ⟨⟨9,.data⟩,by simp,rfl,rfl⟩ (by decide);change x 89=.agg #[.int .i64 f.s,.int .i64 f.p]at d1;simp only[d0,d1]at hK⊢;go_wp2_with fail
        refine(HTP.o v _ _ _ _ hmm.m.r hbw).mono ?_;rintro e v' ⟨_,rfl,f1,f2,f3,f4,rfl,hm1,hb⟩;go_simp;exact hK _ _ (kpT_below (by decide) hb) ⟨_,_,_,_,rfl,hm1.mono hbw.size⟩
       | 11,ho=>
        cases ho;simp only[fillA,Act.put,sA9,sB9,sC9]at hK⊢;have d0:=hd 10 ⟨⟨10,.data⟩,by simp,rfl,rfl⟩ (by decide);obtain⟨e1,e2,e3,e4,d0,hmX⟩:=d0;change x 90=_ at d0;simp only[d0]at hK⊢;go_simp;exact hK _ _ kpT_same ⟨_,_,_,_,rfl,hmX⟩
       | 12,ho=>
        cases ho;simp only[fillA,Act.put,sA9,sB9,sC9]at hK⊢;have d0:=hd 11 ⟨⟨11,.data⟩,by simp,rfl,rfl⟩ (by decide);obtain⟨e1,e2,e3,e4,d0,hmX⟩:=d0;change x 79=_ at d0;simp only[d0]at hK⊢;go_simp;exact hK _ _ kpT_same ⟨_,_,_,_,rfl,hmX⟩
       | 13,ho=>
        cases ho;simp only[fillA,Act.put,sA9,sB9,sC9]at hK⊢;have d0:=hd 11 ⟨⟨11,.data⟩,by simp,rfl,rfl⟩ (by decide);obtain⟨e1,e2,e3,e4,d0,hmX⟩:=d0;change x 79=_ at d0;simp only[d0]at hK⊢;go_simp;exact hK _ _ kpT_same rfl
       | 14,ho=>
        cases ho;simp only[fillA,Act.put,sA9,sB9,sC9]at hK⊢;go_simp;exact hK _ _ (kpT_below (by decide) (bA bR)) ⟨_,_,rfl,(by have:=hC.1.size;omega),rfl,Own.new_ _ _ _⟩
       | 15,ho=>
        cases ho;simp only[fillA,Act.put,sA9,sB9,sC9]at hK⊢;have d11:=hd 14 ⟨⟨14,.data⟩,by simp,rfl,rfl⟩ (by decide);obtain⟨gb,cb,d11,hgb,hnb,hob⟩:=d11;change x 20=_ at d11;have d9:=hd 12 ⟨⟨12,.data⟩,by simp,rfl,rfl⟩ (by decide);obtain⟨e1,e2,e3,e4,d9,hmX⟩:=d9;change x 91=_ at d9;obtain⟨E1,s1,E2,s2,E3,s3,E4,s4,rfl,rfl,rfl,rfl⟩:=hmX.open;obtain⟨a0,a1,a2,a3,a4,a5,a6,a7,a8,rfl⟩:=arr9 hnb;obtain⟨y0,y1,y2,y3,y4,y5,y6,y7,y8⟩:=cells9 hob;obtain⟨z0,z1,z2,z3,z4,z5,z6,z7,z8⟩:=free9 hob;have hlo:=hob.lt;simp only[d9,d11]at hK⊢;go_simp;have hS:tS 34 (fun g=>g<w9.heap.size) (w9.heap.size) v (sets gb 0 [.slice E1 T.t.bs.length s1,.slice E2 T.t.fs.length s2,.slice E3 T.c.ls.length s3,.int .i64 T.c.hand,.int .i64 T.g.count,.int .i64 T.g.next,.int .i64 T.g.round,.slice E4 T.g.os.length s4,.int .i64 T.sp] v):=tS.sets hob hgb (by omega) 0 _;refine hK undef _ (kpT_store hS) ⟨gb,_,_,_,_,d11,hgb,hob.set9 (.slice E1 T.t.bs.length s1) (.slice E2 T.t.fs.length s2) (.slice E3 T.c.ls.length s3) (.int .i64 T.c.hand) (.int .i64 T.g.count) (.int .i64 T.g.next) (.int .i64 T.g.round) (.slice E4 T.g.os.length s4) (.int .i64 T.sp),hmX.tS okT_ma hS⟩
       | 16,ho=>
        cases ho;simp only[fillA,Act.put,sA9,sB9,sC9]at hK⊢;have d0:=hd 13 ⟨⟨13,.data⟩,by simp,rfl,rfl⟩ (by decide);change x 92=.bool true at d0;simp only[d0]at hK⊢;go_simp;exact hK _ _ kpT_same rfl
       | _+17,ho=>simp at ho
      intro xa wz hC hd;obtain⟨g9,e1,e2,e3,e4,dS,hg9,ho9,hm9⟩:=hd 15 (by decide);change xa 20=_ at dS;obtain⟨hbz,hoz,hmz⟩:=hC;have dL21:=hd 16 (by decide);change xa 21=.bool true at dL21;simp only[fillA,Act.put,sA9,sB9,sC9,dS,dL21];clear hd dS dL21;have U10:=Hd (U9.o.below hbz);have HK10:=Hd (HK9.o.below hbz);clear hbz hoz hmz HK9 HB9 HTP;obtain⟨E1,s1,E2,s2,E3,s3,E4,s4,rfl,rfl,rfl,rfl⟩:=hm9.open;obtain⟨y0,y1,y2,y3,y4,y5,y6,y7,y8⟩:=cells9 ho9;obtain⟨q0x,q1x,q2x,q3x,q4x,q5x,q6x,q7x,q8x,q9x,q10x⟩:=c11 U10.o.ob;obtain⟨z0x,z1x,z2x,z3x,z4x,z5x,z6x,z7x,z8x,z9x,z10x⟩:=f11 U10.o.ob;have hlo:=U10.o.ob.lt;have hlq:=(ho9).lt;obtain⟨_,rfl,u11,hs11,hfar11⟩:=U10.o.mach hG (MaM.mono hm9 (show w.heap.size+2≤w9.heap.size by omega));go_wp2;go_meet
      exact⟨⟨T,N0.mk,N0.h⟩,a,_,_,_,_,_,rfl,HBR,Hd u11,Hd (hfar11 _ _ _ (by omega) HK10.o)⟩
   case rest=>
    obtain⟨X,a,v1,v2,v3,v4,v5,rfl,HBR,UX,HKX⟩:=hcut;have hbx:=brN_at HMV.o HBR.o;have hswc:=UX.o.ob.lt;have HPP:=Hd (PutPage_any v1 v2 v3 v4 X.m (keyI M.m.sp p) p a r wc UX.o.mm.m.r (HFR.o.now UX.o.bl))
    obtain⟨P,hP⟩:∃P,putV X.m (keyI M.m.sp p) p a r=P:=⟨_,rfl⟩
    obtain⟨PO,hPO⟩:∃PO,putOK X.m (keyI M.m.sp p) p a r=PO:=⟨_,rfl⟩
    rw[hP,hPO]at HPP;have HP:=Hd (And.intro hP hPO);have hmkx:1≤X.mk.length:=by rw[hbx.2.1];exact a6
    clear hP hPO hbx U8;obtain⟨q0o,q1o,q2o,q3o,q4o,q5o,q6o,q7o,q8o,q9o,q10o⟩:=c11 UX.o.ob;have k0:=HKX.c 0 (.int .i64 (keyI M.m.sp p)) rfl;have k1:=HKX.c 1 (.int .i64 p) rfl;go_wp2_with fail
    refine HPP.o.mono ?_;rintro e w12 ⟨_,rfl,q1,q2,q3,q4,rfl,hM12,hb12⟩;clear q0o q1o q2o q3o q4o q5o q6o q7o q8o q9o q10o;clear k0 k1 HPP;obtain⟨E1,s1,E2,s2,E3,s3,E4,s4,rfl,rfl,rfl,rfl⟩:=hM12.open;obtain⟨w13,hW13,ho13,hb13,hs13⟩:=box1 w12 #[.slice E1 P.t.bs.length s1,.slice E2 P.t.fs.length s2,.slice E3 P.c.ls.length s3,.int .i64 P.c.hand,.int .i64 P.g.count,.int .i64 P.g.next,.int .i64 P.g.round,.slice E4 P.g.os.length s4,.int .i64 P.sp] 34;have U13:=Hd ((UX.o.below hb12).below hb13);have HQ13:=Hd ho13;have HM13:=Hd ((hM12.now hb13).mono (show w.heap.size+2≤wc.heap.size by omega));have hs12:=hb12.size;clear hM12 hb12 ho13 hb13 UX HKX;go_upto_region 18 with fail
    try rw[hW13]
    clear hW13
    cases PO with
    | false=>
     have HNO:Hi (useO M p n r=false):=useO_none (use_no2 HM1.o HBR.o HP.o.2);have HA:Hi (useO M p n r=false):=HNO.o;have HV:=Hd (useO_no HA.o);have HRR:=Hd U13.o.rb;have HBB:=Hd U13.o.bl;obtain⟨q0x,q1x,q2x,q3x,q4x,q5x,q6x,q7x,q8x,q9x,q10x⟩:=c11 HRR.o;obtain⟨z0x,z1x,z2x,z3x,z4x,z5x,z6x,z7x,z8x,z9x,z10x⟩:=f11 HRR.o;have hlr:=HRR.o.lt;go_wp2;obtain⟨_,rfl,hoz,_,_,_,_⟩:=put11 HRR.o (.slice none 0 0) (.slice none 0 0) (.slice none 0 0) (.int .i64 0) (.int .i64 0) (.int .i64 0) (.int .i64 0) (.slice none 0 0) (.int .i64 0) (.slice none 0 0) (.int .i64 0);obtain⟨q0t,q1t,q2t,q3t,q4t,q5t,q6t,q7t,q8t,q9t,q10t⟩:=c11 hoz;refine bodyPost_ret (v:=.tuple #[.agg #[.slice none 0 0,.slice none 0 0,.slice none 0 0,.int .i64 0,.int .i64 0,.int .i64 0,.int .i64 0,.slice none 0 0,.int .i64 0,.slice none 0 0,.int .i64 0],.int .i64 0,.int .i64 0,.bool false]) (by simp[results,Tryz.results12,go_sem,q0t,q1t,q2t,q3t,q4t,q5t,q6t,q7t,q8t,q9t,q10t]) rfl ⟨_,rfl,_,_,_,_,_,by rw[HV.o.1,HV.o.2.1,HV.o.2.2,HA.o];rfl,by rw[HV.o.1];exact mem_z, ?_⟩;repeat (refine bS ?_ (by simp<;>omega))
     exact HBB.o
    | true=>
     have hn:=use_yes HM1.o HBR.o HP.o.2;rw[HP.o.1]at hn;have HN:=Hd hn;clear hn;obtain⟨y0,y1,y2,y3,y4,y5,y6,y7,y8⟩:=cells9 HQ13.o;obtain⟨q0x,q1x,q2x,q3x,q4x,q5x,q6x,q7x,q8x,q9x,q10x⟩:=c11 U13.o.ob;obtain⟨z0x,z1x,z2x,z3x,z4x,z5x,z6x,z7x,z8x,z9x,z10x⟩:=f11 U13.o.ob;have hlo:=U13.o.ob.lt;have hlq:=(HQ13.o).lt;obtain⟨_,rfl,u11,hs11,hfar11⟩:=U13.o.mach hG (MaM.mono HM13.o (Nat.le_refl _));go_wp2;go_meet
     exact⟨⟨P,X.mk,X.h⟩,_,_,_,_,_,by rw[HM1.o],HN,Hd u11⟩
  ·have HM1:Hi (misM M p=false):=by show _=_;rw[HMIS.o];exact decide_eq_false hz
   have HN:=Hd (use_stay (r:=r) HM1.o);go_wp2;go_meet
   exact⟨M,_,_,_,_,_,by rw[HM1.o,decide_eq_false (show¬Z<0 by omega)],HN,U7⟩
 case rest=>
  obtain⟨N,v1,v2,v3,v4,v5,rfl,HN,UN⟩:=hcut;have hna:=useN_at HMV.o HN.o;obtain⟨htO,k,hk,hkl⟩:=useN_tch HMV.o HN.o HV1.o.2.1 HV1.o.2.2.1;obtain⟨hO,hVV,hFF,hRR⟩:=useO_some HV1.o.1 HV1.o.2.1 HV1.o.2.2.1 HV1.o.2.2.2 HN.o;rw[hk]at hFF;rw[hk,Int.toNat_natCast]at hVV;have HTP:=Hd (TouchPage_any v1 v2 v3 v4 N.m p n wc UN.o.mm.m.r (HFR.o.now UN.o.bl))
  obtain⟨T2,hT2⟩:∃T2,tchV N.m p n=T2:=⟨_,rfl⟩
  obtain⟨R,hR⟩:∃R,tchR N.m p n=R:=⟨_,rfl⟩
  rw[htO,hk,hT2,hR]at HTP;rw[hT2]at hVV;rw[hR]at hRR;have hmk1:1≤N.mk.length:=by rw[hna.2.1];exact a6
  have hmk16:N.mk.length≤16:=by rw[hna.2.1];exact a5
  obtain⟨x,ex⟩:∃x,N.mk[k]?=some x:=⟨_,List.getElem?_eq_getElem hkl⟩
  have EX:=Hd ex;have hRng:0≤R∧R≤4:=by rw[←hR];exact tchR_rng _ _ _
  have HRES:=Hd (And.intro hO (And.intro hVV (And.intro hFF hRR)));have hswc:=UN.o.ob.lt;clear hna htO hk hO hVV hFF hRR hT2 hR ex U7;obtain⟨q0o,q1o,q2o,q3o,q4o,q5o,q6o,q7o,q8o,q9o,q10o⟩:=c11 UN.o.ob;go_wp2_with fail
  refine HTP.o.mono ?_;rintro e w12 ⟨_,rfl,q1,q2,q3,q4,rfl,hM12,hb12⟩;clear q0o q1o q2o q3o q4o q5o q6o q7o q8o q9o q10o;clear HTP;obtain⟨E1,s1,E2,s2,E3,s3,E4,s4,rfl,rfl,rfl,rfl⟩:=hM12.open;obtain⟨w13,hW13,ho13,hb13,hs13⟩:=box1 w12 #[.slice E1 T2.t.bs.length s1,.slice E2 T2.t.fs.length s2,.slice E3 T2.c.ls.length s3,.int .i64 T2.c.hand,.int .i64 T2.g.count,.int .i64 T2.g.next,.int .i64 T2.g.round,.slice E4 T2.g.os.length s4,.int .i64 T2.sp] 34;have U13:=Hd ((UN.o.below hb12).below hb13);have HQ13:=Hd ho13;have HM13:=Hd ((hM12.now hb13).mono (show w.heap.size+2≤wc.heap.size by omega));have hs12:=hb12.size;clear hM12 hb12 ho13 hb13 UN;go_upto_region 22 with fail
  try rw[hW13]
  clear hW13;obtain⟨y0,y1,y2,y3,y4,y5,y6,y7,y8⟩:=cells9 HQ13.o;obtain⟨q0x,q1x,q2x,q3x,q4x,q5x,q6x,q7x,q8x,q9x,q10x⟩:=c11 U13.o.ob;obtain⟨z0x,z1x,z2x,z3x,z4x,z5x,z6x,z7x,z8x,z9x,z10x⟩:=f11 U13.o.ob;have hlo:=U13.o.ob.lt;have hlq:=(HQ13.o).lt;obtain⟨_,rfl,u11,hs11,hfar11⟩:=U13.o.mach hG (MaM.mono HM13.o (Nat.le_refl _))
  obtain⟨w14,hW14⟩:∃W,((((((((w13.setCell ⟨w3.heap.size,0,none⟩ (.slice E1 T2.t.bs.length s1)).setCell ⟨w3.heap.size,1,none⟩ (.slice E2 T2.t.fs.length s2)).setCell ⟨w3.heap.size,2,none⟩ (.slice E3 T2.c.ls.length s3)).setCell ⟨w3.heap.size,3,none⟩ (.int .i64 T2.c.hand)).setCell ⟨w3.heap.size,4,none⟩ (.int .i64 T2.g.count)).setCell ⟨w3.heap.size,5,none⟩ (.int .i64 T2.g.next)).setCell ⟨w3.heap.size,6,none⟩ (.int .i64 T2.g.round)).setCell ⟨w3.heap.size,7,none⟩ (.slice E4 T2.g.os.length s4)).setCell ⟨w3.heap.size,8,none⟩ (.int .i64 T2.sp)=W:=⟨_,rfl⟩
  rw[hW14]at u11;have U14:=Hd u11;go_upto_region 25 with fail
  try rw[hW14]
  clear hW14 u11 hfar11 hs11 U13 HQ13 HM13;clear y0 y1 y2 y3 y4 y5 y6 y7 y8 hlo hlq;clear q0x q1x q2x q3x q4x q5x q6x q7x q8x q9x q10x;clear z0x z1x z2x z3x z4x z5x z6x z7x z8x z9x z10x;obtain⟨g5,c5,e5⟩:=U14.o.mm.mk5 (show 1≤N.mk.length from hmk1);subst e5;have U14':Us w w3.heap.size _ _ _ _ (.slice (some ⟨g5,0,none⟩) N.mk.length c5) ⟨T2,N.mk,N.h⟩ w14:=U14.o;obtain⟨w15,hW15,u15,hs15⟩:=U14'.mark EX.o true;obtain⟨d0,d1,d2⟩:=U14'.fz EX.o;have n9:=U14'.ob.cell_ 9 (v:=.slice (some ⟨g5,0,none⟩) N.mk.length c5) rfl;have hlo:=U14'.ob.lt
  obtain⟨Z2,hZ2⟩:∃Z2:Me,(⟨T2,N.mk.set k true,N.h⟩:Me)=Z2:=⟨_,rfl⟩
  have u15':Us w w3.heap.size _ _ _ _ _ (⟨T2,N.mk.set k true,N.h⟩:Me) w15:=u15;rw[hZ2]at u15';have hV2:=HRES.o.2.1;rw[hZ2]at hV2;have U15:=Hd u15';have HVV:=Hd hV2;have HOO:=Hd HRES.o.1;have HFF:=Hd HRES.o.2.2.1;have HRR:=Hd HRES.o.2.2.2;clear u15 u15' hV2 hZ2 HRES;go_upto_region 26 with fail
  try rw[hW15]
  clear hW15 d0 d1 d2 n9 hlo U14 U14';generalize misM M p=mb at HRR⊢
  cases mb with
  | false=>
   have HRV:Hi (useR M p n r=R):=by show _=_;rw[HRR.o];simp
   obtain⟨q0o,q1o,q2o,q3o,q4o,q5o,q6o,q7o,q8o,q9o,q10o⟩:=c11 U15.o.ob;obtain⟨q0x,q1x,q2x,q3x,q4x,q5x,q6x,q7x,q8x,q9x,q10x⟩:=c11 U15.o.rb;obtain⟨z0x,z1x,z2x,z3x,z4x,z5x,z6x,z7x,z8x,z9x,z10x⟩:=f11 U15.o.rb;have hlr:=U15.o.rb.lt;have hlo:=U15.o.ob.lt;go_wp2;obtain⟨_,rfl,hoz,hotz,_,_,hbz⟩:=put11 U15.o.rb (.slice E1 T2.t.bs.length s1) (.slice E2 T2.t.fs.length s2) (.slice E3 T2.c.ls.length s3) (.int .i64 Z2.m.c.hand) (.int .i64 Z2.m.g.count) (.int .i64 Z2.m.g.next) (.int .i64 Z2.m.g.round) (.slice E4 T2.g.os.length s4) (.int .i64 Z2.m.sp) (.slice (some ⟨g5,0,none⟩) N.mk.length c5) (.int .i64 Z2.h);obtain⟨q0t,q1t,q2t,q3t,q4t,q5t,q6t,q7t,q8t,q9t,q10t⟩:=c11 hoz;refine bodyPost_ret (v:=.tuple #[.agg #[.slice E1 T2.t.bs.length s1,.slice E2 T2.t.fs.length s2,.slice E3 T2.c.ls.length s3,.int .i64 Z2.m.c.hand,.int .i64 Z2.m.g.count,.int .i64 Z2.m.g.next,.int .i64 Z2.m.g.round,.slice E4 T2.g.os.length s4,.int .i64 Z2.m.sp,.slice (some ⟨g5,0,none⟩) N.mk.length c5,.int .i64 Z2.h],.int .i64 k,.int .i64 R,.bool true]) (by simp[results,Tryz.results12,go_sem,q0t,q1t,q2t,q3t,q4t,q5t,q6t,q7t,q8t,q9t,q10t]) rfl ⟨_,rfl,_,_,_,_,_,by rw[HVV.o,HFF.o,HRV.o,HOO.o],by rw[HVV.o];exact(U15.o.mm.othm hotz).mono (by omega),hbz w (by omega) U15.o.bl⟩
  | true=>
   by_cases hR:R=2
   ·subst hR;have HRV:Hi (useR M p n r=3):=by show _=_;rw[HRR.o];simp
    obtain⟨q0o,q1o,q2o,q3o,q4o,q5o,q6o,q7o,q8o,q9o,q10o⟩:=c11 U15.o.ob;obtain⟨q0x,q1x,q2x,q3x,q4x,q5x,q6x,q7x,q8x,q9x,q10x⟩:=c11 U15.o.rb;obtain⟨z0x,z1x,z2x,z3x,z4x,z5x,z6x,z7x,z8x,z9x,z10x⟩:=f11 U15.o.rb;have hlr:=U15.o.rb.lt;have hlo:=U15.o.ob.lt;go_wp2;obtain⟨_,rfl,hoz,hotz,_,_,hbz⟩:=put11 U15.o.rb (.slice E1 T2.t.bs.length s1) (.slice E2 T2.t.fs.length s2) (.slice E3 T2.c.ls.length s3) (.int .i64 Z2.m.c.hand) (.int .i64 Z2.m.g.count) (.int .i64 Z2.m.g.next) (.int .i64 Z2.m.g.round) (.slice E4 T2.g.os.length s4) (.int .i64 Z2.m.sp) (.slice (some ⟨g5,0,none⟩) N.mk.length c5) (.int .i64 Z2.h);obtain⟨q0t,q1t,q2t,q3t,q4t,q5t,q6t,q7t,q8t,q9t,q10t⟩:=c11 hoz;refine bodyPost_ret (v:=.tuple #[.agg #[.slice E1 T2.t.bs.length s1,.slice E2 T2.t.fs.length s2,.slice E3 T2.c.ls.length s3,.int .i64 Z2.m.c.hand,.int .i64 Z2.m.g.count,.int .i64 Z2.m.g.next,.int .i64 Z2.m.g.round,.slice E4 T2.g.os.length s4,.int .i64 Z2.m.sp,.slice (some ⟨g5,0,none⟩) N.mk.length c5,.int .i64 Z2.h],.int .i64 k,.int .i64 3,.bool true]) (by simp[results,Tryz.results12,go_sem,q0t,q1t,q2t,q3t,q4t,q5t,q6t,q7t,q8t,q9t,q10t]) rfl ⟨_,rfl,_,_,_,_,_,by rw[HVV.o,HFF.o,HRV.o,HOO.o],by rw[HVV.o];exact(U15.o.mm.othm hotz).mono (by omega),hbz w (by omega) U15.o.bl⟩
   ·have HRV:Hi (useR M p n r=R):=by show _=_;rw[HRR.o,if_neg (fun h=>hR h.2)]
    have hRb:(R == 2)=false:=by rw[beq_eq_false_iff_ne];exact hR
    clear hR;obtain⟨q0o,q1o,q2o,q3o,q4o,q5o,q6o,q7o,q8o,q9o,q10o⟩:=c11 U15.o.ob;obtain⟨q0x,q1x,q2x,q3x,q4x,q5x,q6x,q7x,q8x,q9x,q10x⟩:=c11 U15.o.rb;obtain⟨z0x,z1x,z2x,z3x,z4x,z5x,z6x,z7x,z8x,z9x,z10x⟩:=f11 U15.o.rb;have hlr:=U15.o.rb.lt;have hlo:=U15.o.ob.lt;go_wp2;obtain⟨_,rfl,hoz,hotz,_,_,hbz⟩:=put11 U15.o.rb (.slice E1 T2.t.bs.length s1) (.slice E2 T2.t.fs.length s2) (.slice E3 T2.c.ls.length s3) (.int .i64 Z2.m.c.hand) (.int .i64 Z2.m.g.count) (.int .i64 Z2.m.g.next) (.int .i64 Z2.m.g.round) (.slice E4 T2.g.os.length s4) (.int .i64 Z2.m.sp) (.slice (some ⟨g5,0,none⟩) N.mk.length c5) (.int .i64 Z2.h);obtain⟨q0t,q1t,q2t,q3t,q4t,q5t,q6t,q7t,q8t,q9t,q10t⟩:=c11 hoz;refine bodyPost_ret (v:=.tuple #[.agg #[.slice E1 T2.t.bs.length s1,.slice E2 T2.t.fs.length s2,.slice E3 T2.c.ls.length s3,.int .i64 Z2.m.c.hand,.int .i64 Z2.m.g.count,.int .i64 Z2.m.g.next,.int .i64 Z2.m.g.round,.slice E4 T2.g.os.length s4,.int .i64 Z2.m.sp,.slice (some ⟨g5,0,none⟩) N.mk.length c5,.int .i64 Z2.h],.int .i64 k,.int .i64 R,.bool true]) (by simp[results,Tryz.results12,go_sem,q0t,q1t,q2t,q3t,q4t,q5t,q6t,q7t,q8t,q9t,q10t]) rfl ⟨_,rfl,_,_,_,_,_,by rw[HVV.o,HFF.o,HRV.o,HOO.o],by rw[HVV.o];exact(U15.o.mm.othm hotz).mono (by omega),hbz w (by omega) U15.o.bl⟩
end Go.Proofs.YtfbnokjdkhcgoaaGreatDoor
