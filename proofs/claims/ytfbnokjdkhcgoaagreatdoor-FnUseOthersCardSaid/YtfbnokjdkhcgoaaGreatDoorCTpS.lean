/- A part of the proofs of this seat. -/
import Derived.Deep.RegionHeldLaw
import Derived.Test.YtfbnokjdkhcgoaaGreatDoorCClosed
import Derived.Test.YtfbnokjdkhcgoaaGreatDoorCVicI
set_option linter.unusedVariables false
set_option linter.unusedSimpArgs false
set_option maxRecDepth 1000000
set_option maxHeartbeats 16000000
namespace Go.Proofs.YtfbnokjdkhcgoaaGreatDoor
open Go.RowKit
theorem sTouchPage_any (vb vf vl vo:Value) (m:Ma) (p n:Int) (w:World) (hM:MaR w vb vf vl vo m):
    Calls Tryz.prog 54 #[.agg #[vb,vf,vl,.int .i64 m.c.hand,.int .i64 m.g.count,.int .i64 m.g.next,.int .i64 m.g.round,vo,.int .i64 m.sp],.int .i64 p,.int .i64 n] w (Post2 fun v w'=>∃v1 v2 v3 v4,v=.tuple #[.agg #[v1,v2,v3,.int .i64 (tchV m p n).c.hand,.int .i64 (tchV m p n).g.count,.int .i64 (tchV m p n).g.next,.int .i64 (tchV m p n).g.round,v4,.int .i64 (tchV m p n).sp],.int .i64 (tchF m p n),.int .i64 (tchR m p n),.bool (tchO m p n)]∧MaM w.heap.size w' v1 v2 v3 v4 (tchV m p n)∧Below w.heap.size w w'):=by
  obtain⟨W0,hW,hbx,hbo,hb0,hs0⟩:=box2 w #[vb,vf,vl,.int .i64 m.c.hand,.int .i64 m.g.count,.int .i64 m.g.next,.int .i64 m.g.round,vo,.int .i64 m.sp] 34 #[.slice none 0 0,.slice none 0 0,.slice none 0 0,.int .i64 0,.int .i64 0,.int .i64 0,.int .i64 0,.slice none 0 0,.int .i64 0] 34;obtain⟨m0q,m1q,m2q,m3q,m4q,m5q,m6q,m7q,m8q⟩:=cells9 hbx;have HX0:=Hd hbx;have HO0:=Hd hbo;have HB0:=Hd hb0;have HM:=Hd hM;clear hbx hbo hb0 hM;clear m0q m1q m2q m3q m4q m5q m6q m7q m8q;have HS0:Hi (w.heap.size+2≤W0.heap.size):=Nat.le_of_eq hs0.symm;obtain⟨m00,m10,m20,m30,m40,m50,m60,m70,m80⟩:=cells9 HX0.o
  go_enter Tryz.func54,Tryz.ntmps54
  go_wp2_with fail
  refine(sMachineValid_any vb vf vl vo m _ (HM.o.now HB0.o)).mono ?_;rintro e w1 ⟨rfl,hb1⟩;have HX1:=Hd (HX0.o.below hb1);have HO1:=Hd (HO0.o.below hb1);have HB1:=Hd (bT HB0.o hb1);have HS1:=Hd (Nat.le_trans HS0.o hb1.size);clear hb1;clear m00 m10 m20 m30 m40 m50 m60 m70 m80
  cases h1:mav m with
  | false=>
    have HNO:Hi (tchO m p n=false):=by show _=_;unfold tchO;rw[h1];rfl
    have HV:=Hd (tchO_no HNO.o).1;have HF:=Hd (tchO_no HNO.o).2.1;have HR:=Hd (tchO_no HNO.o).2.2;obtain⟨r0x,r1x,r2x,r3x,r4x,r5x,r6x,r7x,r8x⟩:=cells9 HO1.o;obtain⟨z0x,z1x,z2x,z3x,z4x,z5x,z6x,z7x,z8x⟩:=free9 HO1.o;have hlr:=HO1.o.lt;go_wp2;have o3:=HO1.o.set9 (.slice none 0 0) (.slice none 0 0) (.slice none 0 0) (.int .i64 0) (.int .i64 0) (.int .i64 0) (.int .i64 0) (.slice none 0 0) (.int .i64 0);obtain⟨p0t,p1t,p2t,p3t,p4t,p5t,p6t,p7t,p8t⟩:=cells9 o3;refine bodyPost_ret (v:=.tuple #[.agg #[.slice none 0 0,.slice none 0 0,.slice none 0 0,.int .i64 0,.int .i64 0,.int .i64 0,.int .i64 0,.slice none 0 0,.int .i64 0],.int .i64 0,.int .i64 0,.bool false]) (by simp[results,Tryz.results54,go_sem,p0t,p1t,p2t,p3t,p4t,p5t,p6t,p7t,p8t,maz,caz,tgz]) rfl ⟨_,rfl,_,_,_,_,by rw[HV.o,HF.o,HR.o,HNO.o];rfl,by rw[HV.o];exact mam_z, ?_⟩;repeat (refine bS ?_ (by simp<;>omega))
    exact HB1.o
  | true=>
  cases h2:inR p 256 with
  | false=>
    have HNO:Hi (tchO m p n=false):=by show _=_;unfold tchO;rw[h2];simp
    go_wp2_with fail
    refine(l1Page_any _ _).mono ?_;rintro e w' ⟨rfl,rfl⟩;rw[h2];have HV:=Hd (tchO_no HNO.o).1;have HF:=Hd (tchO_no HNO.o).2.1;have HR:=Hd (tchO_no HNO.o).2.2;obtain⟨r0x,r1x,r2x,r3x,r4x,r5x,r6x,r7x,r8x⟩:=cells9 HO1.o;obtain⟨z0x,z1x,z2x,z3x,z4x,z5x,z6x,z7x,z8x⟩:=free9 HO1.o;have hlr:=HO1.o.lt;go_wp2;have o3:=HO1.o.set9 (.slice none 0 0) (.slice none 0 0) (.slice none 0 0) (.int .i64 0) (.int .i64 0) (.int .i64 0) (.int .i64 0) (.slice none 0 0) (.int .i64 0);obtain⟨p0t,p1t,p2t,p3t,p4t,p5t,p6t,p7t,p8t⟩:=cells9 o3;refine bodyPost_ret (v:=.tuple #[.agg #[.slice none 0 0,.slice none 0 0,.slice none 0 0,.int .i64 0,.int .i64 0,.int .i64 0,.int .i64 0,.slice none 0 0,.int .i64 0],.int .i64 0,.int .i64 0,.bool false]) (by simp[results,Tryz.results54,go_sem,p0t,p1t,p2t,p3t,p4t,p5t,p6t,p7t,p8t,maz,caz,tgz]) rfl ⟨_,rfl,_,_,_,_,by rw[HV.o,HF.o,HR.o,HNO.o];rfl,by rw[HV.o];exact mam_z, ?_⟩;repeat (refine bS ?_ (by simp<;>omega))
    exact HB1.o
  | true=>
  cases h3:inR n 8 with
  | false=>
    have HNO:Hi (tchO m p n=false):=by show _=_;unfold tchO;rw[h3];simp
    go_wp2_with fail
    refine(l1Page_any _ _).mono ?_;rintro e w' ⟨rfl,rfl⟩;rw[h2];go_wp2_with fail
    refine(sRightsValid_any _ _).mono ?_;rintro e w' ⟨rfl,rfl⟩;rw[h3];have HV:=Hd (tchO_no HNO.o).1;have HF:=Hd (tchO_no HNO.o).2.1;have HR:=Hd (tchO_no HNO.o).2.2;obtain⟨r0x,r1x,r2x,r3x,r4x,r5x,r6x,r7x,r8x⟩:=cells9 HO1.o;obtain⟨z0x,z1x,z2x,z3x,z4x,z5x,z6x,z7x,z8x⟩:=free9 HO1.o;have hlr:=HO1.o.lt;go_wp2;have o3:=HO1.o.set9 (.slice none 0 0) (.slice none 0 0) (.slice none 0 0) (.int .i64 0) (.int .i64 0) (.int .i64 0) (.int .i64 0) (.slice none 0 0) (.int .i64 0);obtain⟨p0t,p1t,p2t,p3t,p4t,p5t,p6t,p7t,p8t⟩:=cells9 o3;refine bodyPost_ret (v:=.tuple #[.agg #[.slice none 0 0,.slice none 0 0,.slice none 0 0,.int .i64 0,.int .i64 0,.int .i64 0,.int .i64 0,.slice none 0 0,.int .i64 0],.int .i64 0,.int .i64 0,.bool false]) (by simp[results,Tryz.results54,go_sem,p0t,p1t,p2t,p3t,p4t,p5t,p6t,p7t,p8t,maz,caz,tgz]) rfl ⟨_,rfl,_,_,_,_,by rw[HV.o,HF.o,HR.o,HNO.o];rfl,by rw[HV.o];exact mam_z, ?_⟩;repeat (refine bS ?_ (by simp<;>omega))
    exact HB1.o
  | true=>
  have HOK:Hi (tchO m p n=true):=by show _=_;unfold tchO;rw[h1,h2,h3];rfl
  obtain⟨a1,a2,a3,a4⟩:=mav_len h1;have MM:=mav_MV.1 h1;go_wp2_with fail
  refine(l1Page_any _ _).mono ?_;rintro e w' ⟨rfl,rfl⟩;rw[h2];go_wp2_with fail
  refine(sRightsValid_any _ _).mono ?_;rintro e w' ⟨rfl,rfl⟩;rw[h3];obtain⟨m01,m11,m21,m31,m41,m51,m61,m71,m81⟩:=cells9 HX1.o;go_wp2_with fail
  refine(l6Tag_any vb vf vl vo m m.sp p _ (HM.o.now HB1.o) MM.g).mono ?_;rintro e w2 ⟨rfl,hb2⟩;have HX2:=Hd (HX1.o.below hb2);have HO2:=Hd (HO1.o.below hb2);have HB2:=Hd (bT HB1.o hb2);have HS2:=Hd (Nat.le_trans HS1.o hb2.size);clear hb2;clear m01 m11 m21 m31 m41 m51 m61 m71 m81;obtain⟨m02,m12,m22,m32,m42,m52,m62,m72,m82⟩:=cells9 HX2.o;go_wp2_with fail
  refine(l6Copy_any vb vf vl vo m _ (HM.o.now HB2.o) a1 a2 a3 a4).mono ?_;rintro e w3 ⟨_,rfl,q1,q2,q3,q4,rfl,hM3,hb3⟩;have hs2:=HS2.o;have hM3':=hM3.mono hs2;obtain⟨B1,d1,rfl,_⟩:=hM3.t.b;obtain⟨B2,d2,rfl,_⟩:=hM3.t.f;obtain⟨B3,d3,rfl,_⟩:=hM3.l;obtain⟨B4,d4,rfl,_⟩:=hM3.o;have HX3:=Hd (HX2.o.below hb3);have HO3:=Hd (HO2.o.below hb3);have HB3:=Hd (bT HB2.o hb3);have HS3:=Hd (Nat.le_trans HS2.o hb3.size);clear hb3;clear m02 m12 m22 m32 m42 m52 m62 m72 m82;have hs3:=HS3.o;have ho4:=Own.new_ w3 34 #[.slice B1 m.t.bs.length d1,.slice B2 m.t.fs.length d2,.slice B3 m.c.ls.length d3,.int .i64 m.c.hand,.int .i64 m.g.count,.int .i64 m.g.next,.int .i64 m.g.round,.slice B4 m.g.os.length d4,.int .i64 m.sp];have hb4:Below w3.heap.size w3 (w3.alloc (.cells #[.slice B1 m.t.bs.length d1,.slice B2 m.t.fs.length d2,.slice B3 m.c.ls.length d3,.int .i64 m.c.hand,.int .i64 m.g.count,.int .i64 m.g.next,.int .i64 m.g.round,.slice B4 m.g.os.length d4,.int .i64 m.sp] 34)):=bA bR;generalize hW4:w3.alloc (.cells #[.slice B1 m.t.bs.length d1,.slice B2 m.t.fs.length d2,.slice B3 m.c.ls.length d3,.int .i64 m.c.hand,.int .i64 m.g.count,.int .i64 m.g.next,.int .i64 m.g.round,.slice B4 m.g.os.length d4,.int .i64 m.sp] 34)=w4 at ho4 hb4;have HM4:=Hd (hM3'.now hb4);have HU4:=Hd ho4;have HX4:=Hd (HX3.o.below hb4);have HO4:=Hd (HO3.o.below hb4);have HB4:=Hd (bT HB3.o hb4);have HS4:=Hd (Nat.le_trans HS3.o hb4.size);clear hb4;clear hM3 hM3' ho4;obtain⟨m04,m14,m24,m34,m44,m54,m64,m74,m84⟩:=cells9 HX4.o;go_wp2_with fail
  refine(l4Find_any vl m.c (tagT m m.sp p) p _ (HM.o.l.now HB4.o)).mono ?_;rintro e w5 ⟨rfl,hb5⟩;have HM5:=Hd (HM4.o.now hb5);have HU5:=Hd (HU4.o.below hb5);have HX5:=Hd (HX4.o.below hb5);have HO5:=Hd (HO4.o.below hb5);have HB5:=Hd (bT HB4.o hb5);have HS5:=Hd (Nat.le_trans HS4.o hb5.size);clear hb5;clear m04 m14 m24 m34 m44 m54 m64 m74 m84;clear hW4;rw[show plcI m.c.ls (tagT m m.sp p) p=tchH m p from rfl];by_cases hh:0≤tchH m p
  case pos=>
    obtain⟨k,i,x,f,hk,ex,hxf,ef,hu,hfr,hti,_⟩:=MM.hit hh;rw[hk];have HVV:Hi (tchV m p n=m):=by show _=_;unfold tchV;rw[HOK.o,if_pos rfl,if_pos hh]
    have HFF:Hi (tchF m p n=(i:Int)):=by show _=_;unfold tchF;rw[HOK.o,if_pos rfl,hti]
    have HAA:Hi (tchA m p n=alw f.r n):=by show _=_;unfold tchA;rw[hti,Int.toNat_natCast,getD_at ef]
    have HRR:Hi (tchR m p n=if alw f.r n=true then 1 else 4):=by show _=_;unfold tchR;rw[HOK.o,if_pos rfl,if_pos hh,HAA.o]
    obtain⟨Al,cl,rfl,hlc,hlm,hL⟩:=HM.o.l;obtain⟨Af,cf,rfl,hfc,hfm,hF⟩:=HM.o.t.f;obtain⟨bl,ol,rfl,hbl,x0,x1,x2,x3,x4,x5⟩:=(hL.now (Nat.le_refl _) HB5.o).ln ex;obtain⟨bf,of,rfl,hbf,y0,y1,y2,y3,y4⟩:=(hF.now (Nat.le_refl _) HB5.o).fr ef;rw[hxf]at x3;have hkl:=(List.getElem?_eq_some_iff.1 ex).1;have hil:=(List.getElem?_eq_some_iff.1 ef).1;have m15:=HX5.c 1 (.slice (some ⟨bf,of,none⟩) m.t.fs.length cf) rfl;have m25:=HX5.c 2 (.slice (some ⟨bl,ol,none⟩) m.c.ls.length cl) rfl;clear x0 x1 x2 x4 x5 y0 y1 y2 y4 hL hF ex ef hh hk hti hxf hfr hu;go_wp2_with fail
    refine(sAllows_any _ _ _).mono ?_;rintro e w' ⟨rfl,rfl⟩
    cases hal:alw f.r n with
    | true=>
      rw[hal]at HRR;obtain⟨r0x,r1x,r2x,r3x,r4x,r5x,r6x,r7x,r8x⟩:=cells9 HO5.o;obtain⟨z0x,z1x,z2x,z3x,z4x,z5x,z6x,z7x,z8x⟩:=free9 HO5.o;obtain⟨p0o,p1o,p2o,p3o,p4o,p5o,p6o,p7o,p8o⟩:=cells9 HU5.o;have hlr:=HO5.o.lt;have hlu:=HU5.o.lt;go_wp2;have o3:=HO5.o.set9 (.slice B1 m.t.bs.length d1) (.slice B2 m.t.fs.length d2) (.slice B3 m.c.ls.length d3) (.int .i64 (m).c.hand) (.int .i64 (m).g.count) (.int .i64 (m).g.next) (.int .i64 (m).g.round) (.slice B4 m.g.os.length d4) (.int .i64 (m).sp);obtain⟨p0t,p1t,p2t,p3t,p4t,p5t,p6t,p7t,p8t⟩:=cells9 o3;refine bodyPost_ret (v:=.tuple #[.agg #[.slice B1 m.t.bs.length d1,.slice B2 m.t.fs.length d2,.slice B3 m.c.ls.length d3,.int .i64 m.c.hand,.int .i64 m.g.count,.int .i64 m.g.next,.int .i64 m.g.round,.slice B4 m.g.os.length d4,.int .i64 m.sp],.int .i64 (i),.int .i64 (1),.bool true]) (by simp[results,Tryz.results54,go_sem,p0t,p1t,p2t,p3t,p4t,p5t,p6t,p7t,p8t]) rfl ⟨_,rfl,_,_,_,_,by(rw[HVV.o,HFF.o,HRR.o,HOK.o])<;>rfl, ?_, ?_⟩
      · rw[HVV.o]
        exact(HM5.o.far9 HO5.o _ _ _ _ _ _ _ _ _).mono (by omega)
      · repeat (refine bS ?_ (by simp<;>omega))
        exact HB5.o
    | false=>
      rw[hal]at HRR;obtain⟨r0x,r1x,r2x,r3x,r4x,r5x,r6x,r7x,r8x⟩:=cells9 HO5.o;obtain⟨z0x,z1x,z2x,z3x,z4x,z5x,z6x,z7x,z8x⟩:=free9 HO5.o;obtain⟨p0o,p1o,p2o,p3o,p4o,p5o,p6o,p7o,p8o⟩:=cells9 HU5.o;have hlr:=HO5.o.lt;have hlu:=HU5.o.lt;go_wp2;have o3:=HO5.o.set9 (.slice B1 m.t.bs.length d1) (.slice B2 m.t.fs.length d2) (.slice B3 m.c.ls.length d3) (.int .i64 (m).c.hand) (.int .i64 (m).g.count) (.int .i64 (m).g.next) (.int .i64 (m).g.round) (.slice B4 m.g.os.length d4) (.int .i64 (m).sp);obtain⟨p0t,p1t,p2t,p3t,p4t,p5t,p6t,p7t,p8t⟩:=cells9 o3;refine bodyPost_ret (v:=.tuple #[.agg #[.slice B1 m.t.bs.length d1,.slice B2 m.t.fs.length d2,.slice B3 m.c.ls.length d3,.int .i64 m.c.hand,.int .i64 m.g.count,.int .i64 m.g.next,.int .i64 m.g.round,.slice B4 m.g.os.length d4,.int .i64 m.sp],.int .i64 (i),.int .i64 (4),.bool true]) (by simp[results,Tryz.results54,go_sem,p0t,p1t,p2t,p3t,p4t,p5t,p6t,p7t,p8t]) rfl ⟨_,rfl,_,_,_,_,by(rw[HVV.o,HFF.o,HRR.o,HOK.o])<;>rfl, ?_, ?_⟩
      · rw[HVV.o]
        exact(HM5.o.far9 HO5.o _ _ _ _ _ _ _ _ _).mono (by omega)
      · repeat (refine bS ?_ (by simp<;>omega))
        exact HB5.o
  case neg=>
    have HNH:Hi (¬0≤tchH m p):=hh;have HK:=Hd (sKeyFor_any m.sp p)
    have hkv:kval (keyI m.sp p,p)=true:=by
      obtain⟨kk,o,hk,eo,ho⟩:=ownI_lt MM.o;obtain⟨_,ht⟩:=tgv_parts MM.g;obtain⟨o',eo',q1,_⟩:=tok_at ht (List.getElem?_eq_some_iff.1 eo).1;rw[eo]at eo';injection eo' with eo';rw[←eo',ho]at q1;unfold kval keyI;simp only[h2,Bool.and_true];split
      · rfl
      · exact q1
    have htv:tv m.t=true:=tv_TV.2 MM.t;have HFN:=Hd (fun W (h:TaR W vb vf m.t)=>l3Find_any vb vf m.t (keyI m.sp p) p W h htv hkv);rw[show fndI m.t.fs (keyI m.sp p) p=tchK m p from rfl]at HFN;have m05:=HX5.c 0 (vb) rfl;have m15:=HX5.c 1 (vf) rfl;have m85:=HX5.c 8 (.int .i64 m.sp) rfl;go_wp2
    go_region_held_law (fun w'=>w'.cell? ⟨w.heap.size,0,none⟩=some vb∧w'.cell? ⟨w.heap.size,1,none⟩=some vf∧w'.cell? ⟨w.heap.size,8,none⟩=some (.int .i64 m.sp)) (go_keep) (first
      | (go_at_call 52
         refine(HK.o _).mono ?_;rintro _ w6 ⟨rfl,hb6⟩;have HM6:=Hd (HM5.o.now (bT (bD bR) hb6));have HU6:=Hd (HU5.o.drew.below hb6);have HX6:=Hd (HX5.o.drew.below hb6);have HO6:=Hd (HO5.o.drew.below hb6);have HB6:=Hd (bT (bD HB5.o) hb6);have d0:=HX6.c 0 (vb) rfl;have d1:=HX6.c 1 (vf) rfl;have d2:=HX6.c 8 (.int .i64 m.sp) rfl
         clear hb6)
      | (go_at_call 51
         refine(HFN.o _ (HM.o.t.now HB6.o)).mono ?_;rintro _ w7 ⟨stp,rfl,hb7⟩;have HM7:=Hd (HM6.o.now hb7);have HU7:=Hd (HU6.o.below hb7);have HX7:=Hd (HX6.o.below hb7);have HO7:=Hd (HO6.o.below hb7);have HB7:=Hd (bT HB6.o hb7);have e0:=HX7.c 0 (vb) rfl;have e1:=HX7.c 1 (vf) rfl;have e2:=HX7.c 8 (.int .i64 m.sp) rfl
         clear hb7 d0 d1 d2))
    all_goals
      clear m05 m15 m85 e0 e1 e2;have hnh:¬0≤tchH m p:=by have:=HNH.o;omega
      by_cases hf:0≤tchK m p
      case neg=>
        have HVV:Hi (tchV m p n=m):=by show _=_;unfold tchV;rw[HOK.o,if_pos rfl,if_neg hnh,if_neg hf]
        have HFF:Hi (tchF m p n=0):=by show _=_;unfold tchF tchFr;rw[HOK.o,if_pos rfl,if_neg hnh,if_neg hf]
        have HRR:Hi (tchR m p n=3):=by show _=_;unfold tchR;rw[HOK.o,if_pos rfl,if_neg hnh,if_neg hf]
        have hfb:tchK m p<0:=by omega
        obtain⟨r0x,r1x,r2x,r3x,r4x,r5x,r6x,r7x,r8x⟩:=cells9 HO7.o;obtain⟨z0x,z1x,z2x,z3x,z4x,z5x,z6x,z7x,z8x⟩:=free9 HO7.o;obtain⟨p0o,p1o,p2o,p3o,p4o,p5o,p6o,p7o,p8o⟩:=cells9 HU7.o;have hlr:=HO7.o.lt;have hlu:=HU7.o.lt;go_wp2;have o3:=HO7.o.set9 (.slice B1 m.t.bs.length d1) (.slice B2 m.t.fs.length d2) (.slice B3 m.c.ls.length d3) (.int .i64 (m).c.hand) (.int .i64 (m).g.count) (.int .i64 (m).g.next) (.int .i64 (m).g.round) (.slice B4 m.g.os.length d4) (.int .i64 (m).sp);obtain⟨p0t,p1t,p2t,p3t,p4t,p5t,p6t,p7t,p8t⟩:=cells9 o3;refine bodyPost_ret (v:=.tuple #[.agg #[.slice B1 m.t.bs.length d1,.slice B2 m.t.fs.length d2,.slice B3 m.c.ls.length d3,.int .i64 m.c.hand,.int .i64 m.g.count,.int .i64 m.g.next,.int .i64 m.g.round,.slice B4 m.g.os.length d4,.int .i64 m.sp],.int .i64 (0),.int .i64 (3),.bool true]) (by simp[results,Tryz.results54,go_sem,p0t,p1t,p2t,p3t,p4t,p5t,p6t,p7t,p8t]) rfl ⟨_,rfl,_,_,_,_,by(rw[HVV.o,HFF.o,HRR.o,HOK.o])<;>rfl, ?_, ?_⟩
        · rw[HVV.o]
          exact(HM7.o.far9 HO7.o _ _ _ _ _ _ _ _ _).mono (by omega)
        · repeat (refine bS ?_ (by simp<;>omega))
          exact HB7.o
      case pos=>
        obtain⟨k,hk,hfd⟩:=fndI_fnd (show 0≤fndI m.t.fs (keyI m.sp p) p from hf);obtain⟨f,ef,hu,_⟩:=fnd_some hfd;have hkk:tchK m p=(k:Int):=hk;have hok:=(MM.fill h2 hnh hfd).1;have HVV:Hi (tchV m p n={m with c:=filC m.c (tln m p k)}):=by show _=_;unfold tchV;rw[HOK.o,if_pos rfl,if_neg hnh,if_pos hf,hkk]
        have hti:tchFr m p=(k:Int):=by unfold tchFr;rw[if_neg hnh,if_pos hf,hkk]
        have HFF:Hi (tchF m p n=(k:Int)):=by show _=_;unfold tchF;rw[HOK.o,if_pos rfl,hti]
        have HAA:Hi (tchA m p n=alw f.r n):=by show _=_;unfold tchA;rw[hti,Int.toNat_natCast,getD_at ef]
        have HRR:Hi (tchR m p n=if alw f.r n=true then 2 else 4):=by show _=_;unfold tchR;rw[HOK.o,if_pos rfl,if_neg hnh,if_pos hf,HAA.o]
        have hkl:=(List.getElem?_eq_some_iff.1 ef).1;have hfb:¬(k:Int)<0:=by omega
        have HC:=Hd (fun W (h:MaR W vb vf vl vo m)=>l6Fill_any vb vf vl vo m p k W h h1 hkl hok);rw[hkk];obtain⟨m07,m17,m27,m37,m47,m57,m67,m77,m87⟩:=cells9 HX7.o;have EF:=Hd ef;clear hk hfd ef hu hkk hok hti hf hnh;generalize hVC:filC m.c (tln m p k)=V at*;go_wp2_with fail
        refine(HC.o _ (HM.o.now HB7.o)).mono ?_;rintro e w8 ⟨_,rfl,e1,e2,e3,e4,rfl,hM8,hb8⟩;have HM8:=Hd (hM8.mono (show w.heap.size+2≤w7.heap.size by have:=HU7.o.lt;omega));obtain⟨E1,n1,rfl,_⟩:=hM8.t.b;obtain⟨E2,n2,rfl,_⟩:=hM8.t.f;obtain⟨E3,n3,rfl,_⟩:=hM8.l;obtain⟨E4,n4,rfl,_⟩:=hM8.o;have HU8:=Hd (HU7.o.below hb8);have HX8:=Hd (HX7.o.below hb8);have HO8:=Hd (HO7.o.below hb8);have HB8:=Hd (bT HB7.o hb8);clear m07 m17 m27 m37 m47 m57 m67 m77 m87;clear hM8 hb8 HC;obtain⟨p0u,p1u,p2u,p3u,p4u,p5u,p6u,p7u,p8u⟩:=cells9 HU8.o;obtain⟨w0u,w1u,w2u,w3u,w4u,w5u,w6u,w7u,w8u⟩:=free9 HU8.o;have hu9:=HU8.o.set9 (.slice E1 m.t.bs.length n1) (.slice E2 m.t.fs.length n2) (.slice E3 V.ls.length n3) (.int .i64 V.hand) (.int .i64 m.g.count) (.int .i64 m.g.next) (.int .i64 m.g.round) (.slice E4 m.g.os.length n4) (.int .i64 m.sp);have hx9:=HX8.o.far9 (g:=w3.heap.size) (by omega) (.slice E1 m.t.bs.length n1) (.slice E2 m.t.fs.length n2) (.slice E3 V.ls.length n3) (.int .i64 V.hand) (.int .i64 m.g.count) (.int .i64 m.g.next) (.int .i64 m.g.round) (.slice E4 m.g.os.length n4) (.int .i64 m.sp);have ho9:=HO8.o.far9 (g:=w3.heap.size) (by omega) (.slice E1 m.t.bs.length n1) (.slice E2 m.t.fs.length n2) (.slice E3 V.ls.length n3) (.int .i64 V.hand) (.int .i64 m.g.count) (.int .i64 m.g.next) (.int .i64 m.g.round) (.slice E4 m.g.os.length n4) (.int .i64 m.sp);have hm9:=HM8.o.far9 HU8.o (.slice E1 m.t.bs.length n1) (.slice E2 m.t.fs.length n2) (.slice E3 V.ls.length n3) (.int .i64 V.hand) (.int .i64 m.g.count) (.int .i64 m.g.next) (.int .i64 m.g.round) (.slice E4 m.g.os.length n4) (.int .i64 m.sp)
        have hb9:Below w.heap.size w (((((((((w8.setCell ⟨w3.heap.size,0,none⟩ (.slice E1 m.t.bs.length n1)).setCell ⟨w3.heap.size,1,none⟩ (.slice E2 m.t.fs.length n2)).setCell ⟨w3.heap.size,2,none⟩ (.slice E3 V.ls.length n3)).setCell ⟨w3.heap.size,3,none⟩ (.int .i64 V.hand)).setCell ⟨w3.heap.size,4,none⟩ (.int .i64 m.g.count)).setCell ⟨w3.heap.size,5,none⟩ (.int .i64 m.g.next)).setCell ⟨w3.heap.size,6,none⟩ (.int .i64 m.g.round)).setCell ⟨w3.heap.size,7,none⟩ (.slice E4 m.g.os.length n4)).setCell ⟨w3.heap.size,8,none⟩ (.int .i64 m.sp)):=by
          repeat (refine bS ?_ (by simp<;>omega))
          exact HB8.o
        generalize hW9:((((((((w8.setCell ⟨w3.heap.size,0,none⟩ (.slice E1 m.t.bs.length n1)).setCell ⟨w3.heap.size,1,none⟩ (.slice E2 m.t.fs.length n2)).setCell ⟨w3.heap.size,2,none⟩ (.slice E3 V.ls.length n3)).setCell ⟨w3.heap.size,3,none⟩ (.int .i64 V.hand)).setCell ⟨w3.heap.size,4,none⟩ (.int .i64 m.g.count)).setCell ⟨w3.heap.size,5,none⟩ (.int .i64 m.g.next)).setCell ⟨w3.heap.size,6,none⟩ (.int .i64 m.g.round)).setCell ⟨w3.heap.size,7,none⟩ (.slice E4 m.g.os.length n4)).setCell ⟨w3.heap.size,8,none⟩ (.int .i64 m.sp)=w9 at hu9 hx9 ho9 hm9 hb9;have HU9:=Hd hu9;have HX9:=Hd hx9;have HO9:=Hd ho9;have HM9:=Hd hm9;have HB9:=Hd hb9;clear hu9 hx9 ho9 hm9 hb9;obtain⟨Af,cf,rfl,hfc,hfm,hF⟩:=HM.o.t.f;obtain⟨bf,of,rfl,hbf,y0,y1,y2,y3,y4⟩:=(hF.now (Nat.le_refl _) HB9.o).fr EF.o;have m19:=HX9.c 1 (.slice (some ⟨bf,of,none⟩) m.t.fs.length cf) rfl;have hlu8:=HU8.o.lt;clear y0 y1 y2 y4 hF;go_wp2_with fail
        refine(sAllows_any _ _ _).mono ?_;rintro e w' ⟨rfl,rfl⟩;clear m19 y3 p0u p1u p2u p3u p4u p5u p6u p7u p8u w0u w1u w2u w3u w4u w5u w6u w7u w8u hW9
        cases hal:alw f.r n with
        | true=>
          rw[hal]at HRR;obtain⟨r0x,r1x,r2x,r3x,r4x,r5x,r6x,r7x,r8x⟩:=cells9 HO9.o;obtain⟨z0x,z1x,z2x,z3x,z4x,z5x,z6x,z7x,z8x⟩:=free9 HO9.o;obtain⟨p0o,p1o,p2o,p3o,p4o,p5o,p6o,p7o,p8o⟩:=cells9 HU9.o;have hlr:=HO9.o.lt;have hlu:=HU9.o.lt;go_wp2;have o3:=HO9.o.set9 (.slice E1 m.t.bs.length n1) (.slice E2 m.t.fs.length n2) (.slice E3 V.ls.length n3) (.int .i64 (({m with c:=V}:Ma)).c.hand) (.int .i64 (({m with c:=V}:Ma)).g.count) (.int .i64 (({m with c:=V}:Ma)).g.next) (.int .i64 (({m with c:=V}:Ma)).g.round) (.slice E4 m.g.os.length n4) (.int .i64 (({m with c:=V}:Ma)).sp);obtain⟨p0t,p1t,p2t,p3t,p4t,p5t,p6t,p7t,p8t⟩:=cells9 o3;refine bodyPost_ret (v:=.tuple #[.agg #[.slice E1 m.t.bs.length n1,.slice E2 m.t.fs.length n2,.slice E3 V.ls.length n3,.int .i64 ({m with c:=V}:Ma).c.hand,.int .i64 ({m with c:=V}:Ma).g.count,.int .i64 ({m with c:=V}:Ma).g.next,.int .i64 ({m with c:=V}:Ma).g.round,.slice E4 m.g.os.length n4,.int .i64 ({m with c:=V}:Ma).sp],.int .i64 (k),.int .i64 (2),.bool true]) (by simp[results,Tryz.results54,go_sem,p0t,p1t,p2t,p3t,p4t,p5t,p6t,p7t,p8t]) rfl ⟨_,rfl,_,_,_,_,by(rw[HVV.o,HFF.o,HRR.o,HOK.o])<;>rfl, ?_, ?_⟩
          · rw[HVV.o]
            exact(HM9.o.far9 HO9.o _ _ _ _ _ _ _ _ _).mono (by omega)
          · repeat (refine bS ?_ (by simp<;>omega))
            exact HB9.o
        | false=>
          rw[hal]at HRR;obtain⟨r0x,r1x,r2x,r3x,r4x,r5x,r6x,r7x,r8x⟩:=cells9 HO9.o;obtain⟨z0x,z1x,z2x,z3x,z4x,z5x,z6x,z7x,z8x⟩:=free9 HO9.o;obtain⟨p0o,p1o,p2o,p3o,p4o,p5o,p6o,p7o,p8o⟩:=cells9 HU9.o;have hlr:=HO9.o.lt;have hlu:=HU9.o.lt;go_wp2;have o3:=HO9.o.set9 (.slice E1 m.t.bs.length n1) (.slice E2 m.t.fs.length n2) (.slice E3 V.ls.length n3) (.int .i64 (({m with c:=V}:Ma)).c.hand) (.int .i64 (({m with c:=V}:Ma)).g.count) (.int .i64 (({m with c:=V}:Ma)).g.next) (.int .i64 (({m with c:=V}:Ma)).g.round) (.slice E4 m.g.os.length n4) (.int .i64 (({m with c:=V}:Ma)).sp);obtain⟨p0t,p1t,p2t,p3t,p4t,p5t,p6t,p7t,p8t⟩:=cells9 o3;refine bodyPost_ret (v:=.tuple #[.agg #[.slice E1 m.t.bs.length n1,.slice E2 m.t.fs.length n2,.slice E3 V.ls.length n3,.int .i64 ({m with c:=V}:Ma).c.hand,.int .i64 ({m with c:=V}:Ma).g.count,.int .i64 ({m with c:=V}:Ma).g.next,.int .i64 ({m with c:=V}:Ma).g.round,.slice E4 m.g.os.length n4,.int .i64 ({m with c:=V}:Ma).sp],.int .i64 (k),.int .i64 (4),.bool true]) (by simp[results,Tryz.results54,go_sem,p0t,p1t,p2t,p3t,p4t,p5t,p6t,p7t,p8t]) rfl ⟨_,rfl,_,_,_,_,by(rw[HVV.o,HFF.o,HRR.o,HOK.o])<;>rfl, ?_, ?_⟩
          · rw[HVV.o]
            exact(HM9.o.far9 HO9.o _ _ _ _ _ _ _ _ _).mono (by omega)
          · repeat (refine bS ?_ (by simp<;>omega))
            exact HB9.o
theorem TouchPage_any (vb vf vl vo:Value) (m:Ma) (p n:Int) (w:World) (hM:MaR w vb vf vl vo m) (hfree:Free w):
    Calls Tryz.prog 45 #[.agg #[vb,vf,vl,.int .i64 m.c.hand,.int .i64 m.g.count,.int .i64 m.g.next,.int .i64 m.g.round,vo,.int .i64 m.sp],.int .i64 p,.int .i64 n] w (Post2 fun v w'=>∃v1 v2 v3 v4,v=.tuple #[.agg #[v1,v2,v3,.int .i64 (tchV m p n).c.hand,.int .i64 (tchV m p n).g.count,.int .i64 (tchV m p n).g.next,.int .i64 (tchV m p n).g.round,v4,.int .i64 (tchV m p n).sp],.int .i64 (tchF m p n),.int .i64 (tchR m p n),.bool (tchO m p n)]∧MaM w.heap.size w' v1 v2 v3 v4 (tchV m p n)∧Below w.heap.size w w'):=by
  have HFR:=Hd hfree;clear hfree;obtain⟨W0,hW,hbx,hbo,hb0,hs0⟩:=box2 w #[vb,vf,vl,.int .i64 m.c.hand,.int .i64 m.g.count,.int .i64 m.g.next,.int .i64 m.g.round,vo,.int .i64 m.sp] 34 #[.slice none 0 0,.slice none 0 0,.slice none 0 0,.int .i64 0,.int .i64 0,.int .i64 0,.int .i64 0,.slice none 0 0,.int .i64 0] 34;obtain⟨m0q,m1q,m2q,m3q,m4q,m5q,m6q,m7q,m8q⟩:=cells9 hbx;have HX0:=Hd hbx;have HO0:=Hd hbo;have HB0:=Hd hb0;have HM:=Hd hM;clear hbx hbo hb0 hM;clear m0q m1q m2q m3q m4q m5q m6q m7q m8q;have HS0:Hi (w.heap.size+2≤W0.heap.size):=Nat.le_of_eq hs0.symm;obtain⟨m00,m10,m20,m30,m40,m50,m60,m70,m80⟩:=cells9 HX0.o
  go_enter Tryz.func45,Tryz.ntmps45
  go_wp2_with fail
  refine(MachineValid_any vb vf vl vo m _ (HM.o.now HB0.o) (HFR.o.now HB0.o)).mono ?_;rintro e w1 ⟨rfl,hb1⟩;have HX1:=Hd (HX0.o.below hb1);have HO1:=Hd (HO0.o.below hb1);have HB1:=Hd (bT HB0.o hb1);have HS1:=Hd (Nat.le_trans HS0.o hb1.size);clear hb1;clear m00 m10 m20 m30 m40 m50 m60 m70 m80
  cases h1:mav m with
  | false=>
    have HNO:Hi (tchO m p n=false):=by show _=_;unfold tchO;rw[h1];rfl
    have HV:=Hd (tchO_no HNO.o).1;have HF:=Hd (tchO_no HNO.o).2.1;have HR:=Hd (tchO_no HNO.o).2.2;obtain⟨r0x,r1x,r2x,r3x,r4x,r5x,r6x,r7x,r8x⟩:=cells9 HO1.o;obtain⟨z0x,z1x,z2x,z3x,z4x,z5x,z6x,z7x,z8x⟩:=free9 HO1.o;have hlr:=HO1.o.lt;go_wp2;have o3:=HO1.o.set9 (.slice none 0 0) (.slice none 0 0) (.slice none 0 0) (.int .i64 0) (.int .i64 0) (.int .i64 0) (.int .i64 0) (.slice none 0 0) (.int .i64 0);obtain⟨p0t,p1t,p2t,p3t,p4t,p5t,p6t,p7t,p8t⟩:=cells9 o3;refine bodyPost_ret (v:=.tuple #[.agg #[.slice none 0 0,.slice none 0 0,.slice none 0 0,.int .i64 0,.int .i64 0,.int .i64 0,.int .i64 0,.slice none 0 0,.int .i64 0],.int .i64 0,.int .i64 0,.bool false]) (by simp[results,Tryz.results45,go_sem,p0t,p1t,p2t,p3t,p4t,p5t,p6t,p7t,p8t,maz,caz,tgz]) rfl ⟨_,rfl,_,_,_,_,by rw[HV.o,HF.o,HR.o,HNO.o];rfl,by rw[HV.o];exact mam_z, ?_⟩;repeat (refine bS ?_ (by simp<;>omega))
    exact HB1.o
  | true=>
  cases h2:inR p 256 with
  | false=>
    have HNO:Hi (tchO m p n=false):=by show _=_;unfold tchO;rw[h2];simp
    go_wp2_with fail
    refine(within_any _ _ _).mono ?_;rintro e w' ⟨rfl,rfl⟩;rw[h2];have HV:=Hd (tchO_no HNO.o).1;have HF:=Hd (tchO_no HNO.o).2.1;have HR:=Hd (tchO_no HNO.o).2.2;obtain⟨r0x,r1x,r2x,r3x,r4x,r5x,r6x,r7x,r8x⟩:=cells9 HO1.o;obtain⟨z0x,z1x,z2x,z3x,z4x,z5x,z6x,z7x,z8x⟩:=free9 HO1.o;have hlr:=HO1.o.lt;go_wp2;have o3:=HO1.o.set9 (.slice none 0 0) (.slice none 0 0) (.slice none 0 0) (.int .i64 0) (.int .i64 0) (.int .i64 0) (.int .i64 0) (.slice none 0 0) (.int .i64 0);obtain⟨p0t,p1t,p2t,p3t,p4t,p5t,p6t,p7t,p8t⟩:=cells9 o3;refine bodyPost_ret (v:=.tuple #[.agg #[.slice none 0 0,.slice none 0 0,.slice none 0 0,.int .i64 0,.int .i64 0,.int .i64 0,.int .i64 0,.slice none 0 0,.int .i64 0],.int .i64 0,.int .i64 0,.bool false]) (by simp[results,Tryz.results45,go_sem,p0t,p1t,p2t,p3t,p4t,p5t,p6t,p7t,p8t,maz,caz,tgz]) rfl ⟨_,rfl,_,_,_,_,by rw[HV.o,HF.o,HR.o,HNO.o];rfl,by rw[HV.o];exact mam_z, ?_⟩;repeat (refine bS ?_ (by simp<;>omega))
    exact HB1.o
  | true=>
  cases h3:inR n 8 with
  | false=>
    have HNO:Hi (tchO m p n=false):=by show _=_;unfold tchO;rw[h3];simp
    go_wp2_with fail
    refine(within_any _ _ _).mono ?_;rintro e w' ⟨rfl,rfl⟩;rw[h2];go_wp2_with fail
    refine(RightsValid_any _ _).mono ?_;rintro e w' ⟨rfl,rfl⟩;rw[h3];have HV:=Hd (tchO_no HNO.o).1;have HF:=Hd (tchO_no HNO.o).2.1;have HR:=Hd (tchO_no HNO.o).2.2;obtain⟨r0x,r1x,r2x,r3x,r4x,r5x,r6x,r7x,r8x⟩:=cells9 HO1.o;obtain⟨z0x,z1x,z2x,z3x,z4x,z5x,z6x,z7x,z8x⟩:=free9 HO1.o;have hlr:=HO1.o.lt;go_wp2;have o3:=HO1.o.set9 (.slice none 0 0) (.slice none 0 0) (.slice none 0 0) (.int .i64 0) (.int .i64 0) (.int .i64 0) (.int .i64 0) (.slice none 0 0) (.int .i64 0);obtain⟨p0t,p1t,p2t,p3t,p4t,p5t,p6t,p7t,p8t⟩:=cells9 o3;refine bodyPost_ret (v:=.tuple #[.agg #[.slice none 0 0,.slice none 0 0,.slice none 0 0,.int .i64 0,.int .i64 0,.int .i64 0,.int .i64 0,.slice none 0 0,.int .i64 0],.int .i64 0,.int .i64 0,.bool false]) (by simp[results,Tryz.results45,go_sem,p0t,p1t,p2t,p3t,p4t,p5t,p6t,p7t,p8t,maz,caz,tgz]) rfl ⟨_,rfl,_,_,_,_,by rw[HV.o,HF.o,HR.o,HNO.o];rfl,by rw[HV.o];exact mam_z, ?_⟩;repeat (refine bS ?_ (by simp<;>omega))
    exact HB1.o
  | true=>
  have HOK:Hi (tchO m p n=true):=by show _=_;unfold tchO;rw[h1,h2,h3];rfl
  obtain⟨a1,a2,a3,a4⟩:=mav_len h1;have MM:=mav_MV.1 h1;go_wp2_with fail
  refine(within_any _ _ _).mono ?_;rintro e w' ⟨rfl,rfl⟩;rw[h2];go_wp2_with fail
  refine(RightsValid_any _ _).mono ?_;rintro e w' ⟨rfl,rfl⟩;rw[h3];obtain⟨m01,m11,m21,m31,m41,m51,m61,m71,m81⟩:=cells9 HX1.o;go_wp2_with fail
  refine(mclone_any vb vf vl vo m _ (HM.o.now HB1.o) a1 a2 a3 a4).mono ?_;rintro e w3 ⟨_,rfl,q1,q2,q3,q4,rfl,hM3,hb3⟩;have hs1:=HS1.o;have hM3':=hM3.mono hs1;obtain⟨B1,d1,rfl,_⟩:=hM3.t.b;obtain⟨B2,d2,rfl,_⟩:=hM3.t.f;obtain⟨B3,d3,rfl,_⟩:=hM3.l;obtain⟨B4,d4,rfl,_⟩:=hM3.o;have HX3:=Hd (HX1.o.below hb3);have HO3:=Hd (HO1.o.below hb3);have HB3:=Hd (bT HB1.o hb3);have HS3:=Hd (Nat.le_trans HS1.o hb3.size);clear hb3;clear m01 m11 m21 m31 m41 m51 m61 m71 m81;have hs3:=HS3.o;have ho4:=Own.new_ w3 34 #[.slice B1 m.t.bs.length d1,.slice B2 m.t.fs.length d2,.slice B3 m.c.ls.length d3,.int .i64 m.c.hand,.int .i64 m.g.count,.int .i64 m.g.next,.int .i64 m.g.round,.slice B4 m.g.os.length d4,.int .i64 m.sp];have hb4:Below w3.heap.size w3 (w3.alloc (.cells #[.slice B1 m.t.bs.length d1,.slice B2 m.t.fs.length d2,.slice B3 m.c.ls.length d3,.int .i64 m.c.hand,.int .i64 m.g.count,.int .i64 m.g.next,.int .i64 m.g.round,.slice B4 m.g.os.length d4,.int .i64 m.sp] 34)):=bA bR;generalize hW4:w3.alloc (.cells #[.slice B1 m.t.bs.length d1,.slice B2 m.t.fs.length d2,.slice B3 m.c.ls.length d3,.int .i64 m.c.hand,.int .i64 m.g.count,.int .i64 m.g.next,.int .i64 m.g.round,.slice B4 m.g.os.length d4,.int .i64 m.sp] 34)=w4 at ho4 hb4;have HM4:=Hd (hM3'.now hb4);have HU4:=Hd ho4;have HX4:=Hd (HX3.o.below hb4);have HO4:=Hd (HO3.o.below hb4);have HB4:=Hd (bT HB3.o hb4);have HS4:=Hd (Nat.le_trans HS3.o hb4.size);clear hb4;clear hM3 hM3' ho4;obtain⟨m04,m14,m24,m34,m44,m54,m64,m74,m84⟩:=cells9 HX4.o;go_wp2_with fail
  refine(tagFor_any vb vf vl vo m m.sp p _ (HM.o.now HB4.o)).mono ?_;rintro e w2 ⟨rfl,hb2⟩;have HM2:=Hd (HM4.o.now hb2);have HU2:=Hd (HU4.o.below hb2);have HX2:=Hd (HX4.o.below hb2);have HO2:=Hd (HO4.o.below hb2);have HB2:=Hd (bT HB4.o hb2);have HS2:=Hd (Nat.le_trans HS4.o hb2.size);clear hb2;clear m04 m14 m24 m34 m44 m54 m64 m74 m84;clear hW4;obtain⟨m02,m12,m22,m32,m42,m52,m62,m72,m82⟩:=cells9 HX2.o;go_wp2_with fail
  refine(place_any vl m.c (tagT m m.sp p) p _ (HM.o.l.now HB2.o)).mono ?_;rintro e w5 ⟨rfl,hb5⟩;have HM5:=Hd (HM2.o.now hb5);have HU5:=Hd (HU2.o.below hb5);have HX5:=Hd (HX2.o.below hb5);have HO5:=Hd (HO2.o.below hb5);have HB5:=Hd (bT HB2.o hb5);have HS5:=Hd (Nat.le_trans HS2.o hb5.size);clear hb5;clear m02 m12 m22 m32 m42 m52 m62 m72 m82;rw[show plcI m.c.ls (tagT m m.sp p) p=tchH m p from rfl];by_cases hh:0≤tchH m p
  case pos=>
    obtain⟨k,i,x,f,hk,ex,hxf,ef,hu,hfr,hti,_⟩:=MM.hit hh;rw[hk];have HVV:Hi (tchV m p n=m):=by show _=_;unfold tchV;rw[HOK.o,if_pos rfl,if_pos hh]
    have HFF:Hi (tchF m p n=(i:Int)):=by show _=_;unfold tchF;rw[HOK.o,if_pos rfl,hti]
    have HAA:Hi (tchA m p n=alw x.r n):=by show _=_;unfold tchA;rw[hti,Int.toNat_natCast,getD_at ef,hfr]
    have HRR:Hi (tchR m p n=if alw x.r n=true then 1 else 4):=by show _=_;unfold tchR;rw[HOK.o,if_pos rfl,if_pos hh,HAA.o]
    obtain⟨Al,cl,rfl,hlc,hlm,hL⟩:=HM.o.l;obtain⟨bl,ol,rfl,hbl,x0,x1,x2,x3,x4,x5⟩:=(hL.now (Nat.le_refl _) HB5.o).ln ex;rw[hxf]at x3;have hkl:=(List.getElem?_eq_some_iff.1 ex).1;have m25:=HX5.c 2 (.slice (some ⟨bl,ol,none⟩) m.c.ls.length cl) rfl;clear x0 x1 x2 x5 hL ex ef hh hk hti hxf hfr hu;have hkz:(0:Int)≤(k:Int):=by omega
    go_wp2;go_quiet (fail)
    clear x3 x4 m25;have HX6:=Hd (HX5.o.drewN (n:=nq));have HO6:=Hd (HO5.o.drewN (n:=nq));have HU6:=Hd (HU5.o.drewN (n:=nq));have HB6:=Hd (bDN HB5.o (n:=nq));have HM6:=Hd (HM5.o.now (bDN bR (n:=nq)));generalize w5.drewN nq=w6 at HX6 HO6 HU6 HB6 HM6⊢;go_wp2_with fail
    refine(Allows_any _ _ _).mono ?_;rintro e w' ⟨rfl,rfl⟩
    cases hal:alw x.r n with
    | true=>
      rw[hal]at HRR;obtain⟨r0x,r1x,r2x,r3x,r4x,r5x,r6x,r7x,r8x⟩:=cells9 HO6.o;obtain⟨z0x,z1x,z2x,z3x,z4x,z5x,z6x,z7x,z8x⟩:=free9 HO6.o;obtain⟨p0o,p1o,p2o,p3o,p4o,p5o,p6o,p7o,p8o⟩:=cells9 HU6.o;have hlr:=HO6.o.lt;have hlu:=HU6.o.lt;go_wp2;have o3:=HO6.o.set9 (.slice B1 m.t.bs.length d1) (.slice B2 m.t.fs.length d2) (.slice B3 m.c.ls.length d3) (.int .i64 (m).c.hand) (.int .i64 (m).g.count) (.int .i64 (m).g.next) (.int .i64 (m).g.round) (.slice B4 m.g.os.length d4) (.int .i64 (m).sp);obtain⟨p0t,p1t,p2t,p3t,p4t,p5t,p6t,p7t,p8t⟩:=cells9 o3;refine bodyPost_ret (v:=.tuple #[.agg #[.slice B1 m.t.bs.length d1,.slice B2 m.t.fs.length d2,.slice B3 m.c.ls.length d3,.int .i64 m.c.hand,.int .i64 m.g.count,.int .i64 m.g.next,.int .i64 m.g.round,.slice B4 m.g.os.length d4,.int .i64 m.sp],.int .i64 (i),.int .i64 (1),.bool true]) (by simp[results,Tryz.results45,go_sem,p0t,p1t,p2t,p3t,p4t,p5t,p6t,p7t,p8t]) rfl ⟨_,rfl,_,_,_,_,by(rw[HVV.o,HFF.o,HRR.o,HOK.o])<;>rfl, ?_, ?_⟩
      · rw[HVV.o]
        exact(HM6.o.far9 HO6.o _ _ _ _ _ _ _ _ _).mono (by omega)
      · repeat (refine bS ?_ (by simp<;>omega))
        exact HB6.o
    | false=>
      rw[hal]at HRR;obtain⟨r0x,r1x,r2x,r3x,r4x,r5x,r6x,r7x,r8x⟩:=cells9 HO6.o;obtain⟨z0x,z1x,z2x,z3x,z4x,z5x,z6x,z7x,z8x⟩:=free9 HO6.o;obtain⟨p0o,p1o,p2o,p3o,p4o,p5o,p6o,p7o,p8o⟩:=cells9 HU6.o;have hlr:=HO6.o.lt;have hlu:=HU6.o.lt;go_wp2;have o3:=HO6.o.set9 (.slice B1 m.t.bs.length d1) (.slice B2 m.t.fs.length d2) (.slice B3 m.c.ls.length d3) (.int .i64 (m).c.hand) (.int .i64 (m).g.count) (.int .i64 (m).g.next) (.int .i64 (m).g.round) (.slice B4 m.g.os.length d4) (.int .i64 (m).sp);obtain⟨p0t,p1t,p2t,p3t,p4t,p5t,p6t,p7t,p8t⟩:=cells9 o3;refine bodyPost_ret (v:=.tuple #[.agg #[.slice B1 m.t.bs.length d1,.slice B2 m.t.fs.length d2,.slice B3 m.c.ls.length d3,.int .i64 m.c.hand,.int .i64 m.g.count,.int .i64 m.g.next,.int .i64 m.g.round,.slice B4 m.g.os.length d4,.int .i64 m.sp],.int .i64 (i),.int .i64 (4),.bool true]) (by simp[results,Tryz.results45,go_sem,p0t,p1t,p2t,p3t,p4t,p5t,p6t,p7t,p8t]) rfl ⟨_,rfl,_,_,_,_,by(rw[HVV.o,HFF.o,HRR.o,HOK.o])<;>rfl, ?_, ?_⟩
      · rw[HVV.o]
        exact(HM6.o.far9 HO6.o _ _ _ _ _ _ _ _ _).mono (by omega)
      · repeat (refine bS ?_ (by simp<;>omega))
        exact HB6.o
  case neg=>
    have HNH:Hi (¬0≤tchH m p):=hh;have HK:=Hd (KeyFor_any m.sp p);have HFN:=Hd (fun W (h:TaR W vb vf m.t)=>find_any vb vf m.t (keyI m.sp p) p W h);rw[show fndI m.t.fs (keyI m.sp p) p=tchK m p from rfl]at HFN;have m05:=HX5.c 0 (vb) rfl;have m15:=HX5.c 1 (vf) rfl;have m85:=HX5.c 8 (.int .i64 m.sp) rfl;go_wp2
    go_region_held_law (fun w'=>w'.cell? ⟨w.heap.size,0,none⟩=some vb∧w'.cell? ⟨w.heap.size,1,none⟩=some vf∧w'.cell? ⟨w.heap.size,8,none⟩=some (.int .i64 m.sp)) (go_keep) (first
      | (go_at_call 40
         refine(HK.o _).mono ?_;rintro _ w6 ⟨rfl,hb6⟩;have HM6:=Hd (HM5.o.now (bT (bD bR) hb6));have HU6:=Hd (HU5.o.drew.below hb6);have HX6:=Hd (HX5.o.drew.below hb6);have HO6:=Hd (HO5.o.drew.below hb6);have HB6:=Hd (bT (bD HB5.o) hb6);have d0:=HX6.c 0 (vb) rfl;have d1:=HX6.c 1 (vf) rfl;have d2:=HX6.c 8 (.int .i64 m.sp) rfl
         clear hb6)
      | (go_at_call 41
         refine(HFN.o _ (HM.o.t.now HB6.o)).mono ?_;rintro _ w7 ⟨rfl,hb7⟩;have HM7:=Hd (HM6.o.now hb7);have HU7:=Hd (HU6.o.below hb7);have HX7:=Hd (HX6.o.below hb7);have HO7:=Hd (HO6.o.below hb7);have HB7:=Hd (bT HB6.o hb7);have e0:=HX7.c 0 (vb) rfl;have e1:=HX7.c 1 (vf) rfl;have e2:=HX7.c 8 (.int .i64 m.sp) rfl
         clear hb7 d0 d1 d2))
    all_goals
      clear m05 m15 m85 e0 e1 e2;have hnh:¬0≤tchH m p:=by have:=HNH.o;omega
      by_cases hf:0≤tchK m p
      case neg=>
        have HVV:Hi (tchV m p n=m):=by show _=_;unfold tchV;rw[HOK.o,if_pos rfl,if_neg hnh,if_neg hf]
        have HFF:Hi (tchF m p n=0):=by show _=_;unfold tchF tchFr;rw[HOK.o,if_pos rfl,if_neg hnh,if_neg hf]
        have HRR:Hi (tchR m p n=3):=by show _=_;unfold tchR;rw[HOK.o,if_pos rfl,if_neg hnh,if_neg hf]
        have hfb:tchK m p<0:=by omega
        obtain⟨r0x,r1x,r2x,r3x,r4x,r5x,r6x,r7x,r8x⟩:=cells9 HO7.o;obtain⟨z0x,z1x,z2x,z3x,z4x,z5x,z6x,z7x,z8x⟩:=free9 HO7.o;obtain⟨p0o,p1o,p2o,p3o,p4o,p5o,p6o,p7o,p8o⟩:=cells9 HU7.o;have hlr:=HO7.o.lt;have hlu:=HU7.o.lt;go_wp2;have o3:=HO7.o.set9 (.slice B1 m.t.bs.length d1) (.slice B2 m.t.fs.length d2) (.slice B3 m.c.ls.length d3) (.int .i64 (m).c.hand) (.int .i64 (m).g.count) (.int .i64 (m).g.next) (.int .i64 (m).g.round) (.slice B4 m.g.os.length d4) (.int .i64 (m).sp);obtain⟨p0t,p1t,p2t,p3t,p4t,p5t,p6t,p7t,p8t⟩:=cells9 o3;refine bodyPost_ret (v:=.tuple #[.agg #[.slice B1 m.t.bs.length d1,.slice B2 m.t.fs.length d2,.slice B3 m.c.ls.length d3,.int .i64 m.c.hand,.int .i64 m.g.count,.int .i64 m.g.next,.int .i64 m.g.round,.slice B4 m.g.os.length d4,.int .i64 m.sp],.int .i64 (0),.int .i64 (3),.bool true]) (by simp[results,Tryz.results45,go_sem,p0t,p1t,p2t,p3t,p4t,p5t,p6t,p7t,p8t]) rfl ⟨_,rfl,_,_,_,_,by(rw[HVV.o,HFF.o,HRR.o,HOK.o])<;>rfl, ?_, ?_⟩
        · rw[HVV.o]
          exact(HM7.o.far9 HO7.o _ _ _ _ _ _ _ _ _).mono (by omega)
        · repeat (refine bS ?_ (by simp<;>omega))
          exact HB7.o
      case pos=>
        obtain⟨k,hk,hfd⟩:=fndI_fnd (show 0≤fndI m.t.fs (keyI m.sp p) p from hf);obtain⟨f,ef,hu,_⟩:=fnd_some hfd;have hkk:tchK m p=(k:Int):=hk;have hok:=(MM.fill h2 hnh hfd).1;have HVV:Hi (tchV m p n={m with c:=filC m.c (tln m p k)}):=by show _=_;unfold tchV;rw[HOK.o,if_pos rfl,if_neg hnh,if_pos hf,hkk]
        have hti:tchFr m p=(k:Int):=by unfold tchFr;rw[if_neg hnh,if_pos hf,hkk]
        have HFF:Hi (tchF m p n=(k:Int)):=by show _=_;unfold tchF;rw[HOK.o,if_pos rfl,hti]
        have HAA:Hi (tchA m p n=alw f.r n):=by show _=_;unfold tchA;rw[hti,Int.toNat_natCast,getD_at ef]
        have HRR:Hi (tchR m p n=if alw f.r n=true then 2 else 4):=by show _=_;unfold tchR;rw[HOK.o,if_pos rfl,if_neg hnh,if_pos hf,HAA.o]
        have hkl:=(List.getElem?_eq_some_iff.1 ef).1;have hfb:¬(k:Int)<0:=by omega
        have hln:tln m p k=⟨true,tagT m m.sp p,p,k,f.r,false⟩:=by unfold tln;rw[Int.toNat_natCast,getD_at ef]
        have hFL:=fun W (h:SlR lnE W (.slice B3 m.c.ls.length d3) m.c.ls)=>FillLine_any (.slice B3 m.c.ls.length d3) m.c (tln m p k) W h
        rw[filOK_true hok,hok]at hFL;have hFA:filA m.c (tln m p k)=vic m.c:=by unfold filA;rw[hok,if_pos rfl]
        rw[hFA]at hFL;generalize hVC:filC m.c (tln m p k)=V at*;rw[hln]at hFL;simp only[lnV]at hFL;have HFL:=Hd hFL;rw[hkk];obtain⟨Af,cf,rfl,hfc,hfm,hF⟩:=HM.o.t.f;obtain⟨bf,of,rfl,hbf,y0,y1,y2,y3,y4⟩:=(hF.now (Nat.le_refl _) HB7.o).fr ef;have m17:=HX7.c 1 (.slice (some ⟨bf,of,none⟩) m.t.fs.length cf) rfl;clear hk hfd ef hu hkk hok hti hf hnh hFL hln hF y0 y1 y2 y4 hVC hFA;have hkz:(0:Int)≤(k:Int):=by omega
        go_wp2;go_quiet (fail)
        clear m17 y3;have HX9:=Hd (HX7.o.drewN (n:=nq));have HO9:=Hd (HO7.o.drewN (n:=nq));have HU9:=Hd (HU7.o.drewN (n:=nq));have HB9:=Hd (bDN HB7.o (n:=nq));have HM9:=Hd (HM7.o.now (bDN bR (n:=nq)));generalize w7.drewN nq=w9 at HX9 HO9 HU9 HB9 HM9⊢;have u2:=HU9.c 2 (.slice B3 m.c.ls.length d3) rfl;have u3:=HU9.c 3 (.int .i64 m.c.hand) rfl;go_wp2_with fail
        refine(HFL.o _ HM9.o.l.r).mono ?_;rintro e w8 ⟨_,rfl,c1,rfl,hL8,hb8⟩;have hL8':=hL8;obtain⟨E3,n3,rfl,_⟩:=hL8';have ho10:=Own.new_ w8 29 #[.slice E3 V.ls.length n3,.int .i64 V.hand];have hb10:Below w8.heap.size w8 (w8.alloc (.cells #[.slice E3 V.ls.length n3,.int .i64 V.hand] 29)):=bA bR;generalize hW10:w8.alloc (.cells #[.slice E3 V.ls.length n3,.int .i64 V.hand] 29)=w10 at ho10 hb10;have hsz9:w.heap.size+2≤w9.heap.size:=by have:=HU9.o.lt;omega
        have HL10:=Hd ((hL8.now hb10).mono hsz9);have HC10:=Hd ho10;have HU10:=Hd ((HU9.o.below hb8).below hb10);have HX10:=Hd ((HX9.o.below hb8).below hb10);have HO10:=Hd ((HO9.o.below hb8).below hb10);have HB10:=Hd (bT (bT HB9.o hb8) hb10);have HM10:=Hd ((HM9.o.now hb8).now hb10);have hcu:w8.heap.size≠w3.heap.size:=by have:=HU9.o.lt;have:=hb8.size;omega
        have hcu2:w3.heap.size≠w8.heap.size:=fun h=>hcu h.symm
        clear hL8 hb8 ho10 hb10 u2 u3;have c0:=HC10.c 0 (.slice E3 V.ls.length n3) rfl;have c1:=HC10.c 1 (.int .i64 V.hand) rfl;have hlc:=HC10.o.lt;have hlu:=HU10.o.lt;have g2:=HU10.o.free 2;have g3:=HU10.o.free 3;have u2:=HU10.c 2 (.slice B3 m.c.ls.length d3) rfl;have u3:=HU10.c 3 (.int .i64 m.c.hand) rfl;have hu11:=(HU10.o.set_ 2 (.slice E3 V.ls.length n3)).set_ 3 (.int .i64 V.hand);have ho11:=(HO10.o.far (p:=⟨w3.heap.size,2,none⟩) (u:=.slice E3 V.ls.length n3) (by show w.heap.size+1≠w3.heap.size;omega)).far (p:=⟨w3.heap.size,3,none⟩) (u:=.int .i64 V.hand) (by show w.heap.size+1≠w3.heap.size;omega)
        have hmm:MaM (w.heap.size+2) w10 (.slice B1 m.t.bs.length d1) (.slice B2 m.t.fs.length d2) (.slice E3 V.ls.length n3) (.slice B4 m.g.os.length d4) {m with c:=V}:=⟨HM10.o.t,HL10.o,HM10.o.o⟩
        have hm11:=(hmm.farT (u:=.slice E3 V.ls.length n3) (i:=2) HU10.o).farT (u:=.int .i64 V.hand) (i:=3) (HU10.o.set_ 2 (.slice E3 V.ls.length n3))
        have hb11:Below w.heap.size w ((w10.setCell ⟨w3.heap.size,2,none⟩ (.slice E3 V.ls.length n3)).setCell ⟨w3.heap.size,3,none⟩ (.int .i64 V.hand)):=by
          repeat (refine bS ?_ (by simp<;>omega))
          exact HB10.o
        generalize hW11:(w10.setCell ⟨w3.heap.size,2,none⟩ (.slice E3 V.ls.length n3)).setCell ⟨w3.heap.size,3,none⟩ (.int .i64 V.hand)=w11 at hu11 ho11 hm11 hb11
        have HU11:Hi (Own w11 w3.heap.size 34 #[.slice B1 m.t.bs.length d1,.slice B2 m.t.fs.length d2,.slice E3 V.ls.length n3,.int .i64 ({m with c:=V}:Ma).c.hand,.int .i64 ({m with c:=V}:Ma).g.count,.int .i64 ({m with c:=V}:Ma).g.next,.int .i64 ({m with c:=V}:Ma).g.round,.slice B4 m.g.os.length d4,.int .i64 ({m with c:=V}:Ma).sp]):=by
          show Own _ _ _ _;simpa using hu11
        have HO11:=Hd ho11;have HM11:=Hd hm11;have HB11:=Hd hb11;clear hu11 ho11 hm11 hb11 hmm;go_wp2_with fail
        refine(Allows_any _ _ _).mono ?_;rintro e w' ⟨rfl,rfl⟩;clear c0 c1 g2 g3 u2 u3 hW11 hW10
        cases hal:alw f.r n with
        | true=>
          rw[hal]at HRR;obtain⟨r0x,r1x,r2x,r3x,r4x,r5x,r6x,r7x,r8x⟩:=cells9 HO11.o;obtain⟨z0x,z1x,z2x,z3x,z4x,z5x,z6x,z7x,z8x⟩:=free9 HO11.o;obtain⟨p0o,p1o,p2o,p3o,p4o,p5o,p6o,p7o,p8o⟩:=cells9 HU11.o;have hlr:=HO11.o.lt;have hlu:=HU11.o.lt;go_wp2;have o3:=HO11.o.set9 (.slice B1 m.t.bs.length d1) (.slice B2 m.t.fs.length d2) (.slice E3 V.ls.length n3) (.int .i64 (({m with c:=V}:Ma)).c.hand) (.int .i64 (({m with c:=V}:Ma)).g.count) (.int .i64 (({m with c:=V}:Ma)).g.next) (.int .i64 (({m with c:=V}:Ma)).g.round) (.slice B4 m.g.os.length d4) (.int .i64 (({m with c:=V}:Ma)).sp);obtain⟨p0t,p1t,p2t,p3t,p4t,p5t,p6t,p7t,p8t⟩:=cells9 o3;refine bodyPost_ret (v:=.tuple #[.agg #[.slice B1 m.t.bs.length d1,.slice B2 m.t.fs.length d2,.slice E3 V.ls.length n3,.int .i64 ({m with c:=V}:Ma).c.hand,.int .i64 ({m with c:=V}:Ma).g.count,.int .i64 ({m with c:=V}:Ma).g.next,.int .i64 ({m with c:=V}:Ma).g.round,.slice B4 m.g.os.length d4,.int .i64 ({m with c:=V}:Ma).sp],.int .i64 (k),.int .i64 (2),.bool true]) (by simp[results,Tryz.results45,go_sem,p0t,p1t,p2t,p3t,p4t,p5t,p6t,p7t,p8t]) rfl ⟨_,rfl,_,_,_,_,by(rw[HVV.o,HFF.o,HRR.o,HOK.o])<;>rfl, ?_, ?_⟩
          · rw[HVV.o]
            exact(HM11.o.far9 HO11.o _ _ _ _ _ _ _ _ _).mono (by omega)
          · repeat (refine bS ?_ (by simp<;>omega))
            exact HB11.o
        | false=>
          rw[hal]at HRR;obtain⟨r0x,r1x,r2x,r3x,r4x,r5x,r6x,r7x,r8x⟩:=cells9 HO11.o;obtain⟨z0x,z1x,z2x,z3x,z4x,z5x,z6x,z7x,z8x⟩:=free9 HO11.o;obtain⟨p0o,p1o,p2o,p3o,p4o,p5o,p6o,p7o,p8o⟩:=cells9 HU11.o;have hlr:=HO11.o.lt;have hlu:=HU11.o.lt;go_wp2;have o3:=HO11.o.set9 (.slice B1 m.t.bs.length d1) (.slice B2 m.t.fs.length d2) (.slice E3 V.ls.length n3) (.int .i64 (({m with c:=V}:Ma)).c.hand) (.int .i64 (({m with c:=V}:Ma)).g.count) (.int .i64 (({m with c:=V}:Ma)).g.next) (.int .i64 (({m with c:=V}:Ma)).g.round) (.slice B4 m.g.os.length d4) (.int .i64 (({m with c:=V}:Ma)).sp);obtain⟨p0t,p1t,p2t,p3t,p4t,p5t,p6t,p7t,p8t⟩:=cells9 o3;refine bodyPost_ret (v:=.tuple #[.agg #[.slice B1 m.t.bs.length d1,.slice B2 m.t.fs.length d2,.slice E3 V.ls.length n3,.int .i64 ({m with c:=V}:Ma).c.hand,.int .i64 ({m with c:=V}:Ma).g.count,.int .i64 ({m with c:=V}:Ma).g.next,.int .i64 ({m with c:=V}:Ma).g.round,.slice B4 m.g.os.length d4,.int .i64 ({m with c:=V}:Ma).sp],.int .i64 (k),.int .i64 (4),.bool true]) (by simp[results,Tryz.results45,go_sem,p0t,p1t,p2t,p3t,p4t,p5t,p6t,p7t,p8t]) rfl ⟨_,rfl,_,_,_,_,by(rw[HVV.o,HFF.o,HRR.o,HOK.o])<;>rfl, ?_, ?_⟩
          · rw[HVV.o]
            exact(HM11.o.far9 HO11.o _ _ _ _ _ _ _ _ _).mono (by omega)
          · repeat (refine bS ?_ (by simp<;>omega))
            exact HB11.o
end Go.Proofs.YtfbnokjdkhcgoaaGreatDoor
