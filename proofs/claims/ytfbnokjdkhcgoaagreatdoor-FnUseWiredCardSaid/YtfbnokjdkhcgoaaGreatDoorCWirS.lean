/- A part of the proofs of this seat. -/
import Derived.Test.YtfbnokjdkhcgoaaGreatDoorCEntP
import Derived.Test.YtfbnokjdkhcgoaaGreatDoorCTpS
set_option linter.unusedVariables false
set_option linter.unusedSimpArgs false
set_option maxRecDepth 1000000
set_option maxHeartbeats 16000000
namespace Go.Proofs.YtfbnokjdkhcgoaaGreatDoor
open Go.RowKit
theorem MineE.wwire{e:TypeId}{B:Nat}{w:World}{g:Nat}{l:List Ln}(h:MineE lnE e B w (some ⟨g,0,none⟩) l){k:Nat}{f:Ln}(hk:l[k]?=some f)(b:Bool):
  MineE lnE e B (w.setCell ⟨g,k*6+5,none⟩ (.bool b)) (some ⟨g,0,none⟩) (l.set k {f with w:=b}):=by
 refine h.wcell hk {f with w:=b} 5 (.bool b) (by decide) (fun j u hj=> ?_);simp only[lnE]at hj⊢
 match j,hj with
 | 0,hj=>exact .inr ⟨by decide,hj⟩
 | 1,hj=>exact .inr ⟨by decide,hj⟩
 | 2,hj=>exact .inr ⟨by decide,hj⟩
 | 3,hj=>exact .inr ⟨by decide,hj⟩
 | 4,hj=>exact .inr ⟨by decide,hj⟩
 | 5,hj=>simp at hj;exact .inl ⟨rfl,hj.symm⟩
 | j+6,hj=>simp at hj
theorem wirOK_false{c:Ca}{i:Int}{b:Bool}(h:wirOK c i b=false):wirV c i b=caz:=by unfold wirV;rw[h];rfl
theorem wirOK_true{c:Ca}{i:Int}{b:Bool}(h:wirOK c i b=true):wirV c i b=wirC c i b:=by unfold wirV;rw[h];rfl
theorem sWireLine_any(vl:Value)(c:Ca)(i:Int)(b:Bool)(w:World)(hT:SlR lnE w vl c.ls):
  Calls Tryz.prog 234 #[.agg #[vl,.int .i64 c.hand],.int .i64 i,.bool b] w (Post2 fun v w'=>∃v1,v=.tuple #[.agg #[v1,.int .i64 (wirV c i b).hand],.bool (wirOK c i b)]∧SlM lnE 50 w.heap.size w' v1 (wirV c i b).ls∧Below w.heap.size w w'):=by
 have HV0:=Hd hT;obtain⟨A,cc,rfl,hbc,hbm,hL⟩:=hT;have hbx:=(Own.new_ w 29 #[.slice A c.ls.length cc,.int .i64 c.hand]).alloc (o:=.cells #[.slice none 0 0,.int .i64 0] 29);have hbo:=ownAt (W:=w.alloc (.cells #[.slice A c.ls.length cc,.int .i64 c.hand] 29)) (g:=w.heap.size+1) (t:=29) (cs:=#[.slice none 0 0,.int .i64 0]) (by simp);have hb0:Below w.heap.size w ((w.alloc (.cells #[.slice A c.ls.length cc,.int .i64 c.hand] 29)).alloc (.cells #[.slice none 0 0,.int .i64 0] 29)):=bA (bA bR);have hs0:((w.alloc (.cells #[.slice A c.ls.length cc,.int .i64 c.hand] 29)).alloc (.cells #[.slice none 0 0,.int .i64 0] 29)).heap.size=w.heap.size+2:=by simp
 generalize hW:(w.alloc (.cells #[.slice A c.ls.length cc,.int .i64 c.hand] 29)).alloc (.cells #[.slice none 0 0,.int .i64 0] 29)=W0 at hbx hbo hb0 hs0;have q0:=hbx.cell_ 0 (v:=.slice A c.ls.length cc) rfl;have q1:=hbx.cell_ 1 (v:=.int .i64 c.hand) rfl;have HX0:=Hd hbx;have HR0:=Hd hbo;have HB0:=Hd hb0;have HS0:Hi (w.heap.size+2≤W0.heap.size):=Nat.le_of_eq hs0.symm;have HLR:=Hd hL;clear hbx hbo hb0 hL
 go_enter Tryz.func234,Tryz.ntmps234
 go_wp2_with fail
 refine(sCacheValid_any _ c _ (HV0.o.now HB0.o)).mono ?_;rintro e w1 ⟨rfl,hb1⟩;have HX1:=Hd (HX0.o.below hb1);have HR1:=Hd (HR0.o.below hb1);have HB1:=Hd (bT HB0.o hb1);have HS1:=Hd (Nat.le_trans HS0.o hb1.size);clear hb1;clear q0 q1
 cases h1:cav c with
 | false=>
  have HO:Hi (wirOK c i b=false):=by show _=_;unfold wirOK;rw[h1];rfl
  have HV:=Hd (wirOK_false HO.o);have r0:=HR1.c 0 (.slice none 0 0) rfl;have r1:=HR1.c 1 (.int .i64 0) rfl;have f0:=HR1.o.free 0;have f1:=HR1.o.free 1;have hl1:=HR1.o.lt;go_wp2;have o3:=(HR1.o.set_ 0 (.slice none 0 0)).set_ 1 (.int .i64 0);have t0:=o3.cell_ 0 (v:=.slice none 0 0) rfl;have t1:=o3.cell_ 1 (v:=.int .i64 0) rfl;refine bodyPost_ret (v:=.tuple #[.agg #[.slice none 0 0,.int .i64 0],.bool false]) (by simp[results,Tryz.results234,go_sem,t0,t1]) rfl ⟨_,rfl,_,by rw[HV.o,HO.o];rfl,by rw[HV.o];exact SlM.nil_ _, ?_⟩;repeat (refine bS ?_ (by simp<;>omega))
  exact HB1.o
 | true=>
 have hcv:=cav_CV.1 h1;have h8:c.ls.length≤8:=hcv.sz.2;by_cases hi0:i<0
 ·have HO:Hi (wirOK c i b=false):=by show _=_;unfold wirOK;rw[inR_no (show¬(0≤i∧i<c.ls.length)by omega)];simp
  have HV:=Hd (wirOK_false HO.o);have r0:=HR1.c 0 (.slice none 0 0) rfl;have r1:=HR1.c 1 (.int .i64 0) rfl;have f0:=HR1.o.free 0;have f1:=HR1.o.free 1;have hl1:=HR1.o.lt;go_wp2;have o3:=(HR1.o.set_ 0 (.slice none 0 0)).set_ 1 (.int .i64 0);have t0:=o3.cell_ 0 (v:=.slice none 0 0) rfl;have t1:=o3.cell_ 1 (v:=.int .i64 0) rfl;refine bodyPost_ret (v:=.tuple #[.agg #[.slice none 0 0,.int .i64 0],.bool false]) (by simp[results,Tryz.results234,go_sem,t0,t1]) rfl ⟨_,rfl,_,by rw[HV.o,HO.o];rfl,by rw[HV.o];exact SlM.nil_ _, ?_⟩;repeat (refine bS ?_ (by simp<;>omega))
  exact HB1.o
 have q0:=HX1.c 0 (.slice A c.ls.length cc) rfl;by_cases hi1:(c.ls.length:Int)≤i
 ·have HO:Hi (wirOK c i b=false):=by show _=_;unfold wirOK;rw[inR_no (show¬(0≤i∧i<c.ls.length)by omega)];simp
  have HV:=Hd (wirOK_false HO.o);have r0:=HR1.c 0 (.slice none 0 0) rfl;have r1:=HR1.c 1 (.int .i64 0) rfl;have f0:=HR1.o.free 0;have f1:=HR1.o.free 1;have hl1:=HR1.o.lt;go_wp2;have o3:=(HR1.o.set_ 0 (.slice none 0 0)).set_ 1 (.int .i64 0);have t0:=o3.cell_ 0 (v:=.slice none 0 0) rfl;have t1:=o3.cell_ 1 (v:=.int .i64 0) rfl;refine bodyPost_ret (v:=.tuple #[.agg #[.slice none 0 0,.int .i64 0],.bool false]) (by simp[results,Tryz.results234,go_sem,t0,t1]) rfl ⟨_,rfl,_,by rw[HV.o,HO.o];rfl,by rw[HV.o];exact SlM.nil_ _, ?_⟩;repeat (refine bS ?_ (by simp<;>omega))
  exact HB1.o
 obtain⟨k,rfl⟩:=Int.eq_ofNat_of_zero_le (show 0≤i by omega);have hk:k<c.ls.length:=by omega
 obtain⟨x,ex⟩:∃x,c.ls[k]?=some x:=⟨_,List.getElem?_eq_getElem hk⟩
 have hgd:c.ls.getD (k:Int).toNat lnz=x:=by rw[Int.toNat_natCast,List.getD_eq_getElem?_getD,ex];rfl
 have hin:inR (k:Int) c.ls.length=true:=inR_iff.2 (by omega);obtain⟨b4,o4,rfl,hb4,d0,d1,d2,d3,d4,d5⟩:=(HLR.o.now (Nat.le_refl _) HB1.o).ln ex;clear d1 d2 d3 d4 d5
 cases hxv:x.v with
 | false=>
  rw[hxv]at d0;have HO:Hi (wirOK c k b=false):=by show _=_;unfold wirOK;rw[hgd,hxv];simp
  have HV:=Hd (wirOK_false HO.o);have r0:=HR1.c 0 (.slice none 0 0) rfl;have r1:=HR1.c 1 (.int .i64 0) rfl;have f0:=HR1.o.free 0;have f1:=HR1.o.free 1;have hl1:=HR1.o.lt;go_wp2;have o3:=(HR1.o.set_ 0 (.slice none 0 0)).set_ 1 (.int .i64 0);have t0:=o3.cell_ 0 (v:=.slice none 0 0) rfl;have t1:=o3.cell_ 1 (v:=.int .i64 0) rfl;refine bodyPost_ret (v:=.tuple #[.agg #[.slice none 0 0,.int .i64 0],.bool false]) (by simp[results,Tryz.results234,go_sem,t0,t1]) rfl ⟨_,rfl,_,by rw[HV.o,HO.o];rfl,by rw[HV.o];exact SlM.nil_ _, ?_⟩;repeat (refine bS ?_ (by simp<;>omega))
  exact HB1.o
 | true=>
 rw[hxv]at d0;have hwc:wirC c k b=⟨c.ls.set k {x with w:=b},c.hand⟩:=by unfold wirC;rw[hgd,Int.toNat_natCast]
 have q1:=HX1.c 1 (.int .i64 c.hand) rfl;have EX:=Hd ex;clear ex;go_wp2_with fail
 refine(l4Copy_any _ c _ (HV0.o.now HB1.o) (by omega)).mono ?_;rintro e w4 ⟨_,rfl,v1,rfl,hM4,hb4'⟩;have hb4:=hb4';have hs3:=HS1.o;have hlt3:=HR1.o.lt;obtain⟨A2,c2,rfl,l2',k2,m2⟩:=hM4;obtain⟨g2,cs2,rfl,hg2,O2,_⟩:=m2.own (by omega);clear q0 q1 d0;have HX4:=Hd (HX1.o.below hb4);have HR4:=Hd (HR1.o.below hb4);have HB4:=Hd (bT HB1.o hb4);have HS4:=Hd (Nat.le_trans HS1.o hb4.size);clear hb4;clear hb4';have ho5:=Own.new_ w4 29 #[.slice (some ⟨g2,0,none⟩) c.ls.length c2,.int .i64 c.hand];have hb5:Below w4.heap.size w4 (w4.alloc (.cells #[.slice (some ⟨g2,0,none⟩) c.ls.length c2,.int .i64 c.hand] 29)):=bA bR;generalize hW5:w4.alloc (.cells #[.slice (some ⟨g2,0,none⟩) c.ls.length c2,.int .i64 c.hand] 29)=w5 at ho5 hb5;have M5:=Hd (m2.below hb5);have O5:=O2.below hb5;have HX5:=Hd (HX4.o.below hb5);have HR5:=Hd (HR4.o.below hb5);have HB5:=Hd (bT HB4.o hb5);have HS5:=Hd (Nat.le_trans HS4.o hb5.size);clear hb5;clear m2 O2;have HO5:=Hd ho5;have hne:w4.heap.size≠g2:=HO5.o.ne O5 (by decide);have hne2:g2≠w4.heap.size:=fun h=>hne h.symm
 have q3:w.heap.size+1≠g2:=HR5.o.ne O5 (by decide);have q4:g2≠w.heap.size+1:=fun h=>q3 h.symm
 have z5:=O5.free (k*6+5);obtain⟨bq,oq,eq1,_,y0,y1,y2,y3,y4,y5⟩:=M5.o.is.ln EX.o;injection eq1 with eq1;injection eq1 with eq1 eq2;subst eq1 eq2;rw[Nat.zero_add]at y5;have o50:=HO5.c 0 (.slice (some ⟨g2,0,none⟩) c.ls.length c2) rfl;have hlo:=HO5.o.lt;have m9:=M5.o.wwire EX.o b;have hr9:=HR5.o.far (p:=⟨g2,k*6+5,none⟩) (u:=.bool b) q3;have ho9:=HO5.o.far (p:=⟨g2,k*6+5,none⟩) (u:=.bool b) hne;have hgg:w.heap.size≤g2:=by have:=HB1.o.size;omega
 have hb9:=bS HB5.o (p:=⟨g2,k*6+5,none⟩) hgg (u:=.bool b);generalize hW9:w5.setCell ⟨g2,k*6+5,none⟩ (.bool b)=w9 at m9 hr9 ho9 hb9;have M9:=Hd m9;have HR9:=Hd hr9;have HO9:=Hd ho9;have HB9:=Hd hb9;clear m9 hr9 ho9 hb9 O5 ho5 y0 y1 y2 y3 y4;have o91:=HO9.c 0 (.slice (some ⟨g2,0,none⟩) c.ls.length c2) rfl;have o92:=HO9.c 1 (.int .i64 c.hand) rfl;have hlo9:=HO9.o.lt;go_wp2_with fail
 refine(sCacheValid_any (.slice (some ⟨g2,0,none⟩) c.ls.length c2) ⟨c.ls.set k {x with w:=b},c.hand⟩ w9 (slm_of (by simp) (by simpa using l2') k2 M9.o).r).mono ?_;rintro e w10 ⟨rfl,hb10⟩;have HR10:=Hd (HR9.o.below hb10);have HO10:=Hd (HO9.o.below hb10);have M10:=Hd (M9.o.below hb10);have HB10:=Hd (bT HB9.o hb10);clear hb10 o91 o92 o50 y5 z5
 cases h5:cav ⟨c.ls.set k {x with w:=b},c.hand⟩with
 | false=>
  have HO:Hi (wirOK c k b=false):=by show _=_;unfold wirOK;rw[hwc,h5,Bool.and_false]
  have HV:=Hd (wirOK_false HO.o);have r0:=HR10.c 0 (.slice none 0 0) rfl;have r1:=HR10.c 1 (.int .i64 0) rfl;have f0:=HR10.o.free 0;have f1:=HR10.o.free 1;have hl1:=HR10.o.lt;go_wp2;have o3:=(HR10.o.set_ 0 (.slice none 0 0)).set_ 1 (.int .i64 0);have t0:=o3.cell_ 0 (v:=.slice none 0 0) rfl;have t1:=o3.cell_ 1 (v:=.int .i64 0) rfl;refine bodyPost_ret (v:=.tuple #[.agg #[.slice none 0 0,.int .i64 0],.bool false]) (by simp[results,Tryz.results234,go_sem,t0,t1]) rfl ⟨_,rfl,_,by rw[HV.o,HO.o];rfl,by rw[HV.o];exact SlM.nil_ _, ?_⟩;repeat (refine bS ?_ (by simp<;>omega))
  exact HB10.o
 | true=>
  have HO:Hi (wirOK c k b=true):=by show _=_;unfold wirOK;rw[h1,hin,hgd,hxv,hwc,h5];rfl
  have HV:Hi (wirV c k b=⟨c.ls.set k {x with w:=b},c.hand⟩):=by show _=_;rw[wirOK_true HO.o];exact hwc
  have r0:=HR10.c 0 (.slice none 0 0) rfl;have r1:=HR10.c 1 (.int .i64 0) rfl;have f0:=HR10.o.free 0;have f1:=HR10.o.free 1;have hl1:=HR10.o.lt;have o91:=HO10.c 0 (.slice (some ⟨g2,0,none⟩) c.ls.length c2) rfl;have o92:=HO10.c 1 (.int .i64 c.hand) rfl;have hlo10:=HO10.o.lt;go_wp2;have o3:=(HR10.o.set_ 0 (.slice (some ⟨g2,0,none⟩) c.ls.length c2)).set_ 1 (.int .i64 c.hand);have t0:=o3.cell_ 0 (v:=.slice (some ⟨g2,0,none⟩) c.ls.length c2) rfl;have t1:=o3.cell_ 1 (v:=.int .i64 c.hand) rfl;refine bodyPost_ret (v:=.tuple #[.agg #[.slice (some ⟨g2,0,none⟩) c.ls.length c2,.int .i64 c.hand],.bool true]) (by simp[results,Tryz.results234,go_sem,t0,t1]) rfl ⟨_,rfl,_,by rw[HV.o,HO.o], ?_, ?_⟩
  ·rw[HV.o];exact(slm_of (by simp) (by simpa using l2') k2 ((M10.o.far (p:=⟨w.heap.size+1,0,none⟩) (u:=.slice (some ⟨g2,0,none⟩) c.ls.length c2) hlt3).far (p:=⟨w.heap.size+1,1,none⟩) (u:=.int .i64 c.hand) hlt3)).mono (by have:=HB1.o.size;omega)
  ·repeat (refine bS ?_ (by simp<;>omega))
   exact HB10.o
theorem sWirePage_any (vb vf vl vo:Value) (m:Ma) (p:Int) (w:World) (hM:MaR w vb vf vl vo m):
    Calls Tryz.prog 228 #[.agg #[vb,vf,vl,.int .i64 m.c.hand,.int .i64 m.g.count,.int .i64 m.g.next,.int .i64 m.g.round,vo,.int .i64 m.sp],.int .i64 p] w (Post2 fun v w'=>∃v1 v2 v3 v4,v=.tuple #[.agg #[v1,v2,v3,.int .i64 (wpV m p).c.hand,.int .i64 (wpV m p).g.count,.int .i64 (wpV m p).g.next,.int .i64 (wpV m p).g.round,v4,.int .i64 (wpV m p).sp],.bool (wpO m p)]∧MaM w.heap.size w' v1 v2 v3 v4 (wpV m p)∧Below w.heap.size w w'):=by
  obtain⟨W0,hW,hbx,hbo,hb0,hs0⟩:=box2 w #[vb,vf,vl,.int .i64 m.c.hand,.int .i64 m.g.count,.int .i64 m.g.next,.int .i64 m.g.round,vo,.int .i64 m.sp] 34 #[.slice none 0 0,.slice none 0 0,.slice none 0 0,.int .i64 0,.int .i64 0,.int .i64 0,.int .i64 0,.slice none 0 0,.int .i64 0] 34;obtain⟨m0q,m1q,m2q,m3q,m4q,m5q,m6q,m7q,m8q⟩:=cells9 hbx;have HX0:=Hd hbx;have HO0:=Hd hbo;have HB0:=Hd hb0;have HM:=Hd hM;clear hbx hbo hb0 hM;clear m0q m1q m2q m3q m4q m5q m6q m7q m8q;have HS0:Hi (w.heap.size+2≤W0.heap.size):=Nat.le_of_eq hs0.symm;have HR0:=HO0;obtain⟨m00,m10,m20,m30,m40,m50,m60,m70,m80⟩:=cells9 HX0.o
  go_enter Tryz.func228,Tryz.ntmps228
  go_wp2_with fail
  refine(sTouchPage_any vb vf vl vo m p 0 _ (HM.o.now HB0.o)).mono ?_;rintro e w1 ⟨_,rfl,q1,q2,q3,q4,rfl,hM1,hb1⟩;have hM1':=hM1.mono HS0.o;generalize hTV:tchV m p 0=V at*;obtain⟨B1,d1,rfl,_⟩:=hM1.t.b;obtain⟨B2,d2,rfl,_⟩:=hM1.t.f;obtain⟨B3,d3,rfl,_⟩:=hM1.l;obtain⟨B4,d4,rfl,_⟩:=hM1.o;have HR1:=Hd (HR0.o.below hb1);have HB1:=Hd (bT HB0.o hb1);have HS1:=Hd (Nat.le_trans HS0.o hb1.size);have ho4:=Own.new_ w1 34 #[.slice B1 V.t.bs.length d1,.slice B2 V.t.fs.length d2,.slice B3 V.c.ls.length d3,.int .i64 V.c.hand,.int .i64 V.g.count,.int .i64 V.g.next,.int .i64 V.g.round,.slice B4 V.g.os.length d4,.int .i64 V.sp];have hb4:Below w1.heap.size w1 (w1.alloc (.cells #[.slice B1 V.t.bs.length d1,.slice B2 V.t.fs.length d2,.slice B3 V.c.ls.length d3,.int .i64 V.c.hand,.int .i64 V.g.count,.int .i64 V.g.next,.int .i64 V.g.round,.slice B4 V.g.os.length d4,.int .i64 V.sp] 34)):=bA bR;have hgt:w.heap.size+2≤w1.heap.size:=HS1.o;generalize hW4:w1.alloc (.cells #[.slice B1 V.t.bs.length d1,.slice B2 V.t.fs.length d2,.slice B3 V.c.ls.length d3,.int .i64 V.c.hand,.int .i64 V.g.count,.int .i64 V.g.next,.int .i64 V.g.round,.slice B4 V.g.os.length d4,.int .i64 V.sp] 34)=w4 at ho4 hb4;have HM4:=Hd (hM1'.now hb4);have HU4:=Hd ho4;have HR4:=Hd (HR1.o.below hb4);have HB4:=Hd (bT HB1.o hb4);have HS4:=Hd (Nat.le_trans HS1.o hb4.size);clear m00 m10 m20 m30 m40 m50 m60 m70 m80;clear hM1 hM1' hb1 hb4 ho4;have hlu:=HU4.o.lt;have hlr:=HR4.o.lt;have HTV:=Hd hTV;clear hTV
  cases h1:tchO m p 0 with
  | false=>
    have HA:Hi (wpO m p=false):=by show _=_;unfold wpO;rw[h1];rfl
    have HV:=Hd (wpO_no HA.o);obtain⟨r0x,r1x,r2x,r3x,r4x,r5x,r6x,r7x,r8x⟩:=cells9 HR4.o;obtain⟨z0x,z1x,z2x,z3x,z4x,z5x,z6x,z7x,z8x⟩:=free9 HR4.o;go_wp2;obtain⟨t0,t1,t2,t3,t4,t5,t6,t7,t8⟩:=cells9 (set9z HR4.o);refine bodyPost_ret (v:=.tuple #[.agg #[.slice none 0 0,.slice none 0 0,.slice none 0 0,.int .i64 0,.int .i64 0,.int .i64 0,.int .i64 0,.slice none 0 0,.int .i64 0],.bool false]) (by simp[results,Tryz.results228,go_sem,t0,t1,t2,t3,t4,t5,t6,t7,t8]) rfl ⟨_,rfl,_,_,_,_,by rw[HA.o,HV.o];rfl,by rw[HV.o];exact mam_z, ?_⟩;repeat (refine bS ?_ (by simp<;>omega))
    exact HB4.o
  | true=>
  by_cases h2:tchR m p 0=3
  · have HA:Hi (wpO m p=false):=by show _=_;unfold wpO;rw[decide_eq_true h2];simp
    have HV:=Hd (wpO_no HA.o);obtain⟨r0x,r1x,r2x,r3x,r4x,r5x,r6x,r7x,r8x⟩:=cells9 HR4.o;obtain⟨z0x,z1x,z2x,z3x,z4x,z5x,z6x,z7x,z8x⟩:=free9 HR4.o;go_wp2;obtain⟨t0,t1,t2,t3,t4,t5,t6,t7,t8⟩:=cells9 (set9z HR4.o);refine bodyPost_ret (v:=.tuple #[.agg #[.slice none 0 0,.slice none 0 0,.slice none 0 0,.int .i64 0,.int .i64 0,.int .i64 0,.int .i64 0,.slice none 0 0,.int .i64 0],.bool false]) (by simp[results,Tryz.results228,go_sem,t0,t1,t2,t3,t4,t5,t6,t7,t8]) rfl ⟨_,rfl,_,_,_,_,by rw[HA.o,HV.o];rfl,by rw[HV.o];exact mam_z, ?_⟩;repeat (refine bS ?_ (by simp<;>omega))
    exact HB4.o
  have h2b:(tchR m p 0 == 3)=false:=by rw[beq_eq_false_iff_ne];exact h2
  by_cases h3:p<128
  · have HA:Hi (wpO m p=false):=by show _=_;unfold wpO;rw[decide_eq_false (show¬128≤p by omega)];simp
    have HV:=Hd (wpO_no HA.o);obtain⟨r0x,r1x,r2x,r3x,r4x,r5x,r6x,r7x,r8x⟩:=cells9 HR4.o;obtain⟨z0x,z1x,z2x,z3x,z4x,z5x,z6x,z7x,z8x⟩:=free9 HR4.o;go_wp2;obtain⟨t0,t1,t2,t3,t4,t5,t6,t7,t8⟩:=cells9 (set9z HR4.o);refine bodyPost_ret (v:=.tuple #[.agg #[.slice none 0 0,.slice none 0 0,.slice none 0 0,.int .i64 0,.int .i64 0,.int .i64 0,.int .i64 0,.slice none 0 0,.int .i64 0],.bool false]) (by simp[results,Tryz.results228,go_sem,t0,t1,t2,t3,t4,t5,t6,t7,t8]) rfl ⟨_,rfl,_,_,_,_,by rw[HA.o,HV.o];rfl,by rw[HV.o];exact mam_z, ?_⟩;repeat (refine bS ?_ (by simp<;>omega))
    exact HB4.o
  have u2:=HU4.c 2 (.slice B3 V.c.ls.length d3) rfl;have u3:=HU4.c 3 (.int .i64 V.c.hand) rfl;have HN2:=Hd h2;have HN3:=Hd h3;clear h2;go_wp2
  refine wp_region_rel1 (by kernel_rfl) [32,33,34,35,36,37,38,31,39,40,10,11] [32,33,34,35,36,37,38,31,39,40,10,10,11] (fun v=>Below w4.heap.size w4 v)
    (kds (S:=stS 29 2) (si:=11) [KD.eq (.pointer (some ⟨w1.heap.size,2,none⟩)),KD.eq (.agg #[.slice B3 V.c.ls.length d3,.int .i64 V.c.hand]),KD.eq (.pointer (some ⟨w1.heap.size,2,none⟩)),KD.eq (.agg #[.slice B3 V.c.ls.length d3,.int .i64 V.c.hand]),KD.eq (.int .i64 p),KD.eq (.int .i64 (plcI V.c.ls (-1) p)),
      KD.row lnE 50 w4.heap.size (wirV V.c (plcI V.c.ls (-1) p) true).ls (by decide) (fun v1=>.tuple #[.agg #[v1,.int .i64 (wirV V.c (plcI V.c.ls (-1) p) true).hand],.bool (wirOK V.c (plcI V.c.ls (-1) p) true)]),
      KD.row lnE 50 w4.heap.size (wirV V.c (plcI V.c.ls (-1) p) true).ls (by decide) (fun v1=>.tuple #[.agg #[v1,.int .i64 (wirV V.c (plcI V.c.ls (-1) p) true).hand],.bool (wirOK V.c (plcI V.c.ls (-1) p) true)]),
      KD.row lnE 50 w4.heap.size (wirV V.c (plcI V.c.ls (-1) p) true).ls (by decide) (fun v1=>.agg #[v1,.int .i64 (wirV V.c (plcI V.c.ls (-1) p) true).hand]),
      KD.eq (.bool (wirOK V.c (plcI V.c.ls (-1) p) true)),KD.box w4.heap.size,
      KD.boxed lnE 50 w4.heap.size (wirV V.c (plcI V.c.ls (-1) p) true).ls (fun v1=>#[v1,.int .i64 (wirV V.c (plcI V.c.ls (-1) p) true).hand]),
      KD.eq (.bool (wirOK V.c (plcI V.c.ls (-1) p) true))]) (tK (stS 29 2) 11) (by kernel_rfl) rfl (bD bR)
    (fun i j x v v' hij h ht=>kds_keep hij h ht) ?_ ?_
  · intro i o ho x v hC hd K hK
    match i,ho with
    | 0,ho=>
      cases ho;simp only[fillA,Act.put,sA9,sB9,sC9]at hK⊢;go_simp;exact hK _ _ (tK_same (stS_same _ _)) hC rfl
    | 1,ho=>
      cases ho;simp only[fillA,Act.put,sA9,sB9,sC9]at hK⊢;have d0:=hd 0 ⟨⟨0,.data⟩,by simp,rfl,rfl⟩ (by decide);change x 32=.pointer (some ⟨w1.heap.size,2,none⟩)at d0;have z2:=(HU4.o.below hC).cell_ 2 (v:=.slice B3 V.c.ls.length d3) rfl;have z3:=(HU4.o.below hC).cell_ 3 (v:=.int .i64 V.c.hand) rfl;simp only[d0]at hK⊢;go_simp;exact hK _ _ (tK_same (stS_same _ _)) hC rfl
    | 2,ho=>
      cases ho;simp only[fillA,Act.put,sA9,sB9,sC9]at hK⊢;go_simp;exact hK _ _ (tK_same (stS_same _ _)) hC rfl
    | 3,ho=>
      cases ho;simp only[fillA,Act.put,sA9,sB9,sC9]at hK⊢;have d0:=hd 2 ⟨⟨2,.data⟩,by simp,rfl,rfl⟩ (by decide);change x 34=.pointer (some ⟨w1.heap.size,2,none⟩)at d0;have z2:=(HU4.o.below hC).cell_ 2 (v:=.slice B3 V.c.ls.length d3) rfl;have z3:=(HU4.o.below hC).cell_ 3 (v:=.int .i64 V.c.hand) rfl;simp only[d0]at hK⊢;go_simp;exact hK _ _ (tK_same (stS_same _ _)) hC rfl
    | 4,ho=>
      cases ho;simp only[fillA,Act.put,sA9,sB9,sC9]at hK⊢;go_simp;exact hK _ _ (tK_same (stS_same _ _)) hC rfl
    | 5,ho=>
      cases ho;simp only[fillA,Act.put,sA9,sB9,sC9]at hK⊢;have d3:=hd 3 ⟨⟨3,.data⟩,by simp,rfl,rfl⟩ (by decide);change x 35=.agg #[.slice B3 V.c.ls.length _,.int .i64 V.c.hand]at d3;have d4:=hd 4 ⟨⟨4,.data⟩,by simp,rfl,rfl⟩ (by decide);change x 36=.int .i64 p at d4;simp only[d3,d4]at hK⊢;go_wp2_with fail
      refine(l4Find_any _ V.c (-1) p _ ((HM4.o.l.now hC).r)).mono ?_;rintro e v' ⟨rfl,hb⟩;go_simp;exact hK _ _ (tK_below (by decide) hb) (bT hC hb) rfl
    | 6,ho=>
      cases ho;simp only[fillA,Act.put,sA9,sB9,sC9]at hK⊢;have d1:=hd 1 ⟨⟨1,.data⟩,by simp,rfl,rfl⟩ (by decide);change x 33=.agg #[.slice B3 V.c.ls.length _,.int .i64 V.c.hand]at d1;have d5:=hd 5 ⟨⟨5,.data⟩,by simp,rfl,rfl⟩ (by decide);change x 37=.int .i64 (plcI V.c.ls (-1) p)at d5;simp only[d1,d5]at hK⊢;go_wp2_with fail
      refine(sWireLine_any _ V.c (plcI V.c.ls (-1) p) true _ ((HM4.o.l.now hC).r)).mono ?_;rintro e v' ⟨_,rfl,v1,rfl,hL,hb⟩;go_simp;exact hK _ _ (tK_below (by decide) hb) (bT hC hb) ⟨_,rfl,hL.mono hC.size⟩
    | 7,ho=>
      cases ho;simp only[fillA,Act.put,sA9,sB9,sC9]at hK⊢;have d6:=hd 6 ⟨⟨6,.data⟩,by simp,rfl,rfl⟩ (by decide);obtain⟨v1,d6,hL⟩:=d6;change x 38=_ at d6;simp only[d6]at hK⊢;go_simp;exact hK _ _ (tK_same (stS_same _ _)) hC ⟨_,rfl,hL⟩
    | 8,ho=>
      cases ho;simp only[fillA,Act.put,sA9,sB9,sC9]at hK⊢;have d6:=hd 7 ⟨⟨7,.data⟩,by simp,rfl,rfl⟩ (by decide);obtain⟨v1,d6,hL⟩:=d6;change x 31=_ at d6;simp only[d6]at hK⊢;go_simp;exact hK _ _ (tK_same (stS_same _ _)) hC ⟨_,rfl,hL⟩
    | 9,ho=>
      cases ho;simp only[fillA,Act.put,sA9,sB9,sC9]at hK⊢;have d6:=hd 7 ⟨⟨7,.data⟩,by simp,rfl,rfl⟩ (by decide);obtain⟨v1,d6,hL⟩:=d6;change x 31=_ at d6;simp only[d6]at hK⊢;go_simp;exact hK _ _ (tK_same (stS_same _ _)) hC rfl
    | 10,ho=>
      cases ho;simp only[fillA,Act.put,sA9,sB9,sC9]at hK⊢;go_simp;exact hK _ _ (tK_below (by decide) (bA bR)) (bA hC) ⟨_,_,rfl,hC.size,rfl,Own.new_ _ _ _⟩
    | 11,ho=>
      cases ho;simp only[fillA,Act.put,sA9,sB9,sC9]at hK⊢;have d10:=hd 10 ⟨⟨10,.data⟩,by simp,rfl,rfl⟩ (by decide);obtain⟨g,cs,d10,hg,hcs,ho⟩:=d10;have d8:=hd 8 ⟨⟨8,.data⟩,by simp,rfl,rfl⟩ (by decide);obtain⟨v1,d8,hL⟩:=d8;change x 10=_ at d10;change x 39=_ at d8;have hL':=hL;obtain⟨A9,n9,rfl,_⟩:=hL';obtain⟨cs⟩:=cs
      match cs,hcs with
      | [c0,c1],_=>
        have z0:=ho.cell_ 0 (v:=c0) rfl;have z1:=ho.cell_ 1 (v:=c1) rfl;have y0:=ho.free 0;have y1:=ho.free 1;simp only[d8,d10]at hK⊢;go_simp;have hst:=stS_trans (n:=2) (stS_set (n:=2) (i:=0) (u:=.slice A9 (wirV V.c (plcI V.c.ls (-1) p) true).ls.length n9) ho) (stS_set (n:=2) (i:=1) (u:=.int .i64 (wirV V.c (plcI V.c.ls (-1) p) true).hand) (ho.set_ 0 (.slice A9 (wirV V.c (plcI V.c.ls (-1) p) true).ls.length n9)));refine hK undef _ (tK_store hst) ?_ ⟨rfl,g,_,d10,hg,(ho.set_ 0 (.slice A9 (wirV V.c (plcI V.c.ls (-1) p) true).ls.length n9)).set_ 1 _,hL.oth hst.1 (by decide)⟩;refine bS (bS hC ?_) ?_
        · exact hg
        · exact hg
    | 12,ho=>
      cases ho;simp only[fillA,Act.put,sA9,sB9,sC9]at hK⊢;have d9:=hd 9 ⟨⟨9,.data⟩,by simp,rfl,rfl⟩ (by decide);change x 40=.bool (wirOK V.c (plcI V.c.ls (-1) p) true)at d9;simp only[d9]at hK⊢;go_simp;exact hK _ _ (tK_same (stS_same _ _)) hC rfl
    | _+13,ho=>simp at ho
  intro x w5 hC hd;obtain⟨_,gc,v1,dS,hgc,hoc,hLc⟩:=hd 11 (by decide);have dL:=hd 12 (by decide);change x 10=_ at dS;change x 11=.bool (wirOK V.c (plcI V.c.ls (-1) p) true)at dL;simp only[fillA,Act.put,sA9,sB9,sC9,dS,dL];have HM5:=Hd (HM4.o.now hC);have HU5:=Hd (HU4.o.below hC);have HR5:=Hd (HR4.o.below hC);have HB5:=Hd (bT HB4.o hC);have HL5:=Hd (hLc.mono (show w.heap.size+2≤w4.heap.size from HS4.o));obtain⟨A9,n9,rfl,_⟩:=hLc;have HC5:=Hd hoc;clear hd dS dL hoc u2 u3 hlu hlr;have hWI:wpI m p=plcI V.c.ls (-1) p:=by unfold wpI wpC;rw[HTV.o]
  have hWC:wpC m p=V.c:=by unfold wpC;rw[HTV.o]
  have h2':¬tchR m p 0=3:=HN2.o;have h3':128≤p:=by have:=HN3.o;omega
  have hWO:wpO m p=wirOK V.c (plcI V.c.ls (-1) p) true:=by unfold wpO;rw[h1,decide_eq_false h2',decide_eq_true h3',hWC,hWI];rfl
  have HWO:=Hd hWO
  cases hok:wirOK V.c (plcI V.c.ls (-1) p) true with
  | false=>
    have HA:Hi (wpO m p=false):=by show _=_;rw[HWO.o,hok]
    have HV:=Hd (wpO_no HA.o);have hlr:=HR5.o.lt;clear hWI hWC h2' h3' hWO;obtain⟨r0x,r1x,r2x,r3x,r4x,r5x,r6x,r7x,r8x⟩:=cells9 HR5.o;obtain⟨z0x,z1x,z2x,z3x,z4x,z5x,z6x,z7x,z8x⟩:=free9 HR5.o;go_wp2;obtain⟨t0,t1,t2,t3,t4,t5,t6,t7,t8⟩:=cells9 (set9z HR5.o);refine bodyPost_ret (v:=.tuple #[.agg #[.slice none 0 0,.slice none 0 0,.slice none 0 0,.int .i64 0,.int .i64 0,.int .i64 0,.int .i64 0,.slice none 0 0,.int .i64 0],.bool false]) (by simp[results,Tryz.results228,go_sem,t0,t1,t2,t3,t4,t5,t6,t7,t8]) rfl ⟨_,rfl,_,_,_,_,by rw[HA.o,HV.o];rfl,by rw[HV.o];exact mam_z, ?_⟩;repeat (refine bS ?_ (by simp<;>omega))
    exact HB5.o
  | true=>
    have HA:Hi (wpO m p=true):=by show _=_;rw[HWO.o,hok]
    have HV:Hi (wpV m p={V with c:=wirV V.c (plcI V.c.ls (-1) p) true}):=by
      show _=_;unfold wpV;rw[HA.o,if_pos rfl,HTV.o,hWC,hWI,wirOK_true hok]
    clear hWI hWC h2' h3' hWO;generalize wirV V.c (plcI V.c.ls (-1) p) true=C at*;have c0:=HC5.c 0 (.slice A9 C.ls.length n9) rfl;have c1:=HC5.c 1 (.int .i64 C.hand) rfl;have hlc:=HC5.o.lt;obtain⟨r0x,r1x,r2x,r3x,r4x,r5x,r6x,r7x,r8x⟩:=cells9 HR5.o;obtain⟨z0x,z1x,z2x,z3x,z4x,z5x,z6x,z7x,z8x⟩:=free9 HR5.o;obtain⟨p0o,p1o,p2o,p3o,p4o,p5o,p6o,p7o,p8o⟩:=cells9 HU5.o;have g2:=HU5.o.free 2;have g3:=HU5.o.free 3;have hlr:=HR5.o.lt;have hlu:=HU5.o.lt;have hrn:w.heap.size+1≠w1.heap.size:=by omega
    have hrm:w1.heap.size≠w.heap.size+1:=by omega
    have hcn:gc≠w1.heap.size:=HC5.o.ne HU5.o (by decide);have hcm:w1.heap.size≠gc:=fun h=>hcn h.symm
    go_wp2;have g1:=(HR5.o.far (p:=⟨w1.heap.size,2,none⟩) (u:=.slice A9 C.ls.length n9) hrn).far (p:=⟨w1.heap.size,3,none⟩) (u:=.int .i64 C.hand) hrn
    have hmm:MaM (w.heap.size+2) w5 (.slice B1 V.t.bs.length d1) (.slice B2 V.t.fs.length d2) (.slice A9 C.ls.length n9) (.slice B4 V.g.os.length d4) {V with c:=C}:=⟨HM5.o.t,HL5.o,HM5.o.o⟩
    have hmm2:=(hmm.farT (u:=.slice A9 C.ls.length n9) (i:=2) HU5.o).farT (u:=.int .i64 C.hand) (i:=3) (HU5.o.set_ 2 (.slice A9 C.ls.length n9));have o3:=g1.set9 (.slice B1 V.t.bs.length d1) (.slice B2 V.t.fs.length d2) (.slice A9 C.ls.length n9) (.int .i64 C.hand) (.int .i64 V.g.count) (.int .i64 V.g.next) (.int .i64 V.g.round) (.slice B4 V.g.os.length d4) (.int .i64 V.sp);obtain⟨p0t,p1t,p2t,p3t,p4t,p5t,p6t,p7t,p8t⟩:=cells9 o3;refine bodyPost_ret (v:=.tuple #[.agg #[.slice B1 V.t.bs.length d1,.slice B2 V.t.fs.length d2,.slice A9 C.ls.length n9,.int .i64 ({V with c:=C}:Ma).c.hand,.int .i64 ({V with c:=C}:Ma).g.count,.int .i64 ({V with c:=C}:Ma).g.next,.int .i64 ({V with c:=C}:Ma).g.round,.slice B4 V.g.os.length d4,.int .i64 ({V with c:=C}:Ma).sp],.bool true]) (by simp[results,Tryz.results228,go_sem,p0t,p1t,p2t,p3t,p4t,p5t,p6t,p7t,p8t]) rfl ⟨_,rfl,_,_,_,_,by(rw[HA.o,HV.o])<;>rfl, ?_, ?_⟩
    · rw[HV.o]
      exact(hmm2.far9 g1 _ _ _ _ _ _ _ _ _).mono (by omega)
    · repeat (refine bS ?_ (by simp<;>omega))
      exact HB5.o
end Go.Proofs.YtfbnokjdkhcgoaaGreatDoor
