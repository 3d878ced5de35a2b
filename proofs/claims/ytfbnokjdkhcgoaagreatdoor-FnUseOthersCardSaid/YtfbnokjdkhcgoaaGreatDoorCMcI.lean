/- A part of the proofs of this seat. -/
import Derived.Deep.RegionHeldLaw
import Derived.Test.YtfbnokjdkhcgoaaGreatDoorCMaI
set_option linter.unusedVariables false
set_option linter.unusedSimpArgs false
set_option maxRecDepth 1000000
set_option maxHeartbeats 16000000
namespace Go.Proofs.YtfbnokjdkhcgoaaGreatDoor
open Go.RowKit
theorem mclone_any(vb vf vl vo:Value)(m:Ma)(w:World)(hM:MaR w vb vf vl vo m)(h1:m.t.bs.length≤1048576)(h2:m.t.fs.length≤1048576)(h3:m.c.ls.length≤1048576)(h4:m.g.os.length≤1048576):
  Calls Tryz.prog 77 #[.agg #[vb,vf,vl,.int .i64 m.c.hand,.int .i64 m.g.count,.int .i64 m.g.next,.int .i64 m.g.round,vo,.int .i64 m.sp]] w (Post2 fun v w'=>∃v1 v2 v3 v4,v=.agg #[v1,v2,v3,.int .i64 m.c.hand,.int .i64 m.g.count,.int .i64 m.g.next,.int .i64 m.g.round,v4,.int .i64 m.sp]∧MaM w.heap.size w' v1 v2 v3 v4 m∧Below w.heap.size w w'):=by
 obtain⟨W0,hW,hbx,hbo,hb0,hs0⟩:=box2 w #[vb,vf,vl,.int .i64 m.c.hand,.int .i64 m.g.count,.int .i64 m.g.next,.int .i64 m.g.round,vo,.int .i64 m.sp] 34 #[.slice none 0 0,.slice none 0 0,.slice none 0 0,.int .i64 0,.int .i64 0,.int .i64 0,.int .i64 0,.slice none 0 0,.int .i64 0] 34;obtain⟨m0q,m1q,m2q,m3q,m4q,m5q,m6q,m7q,m8q⟩:=cells9 hbx;have HX0:=Hd hbx;have HO0:=Hd hbo;have HB0:=Hd hb0;have HM:=Hd hM;clear hbx hbo hb0 hM
 go_enter Tryz.func77,Tryz.ntmps77
 go_wp2_with fail
 refine(tclone_any vb vf m.t _ (HM.o.t.now HB0.o) h1 h2).mono ?_;rintro e w1 ⟨a1,a2,rfl,hT1,hb1⟩;obtain⟨A1,c1,rfl,hc1,hd1,hm1⟩:=hT1.b;obtain⟨A2,c2,rfl,hc2,hd2,hm2⟩:=hT1.f;have HB1:=Hd (bT HB0.o hb1);have hx1:=HX0.o.below hb1;have HO1:=Hd (HO0.o.below hb1);have hs1:w.heap.size+2≤w1.heap.size:=Nat.le_trans (Nat.le_of_eq hs0.symm) hb1.size;obtain⟨m0d,m1d,m2d,m3d,m4d,m5d,m6d,m7d,m8d⟩:=cells9 hx1;have y0:=hx1.free 0;have y1:=hx1.free 1;have y2:=hx1.free 2;have y3:=hx1.free 3;have y7:=hx1.free 7;have HX1:=Hd hx1;have HT1:=Hd (hT1.mono (B':=w.heap.size+2) (Nat.le_of_eq hs0.symm));clear hx1 hT1 hb1 m0q m1q m2q m3q m4q m5q m6q m7q m8q hm1 hm2;have hx2:=(HX1.o.set_ 0 (.slice A1 m.t.bs.length c1)).set_ 1 (.slice A2 m.t.fs.length c2);have hb2:Below w.heap.size w ((w1.setCell ⟨w.heap.size,0,none⟩ (.slice A1 m.t.bs.length c1)).setCell ⟨w.heap.size,1,none⟩ (.slice A2 m.t.fs.length c2)):=bS (bS HB1.o (by simp)) (by simp);have hT2:=(HT1.o.far (p:=⟨w.heap.size,0,none⟩) (u:=.slice A1 m.t.bs.length c1) (by show w.heap.size<w.heap.size+2;omega)).far (p:=⟨w.heap.size,1,none⟩) (u:=.slice A2 m.t.fs.length c2) (by show w.heap.size<w.heap.size+2;omega);have ho2:=(HO1.o.far (p:=⟨w.heap.size,0,none⟩) (u:=.slice A1 m.t.bs.length c1) (by simp)).far (p:=⟨w.heap.size,1,none⟩) (u:=.slice A2 m.t.fs.length c2) (by simp);have hs2:w.heap.size+2≤((w1.setCell ⟨w.heap.size,0,none⟩ (.slice A1 m.t.bs.length c1)).setCell ⟨w.heap.size,1,none⟩ (.slice A2 m.t.fs.length c2)).heap.size:=by simpa using hs1
 generalize hW2:(w1.setCell ⟨w.heap.size,0,none⟩ (.slice A1 m.t.bs.length c1)).setCell ⟨w.heap.size,1,none⟩ (.slice A2 m.t.fs.length c2)=w2 at hx2 hb2 hT2 ho2 hs2;have hx2b:Own w2 w.heap.size 34 #[.slice A1 m.t.bs.length c1,.slice A2 m.t.fs.length c2,vl,.int .i64 m.c.hand,.int .i64 m.g.count,.int .i64 m.g.next,.int .i64 m.g.round,vo,.int .i64 m.sp]:=by simpa using hx2
 have g2:=hx2b.cell_ 2 (v:=vl) rfl;have HX2:=Hd hx2b;have HB2:=Hd hb2;have HT2:=Hd hT2;have HO2:=Hd ho2;clear hx2 hx2b hb2 hT2 ho2 HX1 HT1 HO1;go_wp2_with fail
 refine(cloneLine_any vl m.c.ls _ (HM.o.l.now HB2.o) h3).mono ?_;rintro e w3 ⟨_,rfl,hL3,hb3⟩;obtain⟨A3,c3,rfl,hc3,hd3,hm3⟩:=hL3;have HB3:=Hd (bT HB2.o hb3);have HX3:=Hd (HX2.o.below hb3);have HO3:=Hd (HO2.o.below hb3);have HT3:=Hd (HT2.o.now hb3);have hs3:w.heap.size+2≤w3.heap.size:=Nat.le_trans hs2 hb3.size;have HL3:Hi (SlM lnE 50 (w.heap.size+2) w3 (.slice A3 m.c.ls.length m.c.ls.length) m.c.ls):=slm_of rfl (Nat.le_refl _) (by unfold maxLen;omega) (hm3.mono hs2);clear hb3 hm3 m0d m1d m2d m3d m4d m5d m6d m7d m8d y0 y1 y2 y3 y7;have z7:=HX3.c 7 (vo) rfl;have z2:=HX3.c 2 (vl) rfl;have f2:=HX3.o.free 2;go_wp2_with fail
 refine(clipLine_any A3 m.c.ls.length c3 _ hc3).mono ?_;rintro e _ ⟨rfl,rfl⟩;have hx4:=HX3.o.set_ 2 (.slice A3 m.c.ls.length m.c.ls.length);have hb4:Below w.heap.size w (w3.setCell ⟨w.heap.size,2,none⟩ (.slice A3 m.c.ls.length m.c.ls.length)):=bS HB3.o (by simp);have hT4:=HT3.o.far (p:=⟨w.heap.size,2,none⟩) (u:=.slice A3 m.c.ls.length m.c.ls.length) (by show w.heap.size<w.heap.size+2;omega);have hL4:=HL3.o.far (p:=⟨w.heap.size,2,none⟩) (u:=.slice A3 m.c.ls.length m.c.ls.length) (by show w.heap.size<w.heap.size+2;omega);have ho4:=HO3.o.far (p:=⟨w.heap.size,2,none⟩) (u:=.slice A3 m.c.ls.length m.c.ls.length) (by simp);have hs4:w.heap.size+2≤(w3.setCell ⟨w.heap.size,2,none⟩ (.slice A3 m.c.ls.length m.c.ls.length)).heap.size:=by simpa using hs3
 generalize hW4:w3.setCell ⟨w.heap.size,2,none⟩ (.slice A3 m.c.ls.length m.c.ls.length)=w4 at hx4 hb4 hT4 hL4 ho4 hs4;have hx4b:Own w4 w.heap.size 34 #[.slice A1 m.t.bs.length c1,.slice A2 m.t.fs.length c2,.slice A3 m.c.ls.length m.c.ls.length,.int .i64 m.c.hand,.int .i64 m.g.count,.int .i64 m.g.next,.int .i64 m.g.round,vo,.int .i64 m.sp]:=by simpa using hx4
 have HX4:=Hd hx4b;have HB4:=Hd hb4;have HT4:=Hd hT4;have HL4:=Hd hL4;have HO4:=Hd ho4;clear hx4 hx4b hb4 hT4 hL4 ho4 HX3 HT3 HO3 HL3;have v7:=HX4.c 7 (vo) rfl;go_wp2_with fail
 refine(cloneOwn_any vo m.g.os _ (HM.o.o.now HB4.o) h4).mono ?_;rintro e w5 ⟨_,rfl,hO5,hb5⟩;obtain⟨A4,c4,rfl,hc4,hd4,hm4⟩:=hO5;have HB5:=Hd (bT HB4.o hb5);have hx5:=HX4.o.below hb5;have ho5:=HO4.o.below hb5
 have HM5:Hi (MaM (w.heap.size+2) w5 (.slice A1 m.t.bs.length c1) (.slice A2 m.t.fs.length c2) (.slice A3 m.c.ls.length m.c.ls.length) (.slice A4 m.g.os.length m.g.os.length) m):=⟨HT4.o.now hb5,HL4.o.now hb5,slm_of rfl (Nat.le_refl _) (by unfold maxLen;omega) (hm4.mono hs4)⟩
 clear hb5 hm4 z7 z2 f2 v7;have u7:=hx5.cell_ 7 (v:=vo) rfl;have u0:=hx5.cell_ 0 (v:=.slice A1 m.t.bs.length c1) rfl;have u1:=hx5.cell_ 1 (v:=.slice A2 m.t.fs.length c2) rfl;have u2:=hx5.cell_ 2 (v:=.slice A3 m.c.ls.length m.c.ls.length) rfl;have u3:=hx5.cell_ 3 (v:=.int .i64 m.c.hand) rfl;have u4:=hx5.cell_ 4 (v:=.int .i64 m.g.count) rfl;have u5:=hx5.cell_ 5 (v:=.int .i64 m.g.next) rfl;have u6:=hx5.cell_ 6 (v:=.int .i64 m.g.round) rfl;have u8:=hx5.cell_ 8 (v:=.int .i64 m.sp) rfl;have f7:=hx5.free 7;obtain⟨r0x,r1x,r2x,r3x,r4x,r5x,r6x,r7x,r8x⟩:=cells9 ho5;obtain⟨z0x,z1x,z2x,z3x,z4x,z5x,z6x,z7x,z8x⟩:=free9 ho5;have HO5:=Hd ho5;clear hx5 ho5;go_wp2_with fail
 refine(clipOwn_any A4 m.g.os.length c4 _ hc4).mono ?_;rintro e _ ⟨rfl,rfl⟩;go_wp2;have o3:=(((((((((HO5.o.far (p:=⟨w.heap.size,7,none⟩) (u:=.slice A4 m.g.os.length m.g.os.length) (by simp)).set_ 0 (.slice A1 m.t.bs.length c1)).set_ 1 (.slice A2 m.t.fs.length c2)).set_ 2 (.slice A3 m.c.ls.length m.c.ls.length)).set_ 3 (.int .i64 m.c.hand)).set_ 4 (.int .i64 m.g.count)).set_ 5 (.int .i64 m.g.next)).set_ 6 (.int .i64 m.g.round)).set_ 7 (.slice A4 m.g.os.length m.g.os.length)).set_ 8 (.int .i64 m.sp);have t0:=o3.cell_ 0 (v:=.slice A1 m.t.bs.length c1) (by simp);have t1:=o3.cell_ 1 (v:=.slice A2 m.t.fs.length c2) (by simp);have t2:=o3.cell_ 2 (v:=.slice A3 m.c.ls.length m.c.ls.length) (by simp);have t3:=o3.cell_ 3 (v:=.int .i64 m.c.hand) (by simp);have t4:=o3.cell_ 4 (v:=.int .i64 m.g.count) (by simp);have t5:=o3.cell_ 5 (v:=.int .i64 m.g.next) (by simp);have t6:=o3.cell_ 6 (v:=.int .i64 m.g.round) (by simp);have t7:=o3.cell_ 7 (v:=.slice A4 m.g.os.length m.g.os.length) (by simp);have t8:=o3.cell_ 8 (v:=.int .i64 m.sp) (by simp);refine bodyPost_ret (v:=.agg #[.slice A1 m.t.bs.length c1,.slice A2 m.t.fs.length c2,.slice A3 m.c.ls.length m.c.ls.length,.int .i64 m.c.hand,.int .i64 m.g.count,.int .i64 m.g.next,.int .i64 m.g.round,.slice A4 m.g.os.length m.g.os.length,.int .i64 m.sp]) (by simp[results,Tryz.results77,go_sem,t0,t1,t2,t3,t4,t5,t6,t7,t8]) rfl ⟨_,rfl,_,_,_,_,rfl, ?_, ?_⟩
 ·refine MaM.mono (B:=w.heap.size+2) ?_ (by omega);repeat (refine MaM.far ?_ (by simp))
  exact HM5.o
 ·repeat (refine bS ?_ (by simp))
  exact HB5.o
theorem putOK_false{m:Ma}{s p fr r:Int}(h:putOK m s p fr r=false):putV m s p fr r=maz:=by unfold putV;rw[h];rfl
theorem mav_len{m:Ma}(h:mav m=true):m.t.bs.length≤1048576∧m.t.fs.length≤1048576∧m.c.ls.length≤1048576∧m.g.os.length≤1048576:=by
 obtain⟨h1,h2,h3,_⟩:=mav_parts h;have a:=(tv_parts h1).1;have b:=cav_parts h2;have c:=tgv_parts h3;have d:=tok_len c.2 c.1.2.2.1;omega
theorem PutPage_any(vb vf vl vo:Value)(m:Ma)(s p fr r:Int)(w:World)(hM:MaR w vb vf vl vo m)(hfree:Free w):
  Calls Tryz.prog 44 #[.agg #[vb,vf,vl,.int .i64 m.c.hand,.int .i64 m.g.count,.int .i64 m.g.next,.int .i64 m.g.round,vo,.int .i64 m.sp],.agg #[.int .i64 s,.int .i64 p],.int .i64 fr,.int .i64 r] w (Post2 fun v w'=>∃v1 v2 v3 v4,v=.tuple #[.agg #[v1,v2,v3,.int .i64 (putV m s p fr r).c.hand,.int .i64 (putV m s p fr r).g.count,.int .i64 (putV m s p fr r).g.next,.int .i64 (putV m s p fr r).g.round,v4,.int .i64 (putV m s p fr r).sp],.bool (putOK m s p fr r)]∧MaM w.heap.size w' v1 v2 v3 v4 (putV m s p fr r)∧Below w.heap.size w w'):=by
 obtain⟨W0,hW,hbx,hbk,hbo,hb0,hs0⟩:=box3 w #[vb,vf,vl,.int .i64 m.c.hand,.int .i64 m.g.count,.int .i64 m.g.next,.int .i64 m.g.round,vo,.int .i64 m.sp] 34 #[.int .i64 s,.int .i64 p] 54 #[.slice none 0 0,.slice none 0 0,.slice none 0 0,.int .i64 0,.int .i64 0,.int .i64 0,.int .i64 0,.slice none 0 0,.int .i64 0] 34;have HX0:=Hd hbx;have HK0:=Hd hbk;have HR0:=Hd hbo;have HB0:=Hd hb0;have HS0:Hi (w.heap.size+3≤W0.heap.size):=Nat.le_of_eq hs0.symm;clear hbx hbk hbo hb0;have HM:=Hd hM;have HF:=Hd hfree;clear hM hfree;have HMV:=Hd (fun W (h:MaR W vb vf vl vo m) (hf:Free W)=>MachineValid_any vb vf vl vo m W h hf);have HKF:=Hd (KeyFor_any s p);have x0:=xcell (HX0.c 0 (vb) rfl) HX0.o.lt;have x1:=xcell (HX0.c 1 (vf) rfl) HX0.o.lt;have x2:=xcell (HX0.c 2 (vl) rfl) HX0.o.lt;have x3:=xcell (HX0.c 3 (.int .i64 m.c.hand) rfl) HX0.o.lt;have x4:=xcell (HX0.c 4 (.int .i64 m.g.count) rfl) HX0.o.lt;have x5:=xcell (HX0.c 5 (.int .i64 m.g.next) rfl) HX0.o.lt;have x6:=xcell (HX0.c 6 (.int .i64 m.g.round) rfl) HX0.o.lt;have x7:=xcell (HX0.c 7 (vo) rfl) HX0.o.lt;have x8:=xcell (HX0.c 8 (.int .i64 m.sp) rfl) HX0.o.lt;have y0:=xcell (HK0.c 0 (.int .i64 s) rfl) HK0.o.lt;have y1:=xcell (HK0.c 1 (.int .i64 p) rfl) HK0.o.lt;have hne:=fun W=>neq_of (t:=54) (fun e w=>eqIn_key (e+1) s p (keyI s p) p w) W
 cases h1:mav m with
 | false=>
  rw[h1]at HMV;have HA:Hi (putOK m s p fr r=false):=by show _=_;unfold putOK;rw[h1];rfl
  have HV:=Hd (putOK_false HA.o)
  go_enter Tryz.func44,Tryz.ntmps44
  go_wp2;refine wp_region_ext (by kernel_rfl) (by kernel_rfl) ?_;repeat (go_big_quiet_step ((first | (go_at_call 72;exact ext_call (HMV.o _ (HM.o.now (bT HB0.o (Ext.ok _))) (HF.o.now (bT HB0.o (Ext.ok _))))) | (go_at_call 40;exact ext_call (HKF.o _)))))
  refine wpQuiet_nil ?_;intro _ hw';obtain⟨⟨wq,hq⟩,hw''⟩:=hw';subst hw'';try dsimp only
  have hb1:=hq;clear x0 x1 x2 x3 x4 x5 x6 x7 x8 y0 y1;have HX1:=Hd (HX0.o.below hb1);have HK1:=Hd (HK0.o.below hb1);have HR1:=Hd (HR0.o.below hb1);have HB1:=Hd (bT HB0.o hb1);have HS1:=Hd (Nat.le_trans HS0.o hb1.size);clear hb1;obtain⟨r0x,r1x,r2x,r3x,r4x,r5x,r6x,r7x,r8x⟩:=cells9 HR1.o;obtain⟨z0x,z1x,z2x,z3x,z4x,z5x,z6x,z7x,z8x⟩:=free9 HR1.o;go_wp2;obtain⟨t0,t1,t2,t3,t4,t5,t6,t7,t8⟩:=cells9 (set9z HR1.o);refine bodyPost_ret (v:=.tuple #[.agg #[.slice none 0 0,.slice none 0 0,.slice none 0 0,.int .i64 0,.int .i64 0,.int .i64 0,.int .i64 0,.slice none 0 0,.int .i64 0],.bool false]) (by simp[results,Tryz.results44,go_sem,t0,t1,t2,t3,t4,t5,t6,t7,t8]) rfl ⟨_,rfl,_,_,_,_,by rw[HA.o,HV.o];rfl,by rw[HV.o];exact mam_z, ?_⟩;repeat (refine bS ?_ (by simp<;>omega))
  exact HB1.o
 | true=>
  rw[h1]at HMV;by_cases h2:keyI s p=s
  case neg=>
   have HA:Hi (putOK m s p fr r=false):=by show _=_;unfold putOK;rw[decide_eq_false h2];simp
   have HV:=Hd (putOK_false HA.o);have hkq:keq s p (keyI s p) p=false:=by unfold keq;simp;exact fun h=>h2 h.symm
   rw[hkq]at hne;generalize keyI s p=ks at*
   go_enter Tryz.func44,Tryz.ntmps44
   go_wp2;refine wp_region_ext (by kernel_rfl) (by kernel_rfl) ?_;repeat (go_big_quiet_step ((first | (go_at_call 72;exact ext_call (HMV.o _ (HM.o.now (bT HB0.o (Ext.ok _))) (HF.o.now (bT HB0.o (Ext.ok _))))) | (go_at_call 40;exact ext_call (HKF.o _)))))
   refine wpQuiet_nil ?_;intro _ hw';obtain⟨⟨wq,hq⟩,hw''⟩:=hw';subst hw'';try dsimp only
   have hb1:=hq;clear x0 x1 x2 x3 x4 x5 x6 x7 x8 y0 y1;have HX1:=Hd (HX0.o.below hb1);have HK1:=Hd (HK0.o.below hb1);have HR1:=Hd (HR0.o.below hb1);have HB1:=Hd (bT HB0.o hb1);have HS1:=Hd (Nat.le_trans HS0.o hb1.size);clear hb1;obtain⟨r0x,r1x,r2x,r3x,r4x,r5x,r6x,r7x,r8x⟩:=cells9 HR1.o;obtain⟨z0x,z1x,z2x,z3x,z4x,z5x,z6x,z7x,z8x⟩:=free9 HR1.o;go_wp2;obtain⟨t0,t1,t2,t3,t4,t5,t6,t7,t8⟩:=cells9 (set9z HR1.o);refine bodyPost_ret (v:=.tuple #[.agg #[.slice none 0 0,.slice none 0 0,.slice none 0 0,.int .i64 0,.int .i64 0,.int .i64 0,.int .i64 0,.slice none 0 0,.int .i64 0],.bool false]) (by simp[results,Tryz.results44,go_sem,t0,t1,t2,t3,t4,t5,t6,t7,t8]) rfl ⟨_,rfl,_,_,_,_,by rw[HA.o,HV.o];rfl,by rw[HV.o];exact mam_z, ?_⟩;repeat (refine bS ?_ (by simp<;>omega))
   exact HB1.o
  case pos=>
   have hkq:keq s p (keyI s p) p=true:=by unfold keq;rw[h2];simp
   rw[hkq]at hne;rw[h2]at hne HKF;obtain⟨a1,a2,a3,a4⟩:=mav_len h1
   go_enter Tryz.func44,Tryz.ntmps44
   go_wp2;refine wp_region_ext (by kernel_rfl) (by kernel_rfl) ?_;repeat (go_big_quiet_step ((first | (go_at_call 72;exact ext_call (HMV.o _ (HM.o.now (bT HB0.o (Ext.ok _))) (HF.o.now (bT HB0.o (Ext.ok _))))) | (go_at_call 40;exact ext_call (HKF.o _)))))
   refine wpQuiet_nil ?_;intro _ hw';obtain⟨⟨wq,hq⟩,hw''⟩:=hw';subst hw'';try dsimp only
   have hb1:=hq;clear x0 x1 x2 x3 x4 x5 x6 x7 x8 y0 y1;have HX1:=Hd (HX0.o.below hb1);have HK1:=Hd (HK0.o.below hb1);have HR1:=Hd (HR0.o.below hb1);have HB1:=Hd (bT HB0.o hb1);have HS1:=Hd (Nat.le_trans HS0.o hb1.size);clear hb1;obtain⟨m01,m11,m21,m31,m41,m51,m61,m71,m81⟩:=cells9 HX1.o;have k01:=HK1.c 0 (.int .i64 s) rfl;have k11:=HK1.c 1 (.int .i64 p) rfl;go_wp2_with fail
   refine(MapPage_any vb vf m.t s p fr r _ (HM.o.t.now HB1.o) (HF.o.now HB1.o)).mono ?_;rintro e w2 ⟨_,rfl,v1,v2,rfl,hT2,hb2⟩;obtain⟨A1,c1,rfl,_⟩:=hT2.b;obtain⟨A2,c2,rfl,_⟩:=hT2.f;have hs1:=HS1.o;have HX2:=Hd (HX1.o.below hb2);have HK2:=Hd (HK1.o.below hb2);have HR2:=Hd (HR1.o.below hb2);have HB2:=Hd (bT HB1.o hb2);have HS2:=Hd (Nat.le_trans HS1.o hb2.size);clear hb2;clear m01 m11 m21 m31 m41 m51 m61 m71 m81;clear k01 k11;have ho5:=Own.new_ w2 26 #[.slice A1 (mapV m.t s p fr r).bs.length c1,.slice A2 (mapV m.t s p fr r).fs.length c2];have hb5:Below w2.heap.size w2 (w2.alloc (.cells #[.slice A1 (mapV m.t s p fr r).bs.length c1,.slice A2 (mapV m.t s p fr r).fs.length c2] 26)):=bA bR;generalize hW5:w2.alloc (.cells #[.slice A1 (mapV m.t s p fr r).bs.length c1,.slice A2 (mapV m.t s p fr r).fs.length c2] 26)=w5 at ho5 hb5;have HT5:=Hd ((hT2.now hb5).mono hs1);clear hT2;have HX5:=Hd (HX2.o.below hb5);have HK5:=Hd (HK2.o.below hb5);have HR5:=Hd (HR2.o.below hb5);have HB5:=Hd (bT HB2.o hb5);have HS5:=Hd (Nat.le_trans HS2.o hb5.size);clear hb5
   cases h3:mapOK m.t s p fr r with
   | false=>
    have HA:Hi (putOK m s p fr r=false):=by show _=_;unfold putOK;rw[h3];simp
    have HV:=Hd (putOK_false HA.o);clear ho5;obtain⟨r0x,r1x,r2x,r3x,r4x,r5x,r6x,r7x,r8x⟩:=cells9 HR5.o;obtain⟨z0x,z1x,z2x,z3x,z4x,z5x,z6x,z7x,z8x⟩:=free9 HR5.o;go_wp2;obtain⟨t0,t1,t2,t3,t4,t5,t6,t7,t8⟩:=cells9 (set9z HR5.o);refine bodyPost_ret (v:=.tuple #[.agg #[.slice none 0 0,.slice none 0 0,.slice none 0 0,.int .i64 0,.int .i64 0,.int .i64 0,.int .i64 0,.slice none 0 0,.int .i64 0],.bool false]) (by simp[results,Tryz.results44,go_sem,t0,t1,t2,t3,t4,t5,t6,t7,t8]) rfl ⟨_,rfl,_,_,_,_,by rw[HA.o,HV.o];rfl,by rw[HV.o];exact mam_z, ?_⟩;repeat (refine bS ?_ (by simp<;>omega))
    exact HB5.o
   | true=>
    have HA:Hi (putOK m s p fr r=true):=by show _=_;unfold putOK;rw[h1,h3,decide_eq_true h2];rfl
    have HV:Hi (putV m s p fr r={m with t:=mapV m.t s p fr r}):=by show _=_;unfold putV;rw[HA.o];rfl
    obtain⟨m05,m15,m25,m35,m45,m55,m65,m75,m85⟩:=cells9 HX5.o;go_wp2_with fail
    refine(mclone_any vb vf vl vo m _ (HM.o.now HB5.o) a1 a2 a3 a4).mono ?_;rintro e w3 ⟨_,rfl,q1,q2,q3,q4,rfl,hM3,hb3⟩;have hs2:=HS5.o;have HT3:=Hd (HT5.o.now hb3);have HM3:=Hd (hM3.mono hs2);have ho3:=ho5.below hb3;have u0:=ho3.cell_ 0 (v:=.slice A1 (mapV m.t s p fr r).bs.length c1) rfl;have u1:=ho3.cell_ 1 (v:=.slice A2 (mapV m.t s p fr r).fs.length c2) rfl;have hl5:=ho3.lt;obtain⟨B1,d1,rfl,_⟩:=HM3.o.t.b;obtain⟨B2,d2,rfl,_⟩:=HM3.o.t.f;obtain⟨B3,d3,rfl,_⟩:=HM3.o.l;obtain⟨B4,d4,rfl,_⟩:=HM3.o.o;clear hM3 ho3 ho5;have HX3:=Hd (HX5.o.below hb3);have HK3:=Hd (HK5.o.below hb3);have HR3:=Hd (HR5.o.below hb3);have HB3:=Hd (bT HB5.o hb3);have HS3:=Hd (Nat.le_trans HS5.o hb3.size);clear hb3;clear m05 m15 m25 m35 m45 m55 m65 m75 m85;obtain⟨r0x,r1x,r2x,r3x,r4x,r5x,r6x,r7x,r8x⟩:=cells9 HR3.o;obtain⟨z0x,z1x,z2x,z3x,z4x,z5x,z6x,z7x,z8x⟩:=free9 HR3.o;have hl3:=HR3.o.lt;go_wp2
    have o3:=(((((((((HR3.o.set_ 0 (.slice A1 (mapV m.t s p fr r).bs.length c1)).set_ 1 (.slice A2 (mapV m.t s p fr r).fs.length c2)).set_ 2 (.slice B3 m.c.ls.length d3)).set_ 3 (.int .i64 m.c.hand)).set_ 4 (.int .i64 m.g.count)).set_ 5 (.int .i64 m.g.next)).set_ 6 (.int .i64 m.g.round)).set_ 7 (.slice B4 m.g.os.length d4)).set_ 8 (.int .i64 m.sp))
    have o4:=o3.alloc (o:=.cells #[.slice A1 (mapV m.t s p fr r).bs.length c1,.slice A2 (mapV m.t s p fr r).fs.length c2,.slice B3 m.c.ls.length d3,.int .i64 m.c.hand,.int .i64 m.g.count,.int .i64 m.g.next,.int .i64 m.g.round,.slice B4 m.g.os.length d4,.int .i64 m.sp] 34);have v0:=o4.cell_ 0 (v:=.slice A1 (mapV m.t s p fr r).bs.length c1) (by simp);have v1:=o4.cell_ 1 (v:=.slice A2 (mapV m.t s p fr r).fs.length c2) (by simp);have v2:=o4.cell_ 2 (v:=.slice B3 m.c.ls.length d3) (by simp);have v3:=o4.cell_ 3 (v:=.int .i64 m.c.hand) (by simp);have v4:=o4.cell_ 4 (v:=.int .i64 m.g.count) (by simp);have v5:=o4.cell_ 5 (v:=.int .i64 m.g.next) (by simp);have v6:=o4.cell_ 6 (v:=.int .i64 m.g.round) (by simp);have v7:=o4.cell_ 7 (v:=.slice B4 m.g.os.length d4) (by simp);have v8:=o4.cell_ 8 (v:=.int .i64 m.sp) (by simp);refine bodyPost_ret (v:=.tuple #[.agg #[.slice A1 (mapV m.t s p fr r).bs.length c1,.slice A2 (mapV m.t s p fr r).fs.length c2,.slice B3 m.c.ls.length d3,.int .i64 m.c.hand,.int .i64 m.g.count,.int .i64 m.g.next,.int .i64 m.g.round,.slice B4 m.g.os.length d4,.int .i64 m.sp],.bool true]) (by simp[results,Tryz.results44,go_sem,v0,v1,v2,v3,v4,v5,v6,v7,v8]) rfl ⟨_,rfl,_,_,_,_,by rw[HA.o,HV.o], ?_, ?_⟩
    ·rw[HV.o]
     have hmm:MaM (w.heap.size+3) w3 (.slice A1 (mapV m.t s p fr r).bs.length c1) (.slice A2 (mapV m.t s p fr r).fs.length c2) (.slice B3 m.c.ls.length d3) (.slice B4 m.g.os.length d4) {m with t:=mapV m.t s p fr r}:=⟨HT3.o,HM3.o.l,HM3.o.o⟩
     refine MaM.mono (B:=w.heap.size+3) (MaM.now ?_ (bA bR)) (by omega);repeat (refine MaM.far ?_ (by show w.heap.size+1+1<w.heap.size+3;omega))
     exact hmm
    ·refine bA ?_;repeat (refine bS ?_ (by simp<;>omega))
     exact HB3.o
theorem sMachineValid_any(vb vf vl vo:Value)(m:Ma)(w:World)(hM:MaR w vb vf vl vo m):
  Calls Tryz.prog 73 #[.agg #[vb,vf,vl,.int .i64 m.c.hand,.int .i64 m.g.count,.int .i64 m.g.next,.int .i64 m.g.round,vo,.int .i64 m.sp]] w fun r w'=>r=.returned (.bool (mav m))∧Below w.heap.size w w':=by
 have HM:=Hd hM;obtain⟨W0,hW,hbx,hbz,_⟩:=box1 w #[vb,vf,vl,.int .i64 m.c.hand,.int .i64 m.g.count,.int .i64 m.g.next,.int .i64 m.g.round,vo,.int .i64 m.sp] 34;have HX0:=Hd hbx;have HB0:=Hd hbz;clear hbx hbz;clear hM;obtain⟨m00,m10,m20,m30,m40,m50,m60,m70,m80⟩:=cells9 HX0.o
 go_enter Tryz.func73,Tryz.ntmps73
 go_wp2_with fail
 refine(sTableValid_any vb vf m.t _ (HM.o.t.now HB0.o)).mono ?_;rintro e w1 ⟨rfl,hb1⟩;have HX1:=Hd (HX0.o.below hb1);have HB1:=Hd (bT HB0.o hb1);clear hb1;clear m00 m10 m20 m30 m40 m50 m60 m70 m80;obtain⟨m01,m11,m21,m31,m41,m51,m61,m71,m81⟩:=cells9 HX1.o
 cases h1:tv m.t with
 | false=>
  have HE:Hi (mav m=false):=mav_no fun h=>by have:=(mav_parts h).1;rw[h1]at this;cases this
  go_wp2;go_ret;exact⟨by rw[HE.o];rfl,HB1.o⟩
 | true=>
 go_wp2_with fail
 refine(sCacheValid_any vl m.c _ (HM.o.l.now HB1.o)).mono ?_;rintro e w2 ⟨rfl,hb2⟩;have HX2:=Hd (HX1.o.below hb2);have HB2:=Hd (bT HB1.o hb2);clear hb2;clear m01 m11 m21 m31 m41 m51 m61 m71 m81;obtain⟨m02,m12,m22,m32,m42,m52,m62,m72,m82⟩:=cells9 HX2.o
 cases h2:cav m.c with
 | false=>
  have HE:Hi (mav m=false):=mav_no fun h=>by have:=(mav_parts h).2.1;rw[h2]at this;cases this
  go_wp2;go_ret;exact⟨by rw[HE.o];rfl,HB2.o⟩
 | true=>
 go_wp2_with fail
 refine(sTagsValid_any vo m.g _ (HM.o.o.now HB2.o)).mono ?_;rintro e w3 ⟨rfl,hb3⟩;have HX3:=Hd (HX2.o.below hb3);have HB3:=Hd (bT HB2.o hb3);clear hb3;clear m02 m12 m22 m32 m42 m52 m62 m72 m82;obtain⟨m03,m13,m23,m33,m43,m53,m63,m73,m83⟩:=cells9 HX3.o
 cases h3:tgv m.g with
 | false=>
  have HE:Hi (mav m=false):=mav_no fun h=>by have:=(mav_parts h).2.2.1;rw[h3]at this;cases this
  go_wp2;go_ret;exact⟨by rw[HE.o];rfl,HB3.o⟩
 | true=>
 go_wp2_with fail
 refine(l5Find_any vo m.g m.sp _ (HM.o.o.now HB3.o)).mono ?_;rintro e w4 ⟨rfl,hb4⟩;have HX4:=Hd (HX3.o.below hb4);have HB4:=Hd (bT HB3.o hb4);clear hb4;clear m03 m13 m23 m33 m43 m53 m63 m73 m83;obtain⟨m04,m14,m24,m34,m44,m54,m64,m74,m84⟩:=cells9 HX4.o;by_cases h4:ownI m.g.os m.sp<0
 ·have HE:Hi (mav m=false):=mav_no fun h=>by have:=(mav_parts h).2.2.2.1;omega
  go_wp2;go_ret;exact⟨by rw[HE.o];rfl,HB4.o⟩
 obtain⟨Af,cf,rfl,hfc,hfm,hF⟩:=HM.o.t.f;have hfl:m.t.fs.length≤16:=(tv_parts h1).1.2.1;have HFS:=Hd hF;clear hF;go_wp2;clear m04 m14 m24 m34 m44 m54 m64 m74 m84;go_loopw [3] (fun u wr=>∃k:Nat,k≤m.t.fs.length∧u=.int .i64 k∧Hi (All_ frM m.t.fs k)∧Below w4.heap.size w4 wr) (fun u _=>m.t.fs.length-(intOf u).toNat)
 case atStart=>exact⟨0,by omega,rfl,all_zero,bR⟩
 case round=>
  obtain⟨k,hk,rfl,hall,hb5⟩:=hrel;have hm1:=(HX4.o.below hb5).cell_ 1 (v:=.slice Af m.t.fs.length cf) rfl;have hwl:=(HX4.o.below hb5).lt;by_cases hlt:k<m.t.fs.length
  ·obtain⟨f,ef⟩:∃f,m.t.fs[k]?=some f:=⟨_,List.getElem?_eq_getElem hlt⟩
   obtain⟨b,o,rfl,hbb,d0,d1,d2,d3,d4⟩:=(HFS.o.below (bT HB4.o hb5)).fr ef;have EF:=Hd ef;clear ef
   cases hu:f.used with
   | false=>
    rw[hu]at d0;have HA:=Hd (all_step hall.o EF.o (by unfold frM;rw[hu];rfl));go_wp2;go_roundw;case rel=>exact⟨k+1,by omega,by go_num,HA,bA hb5⟩
    case measure=>simp[intOf];omega
   | true=>
   rw[hu]at d0;by_cases hp:128≤f.p
   case neg=>
    have HA:=Hd (all_step hall.o EF.o (by unfold frM;rw[decide_eq_false hp];simp));go_wp2;go_roundw;case rel=>exact⟨k+1,by omega,by go_num,HA,bA hb5⟩
    case measure=>simp[intOf];omega
   case pos=>
   by_cases hs:f.s=0
   case pos=>
    have HA:=Hd (all_step hall.o EF.o (by unfold frM;rw[decide_eq_true hs];simp));go_wp2;go_roundw;case rel=>exact⟨k+1,by omega,by go_num,HA,bA hb5⟩
    case measure=>simp[intOf];omega
   case neg=>
    have HE:Hi (mav m=false):=mav_fr EF.o (by unfold frM;rw[hu,decide_eq_true hp,decide_eq_false hs];rfl);go_wp2;go_ret;exact⟨by rw[HE.o];rfl,bA (bT HB4.o hb5)⟩
  ·obtain rfl:k=m.t.fs.length:=by omega
   have HFA:=Hd (all_end hall.o);clear hall;obtain⟨Al,cl,rfl,hlc,hlm,hL⟩:=HM.o.l;have hll:m.c.ls.length≤8:=(cav_parts h2).2.1;have HLS:=Hd hL;have HX5:=Hd (HX4.o.below hb5);have HB5:=Hd (bT HB4.o hb5);clear hL hb5;go_wp2;clear hm1 hwl
   obtain⟨w5,rfl⟩:∃w5,w5=wr:=⟨_,rfl⟩
   go_loopw [5] (fun u wi=>∃k:Nat,k≤m.c.ls.length∧u=.int .i64 k∧Hi (All_ (lnM m) m.c.ls k)∧Below w5.heap.size w5 wi) (fun u _=>m.c.ls.length-(intOf u).toNat)
   case atStart=>exact⟨0,by omega,rfl,all_zero,bR⟩
   case round=>
    obtain⟨k,hk,rfl,hall,hb6⟩:=hrel;have HX6:=Hd (HX5.o.below hb6);have hm2:=HX6.c 2 (.slice Al m.c.ls.length cl) rfl;by_cases hlt:k<m.c.ls.length
    ·obtain⟨x,ex⟩:∃x,m.c.ls[k]?=some x:=⟨_,List.getElem?_eq_getElem hlt⟩
     obtain⟨x',ex',hok,_⟩:=lok_at (cav_parts h2).2.2.2.1 hlt;rw[ex]at ex';injection ex' with ex';subst ex';obtain⟨xv,xt,xp,xf,xr,xw⟩:=x;obtain⟨b,o,rfl,hbb,d0,d1,d2,d3,d4,d5⟩:=(HLS.o.below (bT HB5.o hb6)).ln ex;have EX:=Hd ex;have hbl:b<wr.heap.size:=by have:=(bT HB5.o hb6).size;omega
     have y0:=xcell d0 (by show b<_;exact hbl);have y1:=xcell d1 (by show b<_;exact hbl);have y2:=xcell d2 (by show b<_;exact hbl);have y3:=xcell d3 (by show b<_;exact hbl);have y4:=xcell d4 (by show b<_;exact hbl);have y5:=xcell d5 (by show b<_;exact hbl);have n0:=xcell (HX6.c 0 (vb) rfl) HX6.o.lt;have n1:=xcell (HX6.c 1 (.slice Af m.t.fs.length cf) rfl) HX6.o.lt;have n2:=xcell (HX6.c 2 (.slice (some ⟨b,o,none⟩) m.c.ls.length cl) rfl) HX6.o.lt;have n3:=xcell (HX6.c 3 (.int .i64 m.c.hand) rfl) HX6.o.lt;have n4:=xcell (HX6.c 4 (.int .i64 m.g.count) rfl) HX6.o.lt;have n5:=xcell (HX6.c 5 (.int .i64 m.g.next) rfl) HX6.o.lt;have n6:=xcell (HX6.c 6 (.int .i64 m.g.round) rfl) HX6.o.lt;have n7:=xcell (HX6.c 7 (vo) rfl) HX6.o.lt;have n8:=xcell (HX6.c 8 (.int .i64 m.sp) rfl) HX6.o.lt;have HM6:=Hd (HM.o.now (bT HB5.o hb6));clear ex d0 d1 d2 d3 d4 d5
     cases xv with
     | false=>
      have HA:=Hd (all_step hall.o EX.o (lnM_inv rfl));go_wp2;refine wp_region_ext (by kernel_rfl) (by kernel_rfl) ?_;repeat (go_big_quiet_step (fail))
      refine wpQuiet_nil ?_;intro _ hw';obtain⟨⟨wq,hq⟩,hw''⟩:=hw';subst hw'';try dsimp only
      go_wp2;go_roundw;case rel=>exact⟨k+1,by omega,by go_num,HA,bT hb6 hq⟩
      case measure=>simp[intOf];omega
     | true=>
      have hp256:inR xp 256=true:=by
       unfold lnok at hok;simp only[if_true,Bool.and_eq_true]at hok;exact hok.1.1.2
      have HLN:=Hd (fun W (h:MaR W vb (.slice Af m.t.fs.length cf) (.slice (some ⟨b,o,none⟩) m.c.ls.length cl) vo m)=>l6Line_any vb (.slice Af m.t.fs.length cf) (.slice (some ⟨b,o,none⟩) m.c.ls.length cl) vo m xt xp xf xr xw W h h1 h3 hp256);clear hok hp256
      cases hln:lnM m ⟨true,xt,xp,xf,xr,xw⟩with
      | true=>
       have HA:=Hd (all_step hall.o EX.o hln);rw[hln]at HLN;clear hln;go_wp2;refine wp_region_ext (by kernel_rfl) (by kernel_rfl) ?_;repeat (go_big_quiet_step ((go_at_call 134;exact ext_call (HLN.o _ (HM6.o.now (Ext.ok _))))))
       refine wpQuiet_nil ?_;intro _ hw';obtain⟨⟨wq,hq⟩,hw''⟩:=hw';subst hw'';try dsimp only
       go_wp2;go_roundw;case rel=>exact⟨k+1,by omega,by go_num,HA,bT hb6 hq⟩
       case measure=>simp[intOf];omega
      | false=>
       have HE:Hi (mav m=false):=mav_ln EX.o hln;rw[hln]at HLN;clear hln;go_wp2;refine wp_region_ext (by kernel_rfl) (by kernel_rfl) ?_;repeat (go_big_quiet_step ((go_at_call 134;exact ext_call (HLN.o _ (HM6.o.now (Ext.ok _))))))
       refine wpQuiet_nil ?_;intro _ hw';obtain⟨⟨wq,hq⟩,hw''⟩:=hw';subst hw'';try dsimp only
       go_wp2;go_ret;exact⟨by rw[HE.o];rfl,bT HB5.o (bT hb6 hq)⟩
    ·obtain rfl:k=m.c.ls.length:=by omega
     have HLA:=Hd (all_end hall.o);have HE:Hi (mav m=true):=mav_end h1 h2 h3 h4 HFA.o HLA.o;go_wp2;go_ret;exact⟨by rw[HE.o];rfl,bT HB5.o hb6⟩
theorem l6Shared_any(s p:Int)(w:World):Calls Tryz.prog 163 #[.agg #[.int .i64 s,.int .i64 p]] w fun r w'=>r=.returned (.bool (kval (s,p) && decide (keyI s p=s)))∧Below w.heap.size w w':=by
 have hbx:=Own.new_ w 54 #[.int .i64 s,.int .i64 p];have hb0:Below w.heap.size w (w.alloc (.cells #[.int .i64 s,.int .i64 p] 54)):=bA bR;generalize hW:w.alloc (.cells #[.int .i64 s,.int .i64 p] 54)=W0 at hbx hb0;have y0:=xcell (hbx.cell_ 0 (v:=.int .i64 s) rfl) hbx.lt;have y1:=xcell (hbx.cell_ 1 (v:=.int .i64 p) rfl) hbx.lt;have HKV:=Hd (sKeyValid_any s p);have HKF:=Hd (sKeyFor_any s p);have he:=fun W=>eql_key (keyI s p) p s p W
 clear hbx
 cases h1:kval (s,p)with
 | false=>
  rw[h1]at HKV
  go_enter Tryz.func163,Tryz.ntmps163
  go_wp2;refine wp_region_ext (by kernel_rfl) (by kernel_rfl) ?_;repeat (go_big_quiet_step ((go_at_call 212;exact ext_call (HKV.o _))))
  refine wpQuiet_nil ?_;intro _ hw';obtain⟨⟨wq,hq⟩,hw''⟩:=hw';subst hw'';try dsimp only
  go_wp2;go_ret;exact⟨rfl,bT hb0 hq⟩
 | true=>
  rw[h1]at HKV;by_cases h2:keyI s p=s
  ·have hkq:keq (keyI s p) p s p=true:=by unfold keq;rw[h2];simp
   rw[hkq]at he;have HD:Hi (decide (keyI s p=s)=true):=decide_eq_true h2;generalize hk:keyI s p=ks at*
   go_enter Tryz.func163,Tryz.ntmps163
   go_wp2;refine wp_region_ext (by kernel_rfl) (by kernel_rfl) ?_;repeat (go_big_quiet_step ((first | (go_at_call 212;exact ext_call (HKV.o _)) | (go_at_call 52;exact ext_call (HKF.o _)))))
   refine wpQuiet_nil ?_;intro _ hw';obtain⟨⟨wq,hq⟩,hw''⟩:=hw';subst hw'';try dsimp only
   go_wp2;go_ret;exact⟨by rw[HD.o];rfl,bT hb0 hq⟩
  ·have hkq:keq (keyI s p) p s p=false:=by unfold keq;simp[h2]
   rw[hkq]at he;have HD:Hi (decide (keyI s p=s)=false):=decide_eq_false h2;generalize hk:keyI s p=ks at*
   go_enter Tryz.func163,Tryz.ntmps163
   go_wp2;refine wp_region_ext (by kernel_rfl) (by kernel_rfl) ?_;repeat (go_big_quiet_step ((first | (go_at_call 212;exact ext_call (HKV.o _)) | (go_at_call 52;exact ext_call (HKF.o _)))))
   refine wpQuiet_nil ?_;intro _ hw';obtain⟨⟨wq,hq⟩,hw''⟩:=hw';subst hw'';try dsimp only
   go_wp2;go_ret;exact⟨by rw[HD.o];rfl,bT hb0 hq⟩
theorem sPutPage_any(vb vf vl vo:Value)(m:Ma)(s p fr r:Int)(w:World)(hM:MaR w vb vf vl vo m):
  Calls Tryz.prog 97 #[.agg #[vb,vf,vl,.int .i64 m.c.hand,.int .i64 m.g.count,.int .i64 m.g.next,.int .i64 m.g.round,vo,.int .i64 m.sp],.agg #[.int .i64 s,.int .i64 p],.int .i64 fr,.int .i64 r] w (Post2 fun v w'=>∃v1 v2 v3 v4,v=.tuple #[.agg #[v1,v2,v3,.int .i64 (putV m s p fr r).c.hand,.int .i64 (putV m s p fr r).g.count,.int .i64 (putV m s p fr r).g.next,.int .i64 (putV m s p fr r).g.round,v4,.int .i64 (putV m s p fr r).sp],.bool (putOK m s p fr r)]∧MaM w.heap.size w' v1 v2 v3 v4 (putV m s p fr r)∧Below w.heap.size w w'):=by
 obtain⟨W0,hW,hbx,hbk,hbo,hb0,hs0⟩:=box3 w #[vb,vf,vl,.int .i64 m.c.hand,.int .i64 m.g.count,.int .i64 m.g.next,.int .i64 m.g.round,vo,.int .i64 m.sp] 34 #[.int .i64 s,.int .i64 p] 54 #[.slice none 0 0,.slice none 0 0,.slice none 0 0,.int .i64 0,.int .i64 0,.int .i64 0,.int .i64 0,.slice none 0 0,.int .i64 0] 34;have HX0:=Hd hbx;have HK0:=Hd hbk;have HR0:=Hd hbo;have HB0:=Hd hb0;have HS0:Hi (w.heap.size+3≤W0.heap.size):=Nat.le_of_eq hs0.symm;clear hbx hbk hbo hb0;have HM:=Hd hM;clear hM;obtain⟨m00,m10,m20,m30,m40,m50,m60,m70,m80⟩:=cells9 HX0.o
 go_enter Tryz.func97,Tryz.ntmps97
 go_wp2_with fail
 refine(sMachineValid_any vb vf vl vo m _ (HM.o.now HB0.o)).mono ?_;rintro e w7 ⟨rfl,hb7⟩;have HX7:=Hd (HX0.o.below hb7);have HK7:=Hd (HK0.o.below hb7);have HR7:=Hd (HR0.o.below hb7);have HB7:=Hd (bT HB0.o hb7);have HS7:=Hd (Nat.le_trans HS0.o hb7.size);clear hb7;clear m00 m10 m20 m30 m40 m50 m60 m70 m80
 cases h1:mav m with
 | false=>
  have HA:Hi (putOK m s p fr r=false):=by show _=_;unfold putOK;rw[h1];rfl
  have HV:=Hd (putOK_false HA.o);obtain⟨r0x,r1x,r2x,r3x,r4x,r5x,r6x,r7x,r8x⟩:=cells9 HR7.o;obtain⟨z0x,z1x,z2x,z3x,z4x,z5x,z6x,z7x,z8x⟩:=free9 HR7.o;go_wp2;obtain⟨t0,t1,t2,t3,t4,t5,t6,t7,t8⟩:=cells9 (set9z HR7.o);refine bodyPost_ret (v:=.tuple #[.agg #[.slice none 0 0,.slice none 0 0,.slice none 0 0,.int .i64 0,.int .i64 0,.int .i64 0,.int .i64 0,.slice none 0 0,.int .i64 0],.bool false]) (by simp[results,Tryz.results97,go_sem,t0,t1,t2,t3,t4,t5,t6,t7,t8]) rfl ⟨_,rfl,_,_,_,_,by rw[HA.o,HV.o];rfl,by rw[HV.o];exact mam_z, ?_⟩;repeat (refine bS ?_ (by simp<;>omega))
  exact HB7.o
 | true=>
  have k07:=HK7.c 0 (.int .i64 s) rfl;have k17:=HK7.c 1 (.int .i64 p) rfl;go_wp2_with fail
  refine(l6Shared_any s p _).mono ?_;rintro e w1 ⟨rfl,hb1⟩;have HX1:=Hd (HX7.o.below hb1);have HK1:=Hd (HK7.o.below hb1);have HR1:=Hd (HR7.o.below hb1);have HB1:=Hd (bT HB7.o hb1);have HS1:=Hd (Nat.le_trans HS7.o hb1.size);clear hb1;clear k07 k17
  cases h2:(kval (s,p) && decide (keyI s p=s))with
  | false=>
   have HA:Hi (putOK m s p fr r=false):=by
    show _=_;unfold putOK mapOK;rw[Bool.and_eq_false_iff]at h2;rcases h2 with h2 | h2
    ·rw[h2];simp
    ·rw[h2];simp
   have HV:=Hd (putOK_false HA.o);obtain⟨r0x,r1x,r2x,r3x,r4x,r5x,r6x,r7x,r8x⟩:=cells9 HR1.o;obtain⟨z0x,z1x,z2x,z3x,z4x,z5x,z6x,z7x,z8x⟩:=free9 HR1.o;go_wp2;obtain⟨t0,t1,t2,t3,t4,t5,t6,t7,t8⟩:=cells9 (set9z HR1.o);refine bodyPost_ret (v:=.tuple #[.agg #[.slice none 0 0,.slice none 0 0,.slice none 0 0,.int .i64 0,.int .i64 0,.int .i64 0,.int .i64 0,.slice none 0 0,.int .i64 0],.bool false]) (by simp[results,Tryz.results97,go_sem,t0,t1,t2,t3,t4,t5,t6,t7,t8]) rfl ⟨_,rfl,_,_,_,_,by rw[HA.o,HV.o];rfl,by rw[HV.o];exact mam_z, ?_⟩;repeat (refine bS ?_ (by simp<;>omega))
   exact HB1.o
  | true=>
   rw[Bool.and_eq_true,decide_eq_true_eq]at h2;replace h2:=h2.2;obtain⟨a1,a2,a3,a4⟩:=mav_len h1;obtain⟨m01,m11,m21,m31,m41,m51,m61,m71,m81⟩:=cells9 HX1.o;have k01:=HK1.c 0 (.int .i64 s) rfl;have k11:=HK1.c 1 (.int .i64 p) rfl;go_wp2_with fail
   refine(sMapPage_any vb vf m.t s p fr r _ (HM.o.t.now HB1.o)).mono ?_;rintro e w2 ⟨_,rfl,v1,v2,rfl,hT2,hb2⟩;obtain⟨A1,c1,rfl,_⟩:=hT2.b;obtain⟨A2,c2,rfl,_⟩:=hT2.f;have hs1:=HS1.o;have HX2:=Hd (HX1.o.below hb2);have HK2:=Hd (HK1.o.below hb2);have HR2:=Hd (HR1.o.below hb2);have HB2:=Hd (bT HB1.o hb2);have HS2:=Hd (Nat.le_trans HS1.o hb2.size);clear hb2;clear m01 m11 m21 m31 m41 m51 m61 m71 m81;clear k01 k11;have ho5:=Own.new_ w2 26 #[.slice A1 (mapV m.t s p fr r).bs.length c1,.slice A2 (mapV m.t s p fr r).fs.length c2];have hb5:Below w2.heap.size w2 (w2.alloc (.cells #[.slice A1 (mapV m.t s p fr r).bs.length c1,.slice A2 (mapV m.t s p fr r).fs.length c2] 26)):=bA bR;generalize hW5:w2.alloc (.cells #[.slice A1 (mapV m.t s p fr r).bs.length c1,.slice A2 (mapV m.t s p fr r).fs.length c2] 26)=w5 at ho5 hb5;have HT5:=Hd ((hT2.now hb5).mono hs1);clear hT2;have HX5:=Hd (HX2.o.below hb5);have HK5:=Hd (HK2.o.below hb5);have HR5:=Hd (HR2.o.below hb5);have HB5:=Hd (bT HB2.o hb5);have HS5:=Hd (Nat.le_trans HS2.o hb5.size);clear hb5
   cases h3:mapOK m.t s p fr r with
   | false=>
    have HA:Hi (putOK m s p fr r=false):=by show _=_;unfold putOK;rw[h3];simp
    have HV:=Hd (putOK_false HA.o);clear ho5;obtain⟨r0x,r1x,r2x,r3x,r4x,r5x,r6x,r7x,r8x⟩:=cells9 HR5.o;obtain⟨z0x,z1x,z2x,z3x,z4x,z5x,z6x,z7x,z8x⟩:=free9 HR5.o;go_wp2;obtain⟨t0,t1,t2,t3,t4,t5,t6,t7,t8⟩:=cells9 (set9z HR5.o);refine bodyPost_ret (v:=.tuple #[.agg #[.slice none 0 0,.slice none 0 0,.slice none 0 0,.int .i64 0,.int .i64 0,.int .i64 0,.int .i64 0,.slice none 0 0,.int .i64 0],.bool false]) (by simp[results,Tryz.results97,go_sem,t0,t1,t2,t3,t4,t5,t6,t7,t8]) rfl ⟨_,rfl,_,_,_,_,by rw[HA.o,HV.o];rfl,by rw[HV.o];exact mam_z, ?_⟩;repeat (refine bS ?_ (by simp<;>omega))
    exact HB5.o
   | true=>
    have HA:Hi (putOK m s p fr r=true):=by show _=_;unfold putOK;rw[h1,h3,decide_eq_true h2];rfl
    have HV:Hi (putV m s p fr r={m with t:=mapV m.t s p fr r}):=by show _=_;unfold putV;rw[HA.o];rfl
    obtain⟨m05,m15,m25,m35,m45,m55,m65,m75,m85⟩:=cells9 HX5.o;go_wp2_with fail
    refine(l6Copy_any vb vf vl vo m _ (HM.o.now HB5.o) a1 a2 a3 a4).mono ?_;rintro e w3 ⟨_,rfl,q1,q2,q3,q4,rfl,hM3,hb3⟩;have hs2:=HS5.o;have HT3:=Hd (HT5.o.now hb3);have HM3:=Hd (hM3.mono hs2);have ho3:=ho5.below hb3;have u0:=ho3.cell_ 0 (v:=.slice A1 (mapV m.t s p fr r).bs.length c1) rfl;have u1:=ho3.cell_ 1 (v:=.slice A2 (mapV m.t s p fr r).fs.length c2) rfl;have hl5:=ho3.lt;obtain⟨B1,d1,rfl,_⟩:=HM3.o.t.b;obtain⟨B2,d2,rfl,_⟩:=HM3.o.t.f;obtain⟨B3,d3,rfl,_⟩:=HM3.o.l;obtain⟨B4,d4,rfl,_⟩:=HM3.o.o;clear hM3 ho3 ho5;have HX3:=Hd (HX5.o.below hb3);have HK3:=Hd (HK5.o.below hb3);have HR3:=Hd (HR5.o.below hb3);have HB3:=Hd (bT HB5.o hb3);have HS3:=Hd (Nat.le_trans HS5.o hb3.size);clear hb3;clear m05 m15 m25 m35 m45 m55 m65 m75 m85;obtain⟨r0x,r1x,r2x,r3x,r4x,r5x,r6x,r7x,r8x⟩:=cells9 HR3.o;obtain⟨z0x,z1x,z2x,z3x,z4x,z5x,z6x,z7x,z8x⟩:=free9 HR3.o;have hl3:=HR3.o.lt;go_wp2
    have o3:=(((((((((HR3.o.set_ 0 (.slice A1 (mapV m.t s p fr r).bs.length c1)).set_ 1 (.slice A2 (mapV m.t s p fr r).fs.length c2)).set_ 2 (.slice B3 m.c.ls.length d3)).set_ 3 (.int .i64 m.c.hand)).set_ 4 (.int .i64 m.g.count)).set_ 5 (.int .i64 m.g.next)).set_ 6 (.int .i64 m.g.round)).set_ 7 (.slice B4 m.g.os.length d4)).set_ 8 (.int .i64 m.sp))
    have o4:=o3.alloc (o:=.cells #[.slice A1 (mapV m.t s p fr r).bs.length c1,.slice A2 (mapV m.t s p fr r).fs.length c2,.slice B3 m.c.ls.length d3,.int .i64 m.c.hand,.int .i64 m.g.count,.int .i64 m.g.next,.int .i64 m.g.round,.slice B4 m.g.os.length d4,.int .i64 m.sp] 34);have v0:=o4.cell_ 0 (v:=.slice A1 (mapV m.t s p fr r).bs.length c1) (by simp);have v1:=o4.cell_ 1 (v:=.slice A2 (mapV m.t s p fr r).fs.length c2) (by simp);have v2:=o4.cell_ 2 (v:=.slice B3 m.c.ls.length d3) (by simp);have v3:=o4.cell_ 3 (v:=.int .i64 m.c.hand) (by simp);have v4:=o4.cell_ 4 (v:=.int .i64 m.g.count) (by simp);have v5:=o4.cell_ 5 (v:=.int .i64 m.g.next) (by simp);have v6:=o4.cell_ 6 (v:=.int .i64 m.g.round) (by simp);have v7:=o4.cell_ 7 (v:=.slice B4 m.g.os.length d4) (by simp);have v8:=o4.cell_ 8 (v:=.int .i64 m.sp) (by simp);refine bodyPost_ret (v:=.tuple #[.agg #[.slice A1 (mapV m.t s p fr r).bs.length c1,.slice A2 (mapV m.t s p fr r).fs.length c2,.slice B3 m.c.ls.length d3,.int .i64 m.c.hand,.int .i64 m.g.count,.int .i64 m.g.next,.int .i64 m.g.round,.slice B4 m.g.os.length d4,.int .i64 m.sp],.bool true]) (by simp[results,Tryz.results97,go_sem,v0,v1,v2,v3,v4,v5,v6,v7,v8]) rfl ⟨_,rfl,_,_,_,_,by rw[HA.o,HV.o], ?_, ?_⟩
    ·rw[HV.o]
     have hmm:MaM (w.heap.size+3) w3 (.slice A1 (mapV m.t s p fr r).bs.length c1) (.slice A2 (mapV m.t s p fr r).fs.length c2) (.slice B3 m.c.ls.length d3) (.slice B4 m.g.os.length d4) {m with t:=mapV m.t s p fr r}:=⟨HT3.o,HM3.o.l,HM3.o.o⟩
     refine MaM.mono (B:=w.heap.size+3) (MaM.now ?_ (bA bR)) (by omega);repeat (refine MaM.far ?_ (by show w.heap.size+1+1<w.heap.size+3;omega))
     exact hmm
    ·refine bA ?_;repeat (refine bS ?_ (by simp<;>omega))
     exact HB3.o
end Go.Proofs.YtfbnokjdkhcgoaaGreatDoor
