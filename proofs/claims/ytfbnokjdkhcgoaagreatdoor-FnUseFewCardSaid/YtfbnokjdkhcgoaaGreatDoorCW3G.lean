/- A part of the proofs of this seat. -/
import Derived.Test.YtfbnokjdkhcgoaaGreatDoorCCp3
set_option linter.unusedVariables false
set_option linter.unusedSimpArgs false
set_option maxRecDepth 1000000
set_option maxHeartbeats 16000000
namespace Go.Proofs.YtfbnokjdkhcgoaaGreatDoor
open Go.RowKit
def K2G(B g q:Nat)(w:World)(v:Value)(w':World):Prop:=∃a b:Int,v=.agg #[.int .i64 a,.int .i64 b]∧pgo b∧Rdr B w' g (q+2)∧w.grownBy w' (some g)
theorem l2Draw_g(B g q:Nat)(w:World)(hrd:Rdr B w g q)(hq:q≤900100):
  Calls Tryz.prog 221 #[.pointer (some ⟨g,0,none⟩)] w (Post2 fun v w'=>K2G B g q w v w'):=by
 have hgw:=rdr_lt hrd;have hr0:=Own.new_ w 54 #[.int .i64 0,.int .i64 0];have hb0:Below w.heap.size w (w.alloc (.cells #[.int .i64 0,.int .i64 0] 54)):=bA bR;generalize hW:w.alloc (.cells #[.int .i64 0,.int .i64 0] 54)=W0 at hr0 hb0;have HRR:=Hd hr0;have HRD:=Hd (rdr_below hrd hb0);have HGR:=Hd (gr_below hb0 (g:=g));clear hr0 hb0 hrd
 go_enter Tryz.func221,Tryz.ntmps221
 go_wp2_with fail
 refine(num_lit B g q [0,1,2,3,1] W0 _ _ rfl rfl HRD.o (by omega) (by simp) (by simp)).mono ?_;rintro e w1 ⟨z1,rfl,_,hrd,hg⟩;have HRR1:=Hd (own_gr HRR.o hg (by omega));have HGR1:=Hd (gT HGR.o hg);have HRD1:=Hd hrd;clear HRR HGR HRD hrd hg;go_wp2_with fail
 refine(num_lit B g (q+1) [0,1,2,3,4,5,100,255] w1 _ _ rfl rfl HRD1.o (by omega) (by simp) (by simp)).mono ?_;rintro e w2 ⟨z2,rfl,hz2,hrd,hg⟩
 have HPG:Hi (pgo z2):=by
  show pgo z2;unfold pgo;simp at hz2;omega
 clear hz2;have HRR2:=Hd (own_gr HRR1.o hg (by omega));have HGR2:=Hd (gT HGR1.o hg);have HRD2:=Hd hrd;clear HRR1 HGR1 HRD1 hrd hg;have r0:=HRR2.c 0 (.int .i64 0) rfl;have r1:=HRR2.c 1 (.int .i64 0) rfl;have f0:=HRR2.o.free 0;have f1:=HRR2.o.free 1;have hlr:=HRR2.o.lt;go_wp2;have o3:=(HRR2.o.set_ 0 (.int .i64 z1)).set_ 1 (.int .i64 z2);have t0:=o3.cell_ 0 (v:=.int .i64 z1) rfl;have t1:=o3.cell_ 1 (v:=.int .i64 z2) rfl;refine bodyPost_ret (v:=.agg #[.int .i64 z1,.int .i64 z2]) (by simp[results,Tryz.results221,go_sem,t0,t1]) rfl ?_;exact⟨_,rfl,z1,z2,rfl,HPG.o,rdr_set1 (by omega) (rdr_set1 (by omega) HRD2.o),g_set (by omega) (g_set (by omega) HGR2.o)⟩
def Pgf(fs:List Fr):Prop:=∀f∈fs,pgo f.p
theorem pgf_set{fs:List Fr}{k:Nat}{y x:Fr}(e:fs[k]?=some y)(h:pgo y.p→pgo x.p)(hf:Pgf fs):Pgf (fs.set k x):=by
 intro f hm;rcases List.mem_or_eq_of_mem_set hm with hm | rfl
 ·exact hf f hm
 ·exact h (hf y (List.mem_of_getElem? e))
def W3Q(B g q:Nat)(t:Tab)(w:World)(v:Value)(w':World):Prop:=∃(t':Tab) (v1 v2:Value) (p:Nat),v=.agg #[v1,v2]∧TaM B w' v1 v2 t'∧1≤t'.bs.length∧t'.bs.length≤t.bs.length+1∧t'.fs.length≤t.fs.length∧(Pgf t.fs→Pgf t'.fs)∧Rdr B w' g p∧p≤q+4∧w.grownBy w' (some g)
theorem l3Wrong_g (B g q:Nat) (vb vf:Value) (t:Tab) (w:World) (hrd:Rdr B w g q) (hq:q≤900000) (hT:TaM B w vb vf t) (hb1:1≤t.bs.length) (hb2:t.bs.length≤1000) (hf2:t.fs.length≤1000) (hBw:B≤w.heap.size):
    Calls Tryz.prog 188 #[.pointer (some ⟨g,0,none⟩),.agg #[vb,vf]] w (Post2 fun v w'=>W3Q B g q t w v w'):=by
  have hgw:=rdr_lt hrd;obtain⟨A,ca,rfl,_⟩:=hT.b;obtain⟨F,cf,rfl,_⟩:=hT.f;have HT:=Hd hT;clear hT;have hbx:=(Own.new_ w 26 #[.slice A t.bs.length ca,.slice F t.fs.length cf]).alloc (o:=.cells #[.slice none 0 0,.slice none 0 0] 26);have hbo:=ownAt (W:=w.alloc (.cells #[.slice A t.bs.length ca,.slice F t.fs.length cf] 26)) (g:=w.heap.size+1) (t:=26) (cs:=#[.slice none 0 0,.slice none 0 0]) (by simp);have hb0:Below w.heap.size w ((w.alloc (.cells #[.slice A t.bs.length ca,.slice F t.fs.length cf] 26)).alloc (.cells #[.slice none 0 0,.slice none 0 0] 26)):=bA (bA bR);have hs0:((w.alloc (.cells #[.slice A t.bs.length ca,.slice F t.fs.length cf] 26)).alloc (.cells #[.slice none 0 0,.slice none 0 0] 26)).heap.size=w.heap.size+2:=by simp
  generalize hW:(w.alloc (.cells #[.slice A t.bs.length ca,.slice F t.fs.length cf] 26)).alloc (.cells #[.slice none 0 0,.slice none 0 0] 26)=W0 at hbx hbo hb0 hs0;have q0:=hbx.cell_ 0 (v:=.slice A t.bs.length ca) rfl;have q1:=hbx.cell_ 1 (v:=.slice F t.fs.length cf) rfl;have HR0:=Hd hbo;have HB0:=Hd hb0;have HRD0:=Hd (rdr_below hrd hb0);clear hbx hbo hb0 hrd
  go_enter Tryz.func188,Tryz.ntmps188
  go_wp2_with fail
  refine(l3CopyO_any _ _ t _ (HT.o.r.now HB0.o) (by omega) (by omega)).mono ?_;rintro e w1 ⟨_,rfl,v1,v2,rfl,hN1,hF1,hb1'⟩;clear q0 q1;have hM1:=slm_own (l:=t.fs) rfl hF1;obtain⟨A1,c1,rfl,_⟩:=own_rd hN1;obtain⟨A2,c2,rfl,_⟩:=own_rd hF1;have ho2:=Own.new_ w1 26 #[.slice A1 t.bs.length c1,.slice A2 t.fs.length c2];have hb2':Below w1.heap.size w1 (w1.alloc (.cells #[.slice A1 t.bs.length c1,.slice A2 t.fs.length c2] 26)):=bA bR;generalize hW2:w1.alloc (.cells #[.slice A1 t.bs.length c1,.slice A2 t.fs.length c2] 26)=w2 at ho2 hb2';have HN:=Hd (own_mono (own_kept hN1 hb2') (show w.heap.size+2≤W0.heap.size by omega));have HM:=Hd ((hM1.now hb2').mono (show w.heap.size+2≤W0.heap.size by omega));have HO:=Hd ho2;have HR:=Hd ((HR0.o.below hb1').below hb2');have HRD:=Hd (rdr_below (rdr_below HRD0.o hb1') hb2');have HGR:=Hd (gr_below (g:=g) (bT (bT HB0.o hb1') hb2'));have hgt:w.heap.size+2≤w1.heap.size:=by have:=hb1'.size;omega
  clear hN1 hF1 hM1 hb1' ho2 hb2' HR0 HB0 HRD0 HT;generalize hgb:w1.heap.size=gb at*;have o0:=HO.c 0 (.slice A1 t.bs.length c1) rfl;have o1:=HO.c 1 (.slice A2 t.fs.length c2) rfl;have hlo:=HO.o.lt
  have HL3:Hi (t.fs.length≤t.fs.length∧(Pgf t.fs→Pgf t.fs)):=⟨Nat.le_refl _,id⟩
  by_cases hz:t.fs.length=0
  · have hzi:((t.fs.length:Int) == 0)=true:=by rw[beq_iff_eq];omega
    clear hz;have HMB:=Hd (slm_own (l:=t.bs) rfl HN.o);have HL1:Hi (1≤t.bs.length):=hb1;have HL2:Hi (t.bs.length≤t.bs.length+1):=Nat.le_succ _;have r0:=HR.c 0 (.slice none 0 0) rfl;have r1:=HR.c 1 (.slice none 0 0) rfl;have f0:=HR.o.free 0;have f1:=HR.o.free 1;have hlr:=HR.o.lt;have o0:=HO.c 0 (.slice A1 t.bs.length c1) rfl;have o1:=HO.c 1 (.slice A2 t.fs.length c2) rfl;have hlo:=HO.o.lt;try go_wp2
    have hA:=HR.o.set_ 0 (.slice A1 t.bs.length c1);have o3:=hA.set_ 1 (.slice A2 t.fs.length c2);have t0:=o3.cell_ 0 (v:=.slice A1 t.bs.length c1) rfl;have t1:=o3.cell_ 1 (v:=.slice A2 t.fs.length c2) rfl;refine bodyPost_ret (v:=.agg #[.slice A1 t.bs.length c1,.slice A2 t.fs.length c2]) (by simp[results,Tryz.results188,go_sem,t0,t1]) rfl ?_;refine⟨_,rfl,⟨t.bs,t.fs⟩,_,_,_,rfl,⟨?_, ?_⟩, ?_, ?_, ?_,HL3.o.2,rdr_set1 (by omega) (rdr_set1 (by omega) HRD.o),by omega,g_set (by omega) (g_set (by omega) HGR.o)⟩
    · exact((HMB.o.farT HR.o (i:=0) (by decide)).farT hA (i:=1) (by decide)).mono (by omega)
    · exact((HM.o.farT HR.o (i:=0) (by decide)).farT hA (i:=1) (by decide)).mono (by omega)
    · show 1≤List.length t.bs
      exact HL1.o
    · show List.length t.bs≤_
      exact HL2.o
    · show List.length t.fs≤_
      exact HL3.o.1
  have hzi:((t.fs.length:Int) == 0)=false:=by rw[beq_eq_false_iff_ne];omega
  go_wp2_with fail
  refine(pick_any B g q t.fs.length w2 HRD.o (by omega) (by omega)).mono ?_;rintro e w3 ⟨k,rfl,hk0,hk1,hrd,hg⟩;have hk2:=hk1 (by omega);obtain⟨k,rfl⟩:=Int.eq_ofNat_of_zero_le hk0;have hkl:k<t.fs.length:=by omega
  have ho3:=own_gr HO.o hg (by have:=rdr_lt HRD.o;omega);have hr3:=own_gr HR.o hg (by have:=rdr_lt HRD.o;omega);have hm3:=HM.o.gr HRD.o hg (by decide);have hn3:=ownsRow_gr HN.o HRD.o hg (by decide);have hgr3:=gT HGR.o hg;clear HO HR HM HN HRD HGR;have HO:=Hd ho3;have HR:=Hd hr3;have HM:=Hd hm3;have HN:=Hd hn3;have HRD:=Hd hrd;have HGR:=Hd hgr3;clear ho3 hr3 hm3 hn3 hgr3 hrd hg;clear hk0 hk1 hk2 o0 o1 hlo hW2 hW;go_wp2_with fail
  refine(pick_any B g (q+1) 24 w3 HRD.o (by omega) (by omega)).mono ?_;rintro e w4 ⟨x,rfl,hx0,hx1,hrd,hg⟩;have ho4:=own_gr HO.o hg (by have:=rdr_lt HRD.o;omega);have hr4:=own_gr HR.o hg (by have:=rdr_lt HRD.o;omega);have hm4:=HM.o.gr HRD.o hg (by decide);have hn4:=ownsRow_gr HN.o HRD.o hg (by decide);have hgr4:=gT HGR.o hg;clear HO HR HM HN HRD HGR;have HO:=Hd ho4;have HR:=Hd hr4;have HM:=Hd hm4;have HN:=Hd hn4;have HRD:=Hd hrd;have HGR:=Hd hgr4;clear ho4 hr4 hm4 hn4 hgr4 hrd hg;clear hx0 hx1
  obtain⟨y,ey⟩:∃y,t.fs[k]?=some y:=⟨_,List.getElem?_eq_getElem hkl⟩
  have HEY:=Hd ey;have HML:=Hd HM.o.own_;obtain⟨g2,cs2,hA2,hg2,O2,_⟩:=HML.o.1.own (by omega);subst hA2
  have hgg:g≠g2:=by
    obtain⟨Ar,nr,cr,hor,_⟩:=HRD.o.ok;exact hor.ne O2 (by decide)
  have hgb2:gb≠g2:=HO.o.ne O2 (by decide);have hrb2:w.heap.size+1≠g2:=HR.o.ne O2 (by decide);have hki:(0:Int)≤(k:Int):=by omega
  clear HML O2;by_cases hx:x=0
  · have e0:(x == 0)=true:=by rw[beq_iff_eq];exact hx
    clear hx;have o0:=HO.c 1 (.slice (some ⟨g2,0,none⟩) t.fs.length c2) rfl;go_wp2
    go_region_held_law (fun w'=>w'.cell? ⟨gb,1,none⟩=some (.slice (some ⟨g2,0,none⟩) t.fs.length c2)) (first | go_keep | (rw[World.cell?_setCell_other _ _ _ _ (by intro e;injection e with e1;first | exact hgb2 e1 | exact hgb2 e1.symm)];first | assumption | exact d0)) (first
      | (go_at_call 47
         refine(num_lit B g (q+1+1) [0,(k:Int),16,-1] _ _ _ rfl rfl (rdr_below HRD.o (bD bR)) (by omega) (by simp) (by simp)).mono ?_;rintro _ w5 ⟨z,rfl,hz5,hrd,hgx⟩;have hg:=gT (gr_below (g:=g) (bD (bR (w:=w4)))) hgx;clear o0 hgx;have ho5:=own_gr HO.o hg (by have:=rdr_lt HRD.o;omega);have hr5:=own_gr HR.o hg (by have:=rdr_lt HRD.o;omega);have hm5:=HM.o.gr HRD.o hg (by decide);have hn5:=ownsRow_gr HN.o HRD.o hg (by decide);have hgr5:=gT HGR.o hg;clear HO HR HM HN HRD HGR;have HO:=Hd ho5;have HR:=Hd hr5;have HM:=Hd hm5;have HN:=Hd hn5;have HRD:=Hd hrd;have HGR:=Hd hgr5;clear ho5 hr5 hm5 hn5 hgr5 hrd hg;have d0:=HO.c 1 (.slice (some ⟨g2,0,none⟩) t.fs.length c2) rfl;have HML:=Hd HM.o.own_;obtain⟨_,csB,eB,_,O3,_⟩:=HML.o.1.own (by omega);injection eB with eB;injection eB with eB;subst eB;have zf0:=O3.free (k*5);have zf1:=O3.free (k*5+1);have zf2:=O3.free (k*5+2);have zf:=O3.free (k*5+4);obtain⟨bq,oq,eq1,_,y0,y1,y2,y3,y4⟩:=HML.o.1.is.fr ey;injection eq1 with eq1;injection eq1 with eq1 eq2;subst eq1 eq2;rw[Nat.zero_add]at y0 y1 y2 y3 y4
         clear HML O3))
    all_goals
      have HML:=Hd HM.o.own_;obtain⟨_,csB,eB,_,O3,_⟩:=HML.o.1.own (by omega);injection eB with eB;injection eB with eB;subst eB;have hm6:=HML.o.1.wnext ey z;have ho6:=HO.o.far (p:=⟨g2,k*5+4,none⟩) (u:=.int .i64 z) hgb2;have hr6:=HR.o.far (p:=⟨g2,k*5+4,none⟩) (u:=.int .i64 z) hrb2;have hn6:=row_set (g:=g2) (i:=k*5+4) (u:=.int .i64 z) HN.o O3 (by decide);have hd6:=rdr_far (b:=g2) (i:=k*5+4) (u:=.int .i64 z) HRD.o hgg (by omega);have hg6:=g_set (b:=g2) (i:=k*5+4) (u:=.int .i64 z) (by omega) HGR.o;have hM7:SlM frE 80 (w.heap.size+2) _ (.slice (some ⟨g2,0,none⟩) t.fs.length c2) (t.fs.set k {y with n:=z}):=slm_of (by simp) (by simpa using HML.o.2.2.1) HML.o.2.2.2 hm6;clear HO HR HM HN HRD HGR HML O3 hm6;generalize hW6:w5.setCell ⟨g2,k*5+4,none⟩ (.int .i64 z)=w6 at ho6 hr6 hM7 hn6 hd6 hg6⊢;have HO:=Hd ho6;have HR:=Hd hr6;have HM:=Hd hM7;have HN:=Hd hn6;have HRD:=Hd hd6;have HGR:=Hd hg6;clear ho6 hr6 hM7 hn6 hd6 hg6;have HMB:=Hd (slm_own (l:=t.bs) rfl HN.o);have HL1:Hi (1≤t.bs.length):=hb1;have HL2:Hi (t.bs.length≤t.bs.length+1):=Nat.le_succ _
      have HL3:Hi ((t.fs.set k {y with n:=z}).length≤t.fs.length∧(Pgf t.fs→Pgf (t.fs.set k {y with n:=z}))):=⟨by simp,pgf_set HEY.o id⟩
      clear d0 zf zf0 zf1 zf2 y0 y1 y2 y3 y4;have r0:=HR.c 0 (.slice none 0 0) rfl;have r1:=HR.c 1 (.slice none 0 0) rfl;have f0:=HR.o.free 0;have f1:=HR.o.free 1;have hlr:=HR.o.lt;have o0:=HO.c 0 (.slice A1 t.bs.length c1) rfl;have o1:=HO.c 1 (.slice (some ⟨g2,0,none⟩) t.fs.length c2) rfl;have hlo:=HO.o.lt;try go_wp2
      have hA:=HR.o.set_ 0 (.slice A1 t.bs.length c1);have o3:=hA.set_ 1 (.slice (some ⟨g2,0,none⟩) t.fs.length c2);have t0:=o3.cell_ 0 (v:=.slice A1 t.bs.length c1) rfl;have t1:=o3.cell_ 1 (v:=.slice (some ⟨g2,0,none⟩) t.fs.length c2) rfl;refine bodyPost_ret (v:=.agg #[.slice A1 t.bs.length c1,.slice (some ⟨g2,0,none⟩) t.fs.length c2]) (by simp[results,Tryz.results188,go_sem,t0,t1]) rfl ?_;refine⟨_,rfl,⟨t.bs,(t.fs.set k {y with n:=z})⟩,_,_,_,rfl,⟨?_, ?_⟩, ?_, ?_, ?_,HL3.o.2,rdr_set1 (by omega) (rdr_set1 (by omega) HRD.o),by omega,g_set (by omega) (g_set (by omega) HGR.o)⟩
      · exact((HMB.o.farT HR.o (i:=0) (by decide)).farT hA (i:=1) (by decide)).mono (by omega)
      · exact((HM.o.farT HR.o (i:=0) (by decide)).farT hA (i:=1) (by decide)).mono (by omega)
      · show 1≤List.length t.bs
        exact HL1.o
      · show List.length t.bs≤_
        exact HL2.o
      · show List.length (t.fs.set k {y with n:=z})≤_
        exact HL3.o.1
  have e0:(x == 0)=false:=by rw[beq_eq_false_iff_ne];exact hx
  clear hx;by_cases hx:x=1
  · have e1:(x == 1)=true:=by rw[beq_iff_eq];exact hx
    clear hx;go_wp2;have HO5:=Hd HO.o.drew;have HR5:=Hd HR.o.drew;have HM5:=Hd (HM.o.now (bD bR));have HN5:=Hd (own_kept HN.o (bD bR));have HRD5:=Hd (rdr_below HRD.o (bD bR));have HGR5:=Hd (gT HGR.o (gr_below (g:=g) (bD (bR (w:=w4)))));have o0:=HO.c 1 (.slice (some ⟨g2,0,none⟩) t.fs.length c2) rfl;have HML:=Hd HM.o.own_;obtain⟨_,csB,eB,_,O3,_⟩:=HML.o.1.own (by omega);injection eB with eB;injection eB with eB;subst eB;have zf0:=O3.free (k*5);have zf1:=O3.free (k*5+1);have zf2:=O3.free (k*5+2);have zf:=O3.free (k*5+4);obtain⟨bq,oq,eq1,_,y0,y1,y2,y3,y4⟩:=HML.o.1.is.fr ey;injection eq1 with eq1;injection eq1 with eq1 eq2;subst eq1 eq2;rw[Nat.zero_add]at y0 y1 y2 y3 y4;clear HML O3
    go_still_tail 12,(by kernel_rfl)
    clear o0 zf zf0 zf1 zf2 y0 y1 y2 y3 y4 HO HR HM HN HRD HGR;change wpList _ _ _ _ _ w4.drew;generalize w4.drew=w5 at HO5 HR5 HM5 HN5 HRD5 HGR5⊢;have HO:=HO5;have HR:=HR5;have HM:=HM5;have HN:=HN5;have HRD:=HRD5;have HGR:=HGR5;clear HO5 HR5 HM5 HN5 HRD5 HGR5;have HML:=Hd HM.o.own_;obtain⟨_,csB,eB,_,O3,_⟩:=HML.o.1.own (by omega);injection eB with eB;injection eB with eB;subst eB;have zf0:=O3.free (k*5);have zf1:=O3.free (k*5+1);have zf2:=O3.free (k*5+2);have zf:=O3.free (k*5+4);obtain⟨bq,oq,eq1,_,y0,y1,y2,y3,y4⟩:=HML.o.1.is.fr ey;injection eq1 with eq1;injection eq1 with eq1 eq2;subst eq1 eq2;rw[Nat.zero_add]at y0 y1 y2 y3 y4;clear HML O3;have HML:=Hd HM.o.own_;obtain⟨_,csB,eB,_,O3,_⟩:=HML.o.1.own (by omega);injection eB with eB;injection eB with eB;subst eB;have hm6:=HML.o.1.fru ey (!y.used);have ho6:=HO.o.far (p:=⟨g2,k*5+0,none⟩) (u:=.bool !y.used) hgb2;have hr6:=HR.o.far (p:=⟨g2,k*5+0,none⟩) (u:=.bool !y.used) hrb2;have hn6:=row_set (g:=g2) (i:=k*5+0) (u:=.bool !y.used) HN.o O3 (by decide);have hd6:=rdr_far (b:=g2) (i:=k*5+0) (u:=.bool !y.used) HRD.o hgg (by omega);have hg6:=g_set (b:=g2) (i:=k*5+0) (u:=.bool !y.used) (by omega) HGR.o;have hM7:SlM frE 80 (w.heap.size+2) _ (.slice (some ⟨g2,0,none⟩) t.fs.length c2) (t.fs.set k {y with used:=!y.used}):=slm_of (by simp) (by simpa using HML.o.2.2.1) HML.o.2.2.2 hm6;clear HO HR HM HN HRD HGR HML O3 hm6;rw[Nat.add_zero]at ho6 hr6 hM7 hn6 hd6 hg6;generalize hW6:w5.setCell ⟨g2,k*5,none⟩ (.bool !y.used)=w6 at ho6 hr6 hM7 hn6 hd6 hg6;have HO:=Hd ho6;have HR:=Hd hr6;have HM:=Hd hM7;have HN:=Hd hn6;have HRD:=Hd hd6;have HGR:=Hd hg6;clear ho6 hr6 hM7 hn6 hd6 hg6;have HMB:=Hd (slm_own (l:=t.bs) rfl HN.o);have HL1:Hi (1≤t.bs.length):=hb1;have HL2:Hi (t.bs.length≤t.bs.length+1):=Nat.le_succ _
    have HL3:Hi ((t.fs.set k {y with used:=!y.used}).length≤t.fs.length∧(Pgf t.fs→Pgf (t.fs.set k {y with used:=!y.used}))):=⟨by simp,pgf_set HEY.o id⟩
    have r0:=HR.c 0 (.slice none 0 0) rfl;have r1:=HR.c 1 (.slice none 0 0) rfl;have f0:=HR.o.free 0;have f1:=HR.o.free 1;have hlr:=HR.o.lt;have o0:=HO.c 0 (.slice A1 t.bs.length c1) rfl;have o1:=HO.c 1 (.slice (some ⟨g2,0,none⟩) t.fs.length c2) rfl;have hlo:=HO.o.lt;try go_wp2
    have hA:=HR.o.set_ 0 (.slice A1 t.bs.length c1);have o3:=hA.set_ 1 (.slice (some ⟨g2,0,none⟩) t.fs.length c2);have t0:=o3.cell_ 0 (v:=.slice A1 t.bs.length c1) rfl;have t1:=o3.cell_ 1 (v:=.slice (some ⟨g2,0,none⟩) t.fs.length c2) rfl;refine bodyPost_ret (v:=.agg #[.slice A1 t.bs.length c1,.slice (some ⟨g2,0,none⟩) t.fs.length c2]) (by simp[results,Tryz.results188,go_sem,t0,t1]) rfl ?_;refine⟨_,rfl,⟨t.bs,(t.fs.set k {y with used:=!y.used})⟩,_,_,_,rfl,⟨?_, ?_⟩, ?_, ?_, ?_,HL3.o.2,rdr_set1 (by omega) (rdr_set1 (by omega) HRD.o),by omega,g_set (by omega) (g_set (by omega) HGR.o)⟩
    · exact((HMB.o.farT HR.o (i:=0) (by decide)).farT hA (i:=1) (by decide)).mono (by omega)
    · exact((HM.o.farT HR.o (i:=0) (by decide)).farT hA (i:=1) (by decide)).mono (by omega)
    · show 1≤List.length t.bs
      exact HL1.o
    · show List.length t.bs≤_
      exact HL2.o
    · show List.length (t.fs.set k {y with used:=!y.used})≤_
      exact HL3.o.1
  have e1:(x == 1)=false:=by rw[beq_eq_false_iff_ne];exact hx
  clear hx;by_cases hx:x=2
  · have e2:(x == 2)=true:=by rw[beq_iff_eq];exact hx
    clear hx;have HNB:=Hd (slm_own (l:=t.bs) rfl HN.o).own_;obtain⟨g1,cs1,hA1,hg1,O1,_⟩:=HNB.o.1.own (by omega);subst hA1;have hgb1:gb≠g1:=HO.o.ne O1 (by decide);have hrb1:w.heap.size+1≠g1:=HR.o.ne O1 (by decide)
    have hgg1:g≠g1:=by
      obtain⟨Ar,nr,cr,hor,_⟩:=HRD.o.ok;exact hor.ne O1 (by decide)
    have hb1i:(0:Int)<(t.bs.length:Int):=by omega
    clear O1 HNB;have o0:=HO.c 0 (.slice (some ⟨g1,0,none⟩) t.bs.length c1) rfl;go_wp2
    go_region_held_law (fun w'=>w'.cell? ⟨gb,0,none⟩=some (.slice (some ⟨g1,0,none⟩) t.bs.length c1)) (first | go_keep | (rw[World.cell?_setCell_other _ _ _ _ (by intro e;injection e with e1;first | exact hgb1 e1 | exact hgb1 e1.symm)];first | assumption | exact d0)) (first
      | (go_at_call 47
         refine(num_lit B g (q+1+1) [0,-1,16,-2] _ _ _ rfl rfl (rdr_below HRD.o (bD bR)) (by omega) (by simp) (by simp)).mono ?_;rintro _ w5 ⟨z,rfl,hz5,hrd,hgx⟩;have hg:=gT (gr_below (g:=g) (bD (bR (w:=w4)))) hgx;clear o0 hgx;have ho5:=own_gr HO.o hg (by have:=rdr_lt HRD.o;omega);have hr5:=own_gr HR.o hg (by have:=rdr_lt HRD.o;omega);have hm5:=HM.o.gr HRD.o hg (by decide);have hn5:=ownsRow_gr HN.o HRD.o hg (by decide);have hgr5:=gT HGR.o hg;clear HO HR HM HN HRD HGR;have HO:=Hd ho5;have HR:=Hd hr5;have HM:=Hd hm5;have HN:=Hd hn5;have HRD:=Hd hrd;have HGR:=Hd hgr5;clear ho5 hr5 hm5 hn5 hgr5 hrd hg;have d0:=HO.c 0 (.slice (some ⟨g1,0,none⟩) t.bs.length c1) rfl;have HNB:=Hd (slm_own (l:=t.bs) rfl HN.o).own_;obtain⟨_,csB,eB,_,O3,_⟩:=HNB.o.1.own (by omega);injection eB with eB;injection eB with eB;subst eB;have zf:=O3.free 0
         obtain⟨b0,hb0⟩:∃b0,t.bs[0]?=some b0:=⟨_,List.getElem?_eq_getElem (by omega)⟩
         obtain⟨bq,oq,eq1,_,y0⟩:=HNB.o.1.is.i1 hb0;injection eq1 with eq1;injection eq1 with eq1 eq2;subst eq1 eq2;rw[Nat.zero_add]at y0
         clear HNB O3))
    all_goals
      have HNB:=Hd (slm_own (l:=t.bs) rfl HN.o).own_;obtain⟨_,csB,eB,_,O3,_⟩:=HNB.o.1.own (by omega);injection eB with eB;injection eB with eB;subst eB;have hm6:=HNB.o.1.wint (show 0<t.bs.length by omega) z;have ho6:=HO.o.far (p:=⟨g1,0,none⟩) (u:=.int .i64 z) hgb1;have hr6:=HR.o.far (p:=⟨g1,0,none⟩) (u:=.int .i64 z) hrb1;have hM7:=HM.o.farT O3 (i:=0) (u:=.int .i64 z) (by decide);have hd6:=rdr_far (b:=g1) (i:=0) (u:=.int .i64 z) HRD.o hgg1 (by omega);have hg6:=g_set (b:=g1) (i:=0) (u:=.int .i64 z) (by omega) HGR.o;have hMB:SlM intE 3 (w.heap.size+2) _ (.slice (some ⟨g1,0,none⟩) t.bs.length c1) (t.bs.set 0 z):=slm_of (by simp) (by simpa using HNB.o.2.2.1) HNB.o.2.2.2 hm6;generalize hW6:w5.setCell ⟨g1,0,none⟩ (.int .i64 z)=w6 at ho6 hr6 hM7 hMB hd6 hg6⊢;clear HO HR HM HN HRD HGR HNB O3 hm6;have HO:=Hd ho6;have HR:=Hd hr6;have HM:=Hd hM7;have HMB:=Hd hMB;have HRD:=Hd hd6;have HGR:=Hd hg6;have HL1:Hi (1≤(t.bs.set 0 z).length):=by show _≤_;simpa using hb1
      have HL2:Hi ((t.bs.set 0 z).length≤t.bs.length+1):=by show _≤_;simp
      clear ho6 hr6 hM7 hMB hd6 hg6 d0 zf y0 hb0;have r0:=HR.c 0 (.slice none 0 0) rfl;have r1:=HR.c 1 (.slice none 0 0) rfl;have f0:=HR.o.free 0;have f1:=HR.o.free 1;have hlr:=HR.o.lt;have o0:=HO.c 0 (.slice (some ⟨g1,0,none⟩) t.bs.length c1) rfl;have o1:=HO.c 1 (.slice (some ⟨g2,0,none⟩) t.fs.length c2) rfl;have hlo:=HO.o.lt;try go_wp2
      have hA:=HR.o.set_ 0 (.slice (some ⟨g1,0,none⟩) t.bs.length c1);have o3:=hA.set_ 1 (.slice (some ⟨g2,0,none⟩) t.fs.length c2);have t0:=o3.cell_ 0 (v:=.slice (some ⟨g1,0,none⟩) t.bs.length c1) rfl;have t1:=o3.cell_ 1 (v:=.slice (some ⟨g2,0,none⟩) t.fs.length c2) rfl;refine bodyPost_ret (v:=.agg #[.slice (some ⟨g1,0,none⟩) t.bs.length c1,.slice (some ⟨g2,0,none⟩) t.fs.length c2]) (by simp[results,Tryz.results188,go_sem,t0,t1]) rfl ?_;refine⟨_,rfl,⟨(t.bs.set 0 z),t.fs⟩,_,_,_,rfl,⟨?_, ?_⟩, ?_, ?_, ?_,HL3.o.2,rdr_set1 (by omega) (rdr_set1 (by omega) HRD.o),by omega,g_set (by omega) (g_set (by omega) HGR.o)⟩
      · exact((HMB.o.farT HR.o (i:=0) (by decide)).farT hA (i:=1) (by decide)).mono (by omega)
      · exact((HM.o.farT HR.o (i:=0) (by decide)).farT hA (i:=1) (by decide)).mono (by omega)
      · show 1≤List.length (t.bs.set 0 z)
        exact HL1.o
      · show List.length (t.bs.set 0 z)≤_
        exact HL2.o
      · show List.length t.fs≤_
        exact HL3.o.1
  have e2:(x == 2)=false:=by rw[beq_eq_false_iff_ne];exact hx
  clear hx;by_cases hx:x=3
  · have e3:(x == 3)=true:=by rw[beq_iff_eq];exact hx
    clear hx;have o0:=HO.c 1 (.slice (some ⟨g2,0,none⟩) t.fs.length c2) rfl;go_wp2
    go_region_held_law (fun w'=>w'.cell? ⟨gb,1,none⟩=some (.slice (some ⟨g2,0,none⟩) t.fs.length c2)) (first | go_keep | (rw[World.cell?_setCell_other _ _ _ _ (by intro e;injection e with e1;first | exact hgb2 e1 | exact hgb2 e1.symm),World.cell?_setCell_other _ _ _ _ (by intro e;injection e with e1;first | exact hgb2 e1 | exact hgb2 e1.symm)];first | assumption | exact d0)) (first
      | (go_at_call 221
         refine(l2Draw_g B g (q+1+1) _ (rdr_below HRD.o (bD bR)) (by omega)).mono ?_;rintro _ w5 ⟨_,rfl,za,zb,rfl,hzb,hrd,hgx⟩;have HZB:=Hd hzb;clear hzb;have hg:=gT (gr_below (g:=g) (bD (bR (w:=w4)))) hgx;clear o0 hgx;have ho5:=own_gr HO.o hg (by have:=rdr_lt HRD.o;omega);have hr5:=own_gr HR.o hg (by have:=rdr_lt HRD.o;omega);have hm5:=HM.o.gr HRD.o hg (by decide);have hn5:=ownsRow_gr HN.o HRD.o hg (by decide);have hgr5:=gT HGR.o hg;clear HO HR HM HN HRD HGR;have HO:=Hd ho5;have HR:=Hd hr5;have HM:=Hd hm5;have HN:=Hd hn5;have HRD:=Hd hrd;have HGR:=Hd hgr5;clear ho5 hr5 hm5 hn5 hgr5 hrd hg;have d0:=HO.c 1 (.slice (some ⟨g2,0,none⟩) t.fs.length c2) rfl;have HML:=Hd HM.o.own_;obtain⟨_,csB,eB,_,O3,_⟩:=HML.o.1.own (by omega);injection eB with eB;injection eB with eB;subst eB;have zf0:=O3.free (k*5);have zf1:=O3.free (k*5+1);have zf2:=O3.free (k*5+2);have zf:=O3.free (k*5+4);obtain⟨bq,oq,eq1,_,y0,y1,y2,y3,y4⟩:=HML.o.1.is.fr ey;injection eq1 with eq1;injection eq1 with eq1 eq2;subst eq1 eq2;rw[Nat.zero_add]at y0 y1 y2 y3 y4
         clear HML O3))
    all_goals
      have HML:=Hd HM.o.own_;obtain⟨_,csB,eB,_,O3,_⟩:=HML.o.1.own (by omega);injection eB with eB;injection eB with eB;subst eB;have hm6:=HML.o.1.frs ey za;have ho6:=HO.o.far (p:=⟨g2,k*5+1,none⟩) (u:=.int .i64 za) hgb2;have hr6:=HR.o.far (p:=⟨g2,k*5+1,none⟩) (u:=.int .i64 za) hrb2;have hn6:=row_set (g:=g2) (i:=k*5+1) (u:=.int .i64 za) HN.o O3 (by decide);have hd6:=rdr_far (b:=g2) (i:=k*5+1) (u:=.int .i64 za) HRD.o hgg (by omega);have hg6:=g_set (b:=g2) (i:=k*5+1) (u:=.int .i64 za) (by omega) HGR.o;have hM7:SlM frE 80 (w.heap.size+2) _ (.slice (some ⟨g2,0,none⟩) t.fs.length c2) (t.fs.set k {y with s:=za}):=slm_of (by simp) (by simpa using HML.o.2.2.1) HML.o.2.2.2 hm6;clear HO HR HM HN HRD HGR HML O3 hm6;have HO:=Hd ho6;have HR:=Hd hr6;have HN:=Hd hn6;have HRD:=Hd hd6;have HGR:=Hd hg6;have HML:=Hd hM7.own_;clear ho6 hr6 hn6 hd6 hg6 hM7;obtain⟨_,csB,eB,_,O3,_⟩:=HML.o.1.own (by simp;omega);injection eB with eB;injection eB with eB;subst eB;have ey2:(t.fs.set k {y with s:=za})[k]?=some {y with s:=za}:=set_eq hkl;have hm6:=HML.o.1.frp ey2 zb;have ho6:=HO.o.far (p:=⟨g2,k*5+2,none⟩) (u:=.int .i64 zb) hgb2;have hr6:=HR.o.far (p:=⟨g2,k*5+2,none⟩) (u:=.int .i64 zb) hrb2;have hn6:=row_set (g:=g2) (i:=k*5+2) (u:=.int .i64 zb) HN.o O3 (by decide);have hd6:=rdr_far (b:=g2) (i:=k*5+2) (u:=.int .i64 zb) HRD.o hgg (by omega);have hg6:=g_set (b:=g2) (i:=k*5+2) (u:=.int .i64 zb) (by omega) HGR.o;have hM7:SlM frE 80 (w.heap.size+2) _ (.slice (some ⟨g2,0,none⟩) t.fs.length c2) ((t.fs.set k {y with s:=za}).set k {y with s:=za,p:=zb}):=slm_of (by simp) (by simpa using HML.o.2.2.1) HML.o.2.2.2 hm6;clear HO HR HN HRD HGR HML O3 hm6;generalize hW6:(w5.setCell ⟨g2,k*5+1,none⟩ (.int .i64 za)).setCell ⟨g2,k*5+2,none⟩ (.int .i64 zb)=w6 at ho6 hr6 hM7 hn6 hd6 hg6⊢;have HO:=Hd ho6;have HR:=Hd hr6;have HM:=Hd hM7;have HN:=Hd hn6;have HRD:=Hd hd6;have HGR:=Hd hg6;clear ho6 hr6 hM7 hn6 hd6 hg6;have HMB:=Hd (slm_own (l:=t.bs) rfl HN.o);have HL1:Hi (1≤t.bs.length):=hb1;have HL2:Hi (t.bs.length≤t.bs.length+1):=Nat.le_succ _
      have HL3:Hi (((t.fs.set k {y with s:=za}).set k {y with s:=za,p:=zb}).length≤t.fs.length∧(Pgf t.fs→Pgf ((t.fs.set k {y with s:=za}).set k {y with s:=za,p:=zb}))):=⟨by simp,fun h=>pgf_set (y:={y with s:=za}) (by rw[List.getElem?_set,if_pos rfl,if_pos hkl]) (fun _=>HZB.o) (pgf_set HEY.o id h)⟩
      clear d0 zf zf0 zf1 zf2 y0 y1 y2 y3 y4 ey2;have r0:=HR.c 0 (.slice none 0 0) rfl;have r1:=HR.c 1 (.slice none 0 0) rfl;have f0:=HR.o.free 0;have f1:=HR.o.free 1;have hlr:=HR.o.lt;have o0:=HO.c 0 (.slice A1 t.bs.length c1) rfl;have o1:=HO.c 1 (.slice (some ⟨g2,0,none⟩) t.fs.length c2) rfl;have hlo:=HO.o.lt;try go_wp2
      have hA:=HR.o.set_ 0 (.slice A1 t.bs.length c1);have o3:=hA.set_ 1 (.slice (some ⟨g2,0,none⟩) t.fs.length c2);have t0:=o3.cell_ 0 (v:=.slice A1 t.bs.length c1) rfl;have t1:=o3.cell_ 1 (v:=.slice (some ⟨g2,0,none⟩) t.fs.length c2) rfl;refine bodyPost_ret (v:=.agg #[.slice A1 t.bs.length c1,.slice (some ⟨g2,0,none⟩) t.fs.length c2]) (by simp[results,Tryz.results188,go_sem,t0,t1]) rfl ?_;refine⟨_,rfl,⟨t.bs,((t.fs.set k {y with s:=za}).set k {y with s:=za,p:=zb})⟩,_,_,_,rfl,⟨?_, ?_⟩, ?_, ?_, ?_,HL3.o.2,rdr_set1 (by omega) (rdr_set1 (by omega) HRD.o),by omega,g_set (by omega) (g_set (by omega) HGR.o)⟩
      · exact((HMB.o.farT HR.o (i:=0) (by decide)).farT hA (i:=1) (by decide)).mono (by omega)
      · exact((HM.o.farT HR.o (i:=0) (by decide)).farT hA (i:=1) (by decide)).mono (by omega)
      · show 1≤List.length t.bs
        exact HL1.o
      · show List.length t.bs≤_
        exact HL2.o
      · show List.length ((t.fs.set k {y with s:=za}).set k {y with s:=za,p:=zb})≤_
        exact HL3.o.1
  have e3:(x == 3)=false:=by rw[beq_eq_false_iff_ne];exact hx
  clear hx;by_cases hx:x=4
  · have e4:(x == 4)=true:=by rw[beq_iff_eq];exact hx
    clear hx;have hsz4:w.heap.size+2≤w4.heap.size:=by have:=HO.o.lt;omega
    obtain⟨v7,w7,hrun,hown7,hg7,_⟩:=run_append_i (w.heap.size+2) w4 (.slice A1 t.bs.length c1) t.bs.length t.bs (-1) HN.o rfl (by omega) hsz4;have hbl:∀b,(Value.slice A1 t.bs.length c1).ownBlock=some b→w.heap.size+2≤b:=own_block HN.o
    have hgb0:some gb≠(Value.slice A1 t.bs.length c1).ownBlock:=by
      rcases own_ne HN.o HO.o (by decide)with h | h
      · rw[h];simp
      · exact fun e=>h e.symm
    have hrr0:some (w.heap.size+1)≠(Value.slice A1 t.bs.length c1).ownBlock:=fun h=>by have:=hbl _ h.symm;omega
    have hgr0:some g≠(Value.slice A1 t.bs.length c1).ownBlock:=fun h=>by have:=hbl g h.symm;omega
    have ho7:=own_other (HO.o.alloc (o:=.cells #[.int .i64 (-1)] 3)) hg7 hgb0;have hr7:=own_other (HR.o.alloc (o:=.cells #[.int .i64 (-1)] 3)) hg7 hrr0;have hd7:=rdr_row (rdr_alloc HRD.o (.cells #[.int .i64 (-1)] 3)) hg7 hgr0 (fun j hj=>by have:=hbl j hj;omega);have hgr7:=gG (gT HGR.o (gr_below (g:=g) (bA (bR (w:=w4)) (o:=.cells #[.int .i64 (-1)] 3)))) hg7 (fun j hj=>by have:=hbl j hj;omega)
    have hm7:SlM frE 80 (w.heap.size+2) w7 (.slice (some ⟨g2,0,none⟩) t.fs.length c2) t.fs:=by
      refine(HM.o.now (bA bR (o:=.cells #[.int .i64 (-1)] 3))).oth (p:=fun e=>e=3) ⟨hg7.size,fun g e cs h hn=>own_other h hg7 ?_⟩ (by decide);intro h';rcases own_ne (HN.o.alloc (.cells #[.int .i64 (-1)] 3)) h (fun h2=>hn h2.symm)with h2 | h2
      · rw[h2]at h';cases h'
      · exact h2 h'.symm
    have hn7:(t.bs++[(-1:Int)]).length=t.bs.length+1:=by simp
    have hmb7:=slm_own (l:=t.bs++[-1]) hn7.symm hown7;obtain⟨A7,c7,rfl,_⟩:=own_rd hown7;have s0:=ho7.cell_ 0 (v:=.slice A1 t.bs.length c1) rfl;have s1:=ho7.cell_ 1 (v:=.slice (some ⟨g2,0,none⟩) t.fs.length c2) rfl;have f7:=ho7.free 0;have p0:=hr7.cell_ 0 (v:=.slice none 0 0) rfl;have p1:=hr7.cell_ 1 (v:=.slice none 0 0) rfl;have pf0:=hr7.free 0;have pf1:=hr7.free 1;have hlp:=hr7.lt;have hl7:=ho7.lt;have q0:=HO.c 0 (.slice A1 t.bs.length c1) rfl;have ho8:=ho7.set_ 0 (.slice A7 (t.bs.length+1) c7);have hr8:=hr7.far (p:=⟨gb,0,none⟩) (u:=.slice A7 (t.bs.length+1) c7) (by show w.heap.size+1≠gb;omega);have hd8:=rdr_set1 (b:=gb) (i:=0) (u:=.slice A7 (t.bs.length+1) c7) (by omega) hd7;have hg8:=g_set (b:=gb) (i:=0) (u:=.slice A7 (t.bs.length+1) c7) (by omega) hgr7;have hm8:=hm7.farT ho7 (i:=0) (u:=.slice A7 (t.bs.length+1) c7) (by decide);have hmb8:=hmb7.farT ho7 (i:=0) (u:=.slice A7 (t.bs.length+1) c7) (by decide);clear HO HR HM HN HRD HGR;have HO:Hi (Own _ gb 26 #[.slice A7 (t.bs.length+1) c7,.slice (some ⟨g2,0,none⟩) t.fs.length c2]):=ho8;have HR:=Hd hr8;have HRD:=Hd hd8;have HGR:=Hd hg8;have HM:=Hd hm8;have HMB:=Hd hmb8;have HL1:Hi (1≤(t.bs++[(-1:Int)]).length):=by show _≤_;simp
    have HL2:Hi ((t.bs++[(-1:Int)]).length≤t.bs.length+1):=by show _≤_;simp
    clear ho8 hr8 hd8 hg8 hm8 hmb8 ho7 hr7 hd7 hgr7 hm7 hmb7 hown7 hg7 hgr0 hrr0 hgb0 hbl hn7
    go_wp2_with (at_builtin;refine wpList_append_run _ rfl (.tmp 66) (.tmp 67) 23 rfl _ _ _ _ rfl rfl hrun ?_)
    generalize hW8:w7.setCell ⟨gb,0,none⟩ (.slice A7 (t.bs.length+1) c7)=w8 at HO HR HRD HGR HM HMB⊢;clear s0 s1 f7 hl7 q0 hrun p0 p1 pf0 pf1 hlp;have r0:=HR.c 0 (.slice none 0 0) rfl;have r1:=HR.c 1 (.slice none 0 0) rfl;have f0:=HR.o.free 0;have f1:=HR.o.free 1;have hlr:=HR.o.lt;have o0:=HO.c 0 (.slice A7 (t.bs.length+1) c7) rfl;have o1:=HO.c 1 (.slice (some ⟨g2,0,none⟩) t.fs.length c2) rfl;have hlo:=HO.o.lt;try go_wp2
    have hA:=HR.o.set_ 0 (.slice A7 (t.bs.length+1) c7);have o3:=hA.set_ 1 (.slice (some ⟨g2,0,none⟩) t.fs.length c2);have t0:=o3.cell_ 0 (v:=.slice A7 (t.bs.length+1) c7) rfl;have t1:=o3.cell_ 1 (v:=.slice (some ⟨g2,0,none⟩) t.fs.length c2) rfl;refine bodyPost_ret (v:=.agg #[.slice A7 (t.bs.length+1) c7,.slice (some ⟨g2,0,none⟩) t.fs.length c2]) (by simp[results,Tryz.results188,go_sem,t0,t1]) rfl ?_;refine⟨_,rfl,⟨(t.bs++[-1]),t.fs⟩,_,_,_,rfl,⟨?_, ?_⟩, ?_, ?_, ?_,HL3.o.2,rdr_set1 (by omega) (rdr_set1 (by omega) HRD.o),by omega,g_set (by omega) (g_set (by omega) HGR.o)⟩
    · exact((HMB.o.farT HR.o (i:=0) (by decide)).farT hA (i:=1) (by decide)).mono (by omega)
    · exact((HM.o.farT HR.o (i:=0) (by decide)).farT hA (i:=1) (by decide)).mono (by omega)
    · show 1≤List.length (t.bs++[-1])
      exact HL1.o
    · show List.length (t.bs++[-1])≤_
      exact HL2.o
    · show List.length t.fs≤_
      exact HL3.o.1
  have e4:(x == 4)=false:=by rw[beq_eq_false_iff_ne];exact hx
  clear hx;by_cases hx:x=5
  · have e5:(x == 5)=true:=by rw[beq_iff_eq];exact hx
    clear hx;have o1:=HO.c 1 (.slice (some ⟨g2,0,none⟩) t.fs.length c2) rfl;have of:=HO.o.free 1;have hl5:=HO.o.lt;have ho5:=HO.o.alloc (o:=.cells #[] 80);have ho6:=ho5.set_ 1 (.slice (some ⟨w4.heap.size,0,none⟩) 0 0);have hr6:=(HR.o.alloc (o:=.cells #[] 80)).far (p:=⟨gb,1,none⟩) (u:=.slice (some ⟨w4.heap.size,0,none⟩) 0 0) (by show w.heap.size+1≠gb;omega);have hd6:=rdr_set1 (b:=gb) (i:=1) (u:=.slice (some ⟨w4.heap.size,0,none⟩) 0 0) (by omega) (rdr_below HRD.o (bA bR (o:=.cells #[] 80)));have hg6:=g_set (b:=gb) (i:=1) (u:=.slice (some ⟨w4.heap.size,0,none⟩) 0 0) (by omega) (gT HGR.o (gr_below (g:=g) (bA bR (o:=.cells #[] 80))));have hn6:=row_set (g:=gb) (i:=1) (u:=.slice (some ⟨w4.heap.size,0,none⟩) 0 0) (HN.o.alloc (.cells #[] 80)) ho5 (by decide);have f5:=ho5.free 1;have c5:=ho5.cell_ 1 (v:=.slice (some ⟨g2,0,none⟩) t.fs.length c2) rfl;have hl6:=ho5.lt;generalize hW6:(w4.alloc (.cells #[] 80)).setCell ⟨gb,1,none⟩ (.slice (some ⟨w4.heap.size,0,none⟩) 0 0)=w6 at ho6 hr6 hd6 hg6 hn6;generalize hga:w4.heap.size=ga at*
    have hm6:SlM frE 80 (w.heap.size+2) w6 (.slice (some ⟨ga,0,none⟩) 0 0) []:=⟨_,0,rfl,Nat.le_refl _,by simp[maxLen],MineE.nil_ _⟩
    clear HO HR HM HN HRD HGR ho5;have HO:Hi (Own w6 gb 26 #[.slice A1 t.bs.length c1,.slice (some ⟨ga,0,none⟩) 0 0]):=ho6;have HR:=Hd hr6;have HM:=Hd hm6;have HN:=Hd hn6;have HRD:=Hd hd6;have HGR:=Hd hg6
    have HL3:Hi (([]:List Fr).length≤t.fs.length∧(Pgf t.fs→Pgf [])):=⟨by simp,fun _ f h=>by cases h⟩
    clear ho6 hr6 hm6 hn6 hd6 hg6;have HMB:=Hd (slm_own (l:=t.bs) rfl HN.o);have HL1:Hi (1≤t.bs.length):=hb1;have HL2:Hi (t.bs.length≤t.bs.length+1):=Nat.le_succ _;have r0:=HR.c 0 (.slice none 0 0) rfl;have r1:=HR.c 1 (.slice none 0 0) rfl;have f0:=HR.o.free 0;have f1:=HR.o.free 1;have hlr:=HR.o.lt;have o0:=HO.c 0 (.slice A1 t.bs.length c1) rfl;have o1:=HO.c 1 (.slice (some ⟨ga,0,none⟩) 0 0) rfl;have hlo:=HO.o.lt;try go_wp2
    have hA:=HR.o.set_ 0 (.slice A1 t.bs.length c1);have o3:=hA.set_ 1 (.slice (some ⟨ga,0,none⟩) 0 0);have t0:=o3.cell_ 0 (v:=.slice A1 t.bs.length c1) rfl;have t1:=o3.cell_ 1 (v:=.slice (some ⟨ga,0,none⟩) 0 0) rfl;refine bodyPost_ret (v:=.agg #[.slice A1 t.bs.length c1,.slice (some ⟨ga,0,none⟩) 0 0]) (by simp[results,Tryz.results188,go_sem,t0,t1]) rfl ?_;refine⟨_,rfl,⟨t.bs,([]:List Fr)⟩,_,_,_,rfl,⟨?_, ?_⟩, ?_, ?_, ?_,HL3.o.2,rdr_set1 (by omega) (rdr_set1 (by omega) HRD.o),by omega,g_set (by omega) (g_set (by omega) HGR.o)⟩
    · exact((HMB.o.farT HR.o (i:=0) (by decide)).farT hA (i:=1) (by decide)).mono (by omega)
    · exact((HM.o.farT HR.o (i:=0) (by decide)).farT hA (i:=1) (by decide)).mono (by omega)
    · show 1≤List.length t.bs
      exact HL1.o
    · show List.length t.bs≤_
      exact HL2.o
    · show List.length ([]:List Fr)≤_
      exact HL3.o.1
  have e5:(x == 5)=false:=by rw[beq_eq_false_iff_ne];exact hx
  clear hx;have HMB:=Hd (slm_own (l:=t.bs) rfl HN.o);have HL1:Hi (1≤t.bs.length):=hb1;have HL2:Hi (t.bs.length≤t.bs.length+1):=Nat.le_succ _;have r0:=HR.c 0 (.slice none 0 0) rfl;have r1:=HR.c 1 (.slice none 0 0) rfl;have f0:=HR.o.free 0;have f1:=HR.o.free 1;have hlr:=HR.o.lt;have o0:=HO.c 0 (.slice A1 t.bs.length c1) rfl;have o1:=HO.c 1 (.slice (some ⟨g2,0,none⟩) t.fs.length c2) rfl;have hlo:=HO.o.lt;try go_wp2
  have hA:=HR.o.set_ 0 (.slice A1 t.bs.length c1);have o3:=hA.set_ 1 (.slice (some ⟨g2,0,none⟩) t.fs.length c2);have t0:=o3.cell_ 0 (v:=.slice A1 t.bs.length c1) rfl;have t1:=o3.cell_ 1 (v:=.slice (some ⟨g2,0,none⟩) t.fs.length c2) rfl;refine bodyPost_ret (v:=.agg #[.slice A1 t.bs.length c1,.slice (some ⟨g2,0,none⟩) t.fs.length c2]) (by simp[results,Tryz.results188,go_sem,t0,t1]) rfl ?_;refine⟨_,rfl,⟨t.bs,t.fs⟩,_,_,_,rfl,⟨?_, ?_⟩, ?_, ?_, ?_,HL3.o.2,rdr_set1 (by omega) (rdr_set1 (by omega) HRD.o),by omega,g_set (by omega) (g_set (by omega) HGR.o)⟩
  · exact((HMB.o.farT HR.o (i:=0) (by decide)).farT hA (i:=1) (by decide)).mono (by omega)
  · exact((HM.o.farT HR.o (i:=0) (by decide)).farT hA (i:=1) (by decide)).mono (by omega)
  · show 1≤List.length t.bs
    exact HL1.o
  · show List.length t.bs≤_
    exact HL2.o
  · show List.length t.fs≤_
    exact HL3.o.1
end Go.Proofs.YtfbnokjdkhcgoaaGreatDoor
