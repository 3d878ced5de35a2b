/- A part of the proofs of this seat. -/
import Derived.Deep.RegionHeldLaw
import Derived.StillTailTactics
import Derived.Test.YtfbnokjdkhcgoaaGreatDoorCEntP
set_option linter.unusedVariables false
set_option linter.unusedSimpArgs false
set_option maxRecDepth 1000000
set_option maxHeartbeats 16000000
namespace Go.Proofs.YtfbnokjdkhcgoaaGreatDoor
open Go.RowKit
theorem num_lit(B g p:Nat)(zs:List Int)(w:World)(cs:Array Value)(n:Nat)(hcs:cs=(zs.map (Value.int .i64)).toArray)(hn:n=zs.length)(h:Rdr B w g p)(hp:p≤1000000)(h1:1≤zs.length)(h2:zs.length≤1000):
  Calls Tryz.prog 47 #[.pointer (some ⟨g,0,none⟩),.slice (some ⟨w.heap.size,0,none⟩) n n] (w.alloc (.cells cs 3)) (fun e w'=>∃r:Int,e=.returned (.int .i64 r)∧r∈zs∧Rdr B w' g (p+1)∧w.grownBy w' (some g)):=by
 subst hcs hn;refine(num_any B g p w.heap.size zs _ (rdr_alloc h _) (Own.new_ w _ _) (by have:=rdr_lt h;omega) hp h1 h2).mono ?_;rintro e w' ⟨r,rfl,hr,hrd,hg⟩;exact⟨r,rfl,hr,hrd,gT (gA gR) hg⟩
theorem SlM.gr{α:Type}{E:Enc α}{e:TypeId}{B B':Nat}{w w':World}{g p:Nat}{v:Value}{l:List α}(h:SlM E e B w v l)(hr:Rdr B' w g p)(hg:w.grownBy w' (some g))(hne:139≠e):SlM E e B w' v l:=by
 obtain⟨A,n,c,ho,_⟩:=hr.ok;exact h.oth (oth_gr hg ho) (fun h=>hne h.symm)
theorem MineE.lnv{e:TypeId}{B:Nat}{w:World}{g:Nat}{l:List Ln}(h:MineE lnE e B w (some ⟨g,0,none⟩) l){k:Nat}{x:Ln}(hk:l[k]?=some x)(b:Bool):
  MineE lnE e B (w.setCell ⟨g,k*6+0,none⟩ (.bool b)) (some ⟨g,0,none⟩) (l.set k {x with v:=b}):=by
 refine h.wcell hk {x with v:=b} 0 (.bool b) (by decide) (fun j u hj=> ?_);simp only[lnE]at hj⊢
 match j,hj with
 | 0,hj=>simp at hj;exact .inl ⟨rfl,hj.symm⟩
 | 1,hj=>exact .inr ⟨by decide,hj⟩
 | 2,hj=>exact .inr ⟨by decide,hj⟩
 | 3,hj=>exact .inr ⟨by decide,hj⟩
 | 4,hj=>exact .inr ⟨by decide,hj⟩
 | 5,hj=>exact .inr ⟨by decide,hj⟩
 | j+6,hj=>simp at hj
theorem MineE.lnt{e:TypeId}{B:Nat}{w:World}{g:Nat}{l:List Ln}(h:MineE lnE e B w (some ⟨g,0,none⟩) l){k:Nat}{x:Ln}(hk:l[k]?=some x)(b:Int):
  MineE lnE e B (w.setCell ⟨g,k*6+1,none⟩ (.int .i64 b)) (some ⟨g,0,none⟩) (l.set k {x with t:=b}):=by
 refine h.wcell hk {x with t:=b} 1 (.int .i64 b) (by decide) (fun j u hj=> ?_);simp only[lnE]at hj⊢
 match j,hj with
 | 0,hj=>exact .inr ⟨by decide,hj⟩
 | 1,hj=>simp at hj;exact .inl ⟨rfl,hj.symm⟩
 | 2,hj=>exact .inr ⟨by decide,hj⟩
 | 3,hj=>exact .inr ⟨by decide,hj⟩
 | 4,hj=>exact .inr ⟨by decide,hj⟩
 | 5,hj=>exact .inr ⟨by decide,hj⟩
 | j+6,hj=>simp at hj
theorem MineE.lnp{e:TypeId}{B:Nat}{w:World}{g:Nat}{l:List Ln}(h:MineE lnE e B w (some ⟨g,0,none⟩) l){k:Nat}{x:Ln}(hk:l[k]?=some x)(b:Int):
  MineE lnE e B (w.setCell ⟨g,k*6+2,none⟩ (.int .i64 b)) (some ⟨g,0,none⟩) (l.set k {x with p:=b}):=by
 refine h.wcell hk {x with p:=b} 2 (.int .i64 b) (by decide) (fun j u hj=> ?_);simp only[lnE]at hj⊢
 match j,hj with
 | 0,hj=>exact .inr ⟨by decide,hj⟩
 | 1,hj=>exact .inr ⟨by decide,hj⟩
 | 2,hj=>simp at hj;exact .inl ⟨rfl,hj.symm⟩
 | 3,hj=>exact .inr ⟨by decide,hj⟩
 | 4,hj=>exact .inr ⟨by decide,hj⟩
 | 5,hj=>exact .inr ⟨by decide,hj⟩
 | j+6,hj=>simp at hj
theorem rdr_far{B:Nat}{w:World}{g p b i:Nat}{u:Value}(h:Rdr B w g p)(hne:g≠b)(hB:B≤b):Rdr B (w.setCell ⟨b,i,none⟩ u) g p:=by
 obtain⟨Ar,nr,cr,hor,hby,hn,hBg⟩:=h.ok;exact⟨Ar,nr,cr,hor.far hne,hby.keep fun q hq=>World.cell?_setCell_other w ⟨b,i,none⟩ q _ (fun e=>by subst e;exact absurd hq (by simp;omega)),hn,hBg⟩
def W4P(B g q:Nat)(c:Ca)(w:World)(v:Value)(w':World):Prop:=∃(c':Ca) (v1:Value) (p:Nat),v=.agg #[v1,.int .i64 c'.hand]∧SlM lnE 50 B w' v1 c'.ls∧c'.ls.length≤c.ls.length∧Rdr B w' g p∧p≤q+3∧w.grownBy w' (some g)
theorem l4Wrong_any (B g q:Nat) (vl:Value) (c:Ca) (w:World) (hrd:Rdr B w g q) (hq:q≤900000) (hT:SlM lnE 50 B w vl c.ls) (hl:c.ls.length≤1000) (hBw:B≤w.heap.size):
    Calls Tryz.prog 187 #[.pointer (some ⟨g,0,none⟩),.agg #[vl,.int .i64 c.hand]] w (Post2 fun v w'=>W4P B g q c w v w'):=by
  have hgw:=rdr_lt hrd;have HT:=Hd hT;obtain⟨A,cc,rfl,_⟩:=hT;have hbx:=(Own.new_ w 29 #[.slice A c.ls.length cc,.int .i64 c.hand]).alloc (o:=.cells #[.slice none 0 0,.int .i64 0] 29);have hbo:=ownAt (W:=w.alloc (.cells #[.slice A c.ls.length cc,.int .i64 c.hand] 29)) (g:=w.heap.size+1) (t:=29) (cs:=#[.slice none 0 0,.int .i64 0]) (by simp);have hb0:Below w.heap.size w ((w.alloc (.cells #[.slice A c.ls.length cc,.int .i64 c.hand] 29)).alloc (.cells #[.slice none 0 0,.int .i64 0] 29)):=bA (bA bR);have hs0:((w.alloc (.cells #[.slice A c.ls.length cc,.int .i64 c.hand] 29)).alloc (.cells #[.slice none 0 0,.int .i64 0] 29)).heap.size=w.heap.size+2:=by simp
  generalize hW:(w.alloc (.cells #[.slice A c.ls.length cc,.int .i64 c.hand] 29)).alloc (.cells #[.slice none 0 0,.int .i64 0] 29)=W0 at hbx hbo hb0 hs0;have q0:=hbx.cell_ 0 (v:=.slice A c.ls.length cc) rfl;have q1:=hbx.cell_ 1 (v:=.int .i64 c.hand) rfl;have HR0:=Hd hbo;have HB0:=Hd hb0;have HRD0:=Hd (rdr_below hrd hb0);clear hbx hbo hb0 hrd
  go_enter Tryz.func187,Tryz.ntmps187
  go_wp2_with fail
  refine(l4Copy_any _ c _ (HT.o.r.now HB0.o) (by omega)).mono ?_;rintro e w1 ⟨_,rfl,v1,rfl,hM1,hb1⟩;clear q0 q1;have hM1':=hM1;obtain⟨A2,c2,rfl,_⟩:=hM1';have ho2:=Own.new_ w1 29 #[.slice A2 c.ls.length c2,.int .i64 c.hand];have hb2:Below w1.heap.size w1 (w1.alloc (.cells #[.slice A2 c.ls.length c2,.int .i64 c.hand] 29)):=bA bR;generalize hW2:w1.alloc (.cells #[.slice A2 c.ls.length c2,.int .i64 c.hand] 29)=w2 at ho2 hb2;have HM:=Hd ((hM1.now hb2).mono (show w.heap.size+2≤W0.heap.size by omega));have HO:=Hd ho2;have HR:=Hd ((HR0.o.below hb1).below hb2);have HRD:=Hd (rdr_below (rdr_below HRD0.o hb1) hb2);have HGR:=Hd (gr_below (g:=g) (bT (bT HB0.o hb1) hb2));have hgt:w.heap.size+2≤w1.heap.size:=by have:=hb1.size;omega
  have o0:=HO.c 0 (.slice A2 c.ls.length c2) rfl;have o1:=HO.c 1 (.int .i64 c.hand) rfl;have hlo:=HO.o.lt;clear hM1 hb1 ho2 hb2 HR0 HB0 HRD0 HT;generalize hgb:w1.heap.size=gb at*;by_cases hz:c.ls.length=0
  · have hzi:((c.ls.length:Int) == 0)=true:=by rw[beq_iff_eq];omega
    clear hz;have r0:=HR.c 0 (.slice none 0 0) rfl;have r1:=HR.c 1 (.int .i64 0) rfl;have f0:=HR.o.free 0;have f1:=HR.o.free 1;have hlr:=HR.o.lt;have o0:=HO.c 0 (.slice A2 c.ls.length c2) rfl;have o1:=HO.c 1 (.int .i64 c.hand) rfl;have hlo:=HO.o.lt;go_wp2;have o3:=(HR.o.set_ 0 (.slice A2 c.ls.length c2)).set_ 1 (.int .i64 c.hand);have t0:=o3.cell_ 0 (v:=.slice A2 c.ls.length c2) rfl;have t1:=o3.cell_ 1 (v:=.int .i64 c.hand) rfl;refine bodyPost_ret (v:=.agg #[.slice A2 c.ls.length c2,.int .i64 c.hand]) (by simp[results,Tryz.results187,go_sem,t0,t1]) rfl ?_;refine⟨_,rfl,⟨c.ls,c.hand⟩,_,_,rfl, ?_, ?_,rdr_set1 (by omega) (rdr_set1 (by omega) HRD.o),by omega,g_set (by omega) (g_set (by omega) HGR.o)⟩
    · exact((HM.o.farT HR.o (i:=0) (by decide)).farT (HR.o.set_ 0 _) (i:=1) (by decide)).mono (by omega)
    · show List.length c.ls≤_
      simp
  have hzi:((c.ls.length:Int) == 0)=false:=by rw[beq_eq_false_iff_ne];omega
  go_wp2_with fail
  refine(pick_any B g q c.ls.length w2 HRD.o (by omega) (by omega)).mono ?_;rintro e w3 ⟨k,rfl,hk0,hk1,hrd,hg⟩;have hk2:=hk1 (by omega);obtain⟨k,rfl⟩:=Int.eq_ofNat_of_zero_le hk0;have hkl:k<c.ls.length:=by omega
  have ho3:=own_gr HO.o hg (by have:=rdr_lt HRD.o;omega);have hr3:=own_gr HR.o hg (by have:=rdr_lt HRD.o;omega);have hm3:=HM.o.gr HRD.o hg (by decide);have hgr3:=gT HGR.o hg;clear HO HR HM HRD HGR;have HO:=Hd ho3;have HR:=Hd hr3;have HM:=Hd hm3;have HRD:=Hd hrd;have HGR:=Hd hgr3;clear ho3 hr3 hm3 hgr3 hrd hg;clear hk0 hk1 hk2 o0 o1 hlo hW2 hW;go_wp2_with fail
  refine(pick_any B g (q+1) 24 w3 HRD.o (by omega) (by omega)).mono ?_;rintro e w4 ⟨x,rfl,hx0,hx1,hrd,hg⟩;have ho4:=own_gr HO.o hg (by have:=rdr_lt HRD.o;omega);have hr4:=own_gr HR.o hg (by have:=rdr_lt HRD.o;omega);have hm4:=HM.o.gr HRD.o hg (by decide);have hgr4:=gT HGR.o hg;clear HO HR HM HRD HGR;have HO:=Hd ho4;have HR:=Hd hr4;have HM:=Hd hm4;have HRD:=Hd hrd;have HGR:=Hd hgr4;clear ho4 hr4 hm4 hgr4 hrd hg;clear hx0 hx1
  obtain⟨y,ey⟩:∃y,c.ls[k]?=some y:=⟨_,List.getElem?_eq_getElem hkl⟩
  have HML:=Hd HM.o.own_;obtain⟨g2,cs2,hA2,hg2,O2,_⟩:=HML.o.1.own (by omega);subst hA2
  have hgg:g≠g2:=by
    obtain⟨Ar,nr,cr,hor,_⟩:=HRD.o.ok;exact hor.ne O2 (by decide)
  have hgb2:gb≠g2:=HO.o.ne O2 (by decide);have hrb2:w.heap.size+1≠g2:=HR.o.ne O2 (by decide);by_cases hx:x=0
  · have e0:(x == 0)=true:=by rw[beq_iff_eq];exact hx
    clear hx;have o0:=HO.c 0 (.slice (some ⟨g2,0,none⟩) c.ls.length c2) rfl;have o1:=HO.c 1 (.int .i64 c.hand) rfl;go_wp2_with fail
    refine(num_lit B g (q+1+1) [-1,8,0] w4 _ _ rfl rfl HRD.o (by omega) (by simp) (by simp)).mono ?_;rintro e w5 ⟨z,rfl,hz5,hrd,hg⟩;clear o0 o1 O2;have ho5:=own_gr HO.o hg (by have:=rdr_lt HRD.o;omega);have hr5:=own_gr HR.o hg (by have:=rdr_lt HRD.o;omega);have hm5:=HM.o.gr HRD.o hg (by decide);have hgr5:=gT HGR.o hg;clear HO HR HM HRD HGR;have HO:=Hd ho5;have HR:=Hd hr5;have HM:=Hd hm5;have HRD:=Hd hrd;have HGR:=Hd hgr5;clear ho5 hr5 hm5 hgr5 hrd hg;have p1:=HO.c 1 (.int .i64 c.hand) rfl;have pf:=HO.o.free 1;have hl5:=HO.o.lt;have ho6:=HO.o.set_ 1 (.int .i64 z);have hr6:=HR.o.far (p:=⟨gb,1,none⟩) (u:=.int .i64 z) (by show w.heap.size+1≠gb;omega);have hm6:=HM.o.farT HO.o (i:=1) (u:=.int .i64 z) (by decide);have hd6:=rdr_set1 (b:=gb) (i:=1) (u:=.int .i64 z) (by omega) HRD.o;have hg6:=g_set (b:=gb) (i:=1) (u:=.int .i64 z) (by omega) HGR.o;generalize hW6:w5.setCell ⟨gb,1,none⟩ (.int .i64 z)=w6 at ho6 hr6 hm6 hd6 hg6;clear HO HR HM HRD HGR;have HO:Hi (Own w6 gb 29 #[.slice (some ⟨g2,0,none⟩) c.ls.length c2,.int .i64 z]):=ho6;have HR:=Hd hr6;have HM:=Hd hm6;have HRD:=Hd hd6;have HGR:=Hd hg6;clear ho6 hr6 hm6 hd6 hg6;have r0:=HR.c 0 (.slice none 0 0) rfl;have r1:=HR.c 1 (.int .i64 0) rfl;have f0:=HR.o.free 0;have f1:=HR.o.free 1;have hlr:=HR.o.lt;have o0:=HO.c 0 (.slice (some ⟨g2,0,none⟩) c.ls.length c2) rfl;have o1:=HO.c 1 (.int .i64 z) rfl;have hlo:=HO.o.lt;go_wp2;have o3:=(HR.o.set_ 0 (.slice (some ⟨g2,0,none⟩) c.ls.length c2)).set_ 1 (.int .i64 z);have t0:=o3.cell_ 0 (v:=.slice (some ⟨g2,0,none⟩) c.ls.length c2) rfl;have t1:=o3.cell_ 1 (v:=.int .i64 z) rfl;refine bodyPost_ret (v:=.agg #[.slice (some ⟨g2,0,none⟩) c.ls.length c2,.int .i64 z]) (by simp[results,Tryz.results187,go_sem,t0,t1]) rfl ?_;refine⟨_,rfl,⟨c.ls,z⟩,_,_,rfl, ?_, ?_,rdr_set1 (by omega) (rdr_set1 (by omega) HRD.o),by omega,g_set (by omega) (g_set (by omega) HGR.o)⟩
    · exact((HM.o.farT HR.o (i:=0) (by decide)).farT (HR.o.set_ 0 _) (i:=1) (by decide)).mono (by omega)
    · show List.length c.ls≤_
      simp
  have e0:(x == 0)=false:=by rw[beq_eq_false_iff_ne];exact hx
  clear hx;by_cases hx:x=1
  · have e1:(x == 1)=true:=by rw[beq_iff_eq];exact hx
    clear hx;have hki:(0:Int)≤(k:Int):=by omega
    clear HML O2;go_wp2;have hhd:=Hd (bD (bR (w:=w4)));have HO5:=Hd HO.o.drew;have HR5:=Hd HR.o.drew;have HM5:=Hd (HM.o.now (bD bR));have HRD5:=Hd (rdr_below HRD.o (bD bR));have HGR5:=Hd (gT HGR.o (gr_below (g:=g) (bD (bR (w:=w4)))));have o0:=HO.c 0 (.slice (some ⟨g2,0,none⟩) c.ls.length c2) rfl;have HML:=Hd HM.o.own_;obtain⟨bq,oq,eq1,_,y0,y1,y2,y3,y4,y5⟩:=HML.o.1.is.ln ey;injection eq1 with eq1;injection eq1 with eq1 eq2;subst eq1 eq2;rw[Nat.zero_add]at y0 y1 y2 y3 y4 y5;clear HML
    go_still_tail 12,(by kernel_rfl)
    clear o0 y0 y1 y2 y3 y4 y5 HO HR HM HRD HGR;change wpList _ _ _ _ _ w4.drew;generalize w4.drew=w5 at HO5 HR5 HM5 HRD5 HGR5⊢;have HO:=HO5;have HR:=HR5;have HM:=HM5;have HRD:=HRD5;have HGR:=HGR5;clear HO5 HR5 HM5 HRD5 HGR5;have HML:=Hd HM.o.own_;obtain⟨_,csB,eB,_,O3,_⟩:=HML.o.1.own (by omega);injection eB with eB;injection eB with eB;subst eB;have zf:=O3.free (k*6);obtain⟨bq,oq,eq1,_,y0,y1,y2,y3,y4,y5⟩:=HML.o.1.is.ln ey;injection eq1 with eq1;injection eq1 with eq1 eq2;subst eq1 eq2;rw[Nat.zero_add]at y0 y1 y2 y3 y4 y5;clear HML O3;have HML:=Hd HM.o.own_;obtain⟨_,csB,eB,_,O3,_⟩:=HML.o.1.own (by omega);injection eB with eB;injection eB with eB;subst eB;have hm6:=HML.o.1.lnv ey (!y.v);have ho6:=HO.o.far (p:=⟨g2,k*6+0,none⟩) (u:=.bool !y.v) hgb2;have hr6:=HR.o.far (p:=⟨g2,k*6+0,none⟩) (u:=.bool !y.v) hrb2;have hd6:=rdr_far (b:=g2) (i:=k*6+0) (u:=.bool !y.v) HRD.o hgg (by omega);have hg6:=g_set (b:=g2) (i:=k*6+0) (u:=.bool !y.v) (by omega) HGR.o;have HY:=Hd HML.o;rw[Nat.add_zero]at hm6 ho6 hr6 hd6 hg6;generalize hW6:w5.setCell ⟨g2,k*6,none⟩ (.bool !y.v)=w6 at hm6 ho6 hr6 hd6 hg6;have hM7:SlM lnE 50 (w.heap.size+2) w6 (.slice (some ⟨g2,0,none⟩) c.ls.length c2) (c.ls.set k {y with v:=!y.v}):=slm_of (by simp) (by simpa using HY.o.2.2.1) HY.o.2.2.2 hm6;clear HO HR HM HRD HGR HML O3;have HO:=Hd ho6;have HR:=Hd hr6;have HM:=Hd hM7;have HRD:=Hd hd6;have HGR:=Hd hg6;clear ho6 hr6 hm6 hd6 hg6 hM7;have r0:=HR.c 0 (.slice none 0 0) rfl;have r1:=HR.c 1 (.int .i64 0) rfl;have f0:=HR.o.free 0;have f1:=HR.o.free 1;have hlr:=HR.o.lt;have o0:=HO.c 0 (.slice (some ⟨g2,0,none⟩) c.ls.length c2) rfl;have o1:=HO.c 1 (.int .i64 c.hand) rfl;have hlo:=HO.o.lt;go_wp2;have o3:=(HR.o.set_ 0 (.slice (some ⟨g2,0,none⟩) c.ls.length c2)).set_ 1 (.int .i64 c.hand);have t0:=o3.cell_ 0 (v:=.slice (some ⟨g2,0,none⟩) c.ls.length c2) rfl;have t1:=o3.cell_ 1 (v:=.int .i64 c.hand) rfl;refine bodyPost_ret (v:=.agg #[.slice (some ⟨g2,0,none⟩) c.ls.length c2,.int .i64 c.hand]) (by simp[results,Tryz.results187,go_sem,t0,t1]) rfl ?_;refine⟨_,rfl,⟨(c.ls.set k {y with v:=!y.v}),c.hand⟩,_,_,rfl, ?_, ?_,rdr_set1 (by omega) (rdr_set1 (by omega) HRD.o),by omega,g_set (by omega) (g_set (by omega) HGR.o)⟩
    · exact((HM.o.farT HR.o (i:=0) (by decide)).farT (HR.o.set_ 0 _) (i:=1) (by decide)).mono (by omega)
    · show List.length (c.ls.set k {y with v:=!y.v})≤_
      simp
  have e1:(x == 1)=false:=by rw[beq_eq_false_iff_ne];exact hx
  clear hx;by_cases hx:x=2
  · have e2:(x == 2)=true:=by rw[beq_iff_eq];exact hx
    clear hx;clear HML O2;have o0:=HO.c 0 (.slice (some ⟨g2,0,none⟩) c.ls.length c2) rfl;have hki:(0:Int)≤(k:Int):=by omega
    go_wp2
    go_region_held_law (fun w'=>w'.cell? ⟨gb,0,none⟩=some (.slice (some ⟨g2,0,none⟩) c.ls.length c2)) (first | go_keep | (rw[World.cell?_setCell_other _ _ _ _ (by intro e;injection e with e1;first | exact hgb2 e1 | exact hgb2 e1.symm)];first | assumption | exact d0)) (first
      | (go_at_call 47
         refine(num_lit B g (q+1+1) [2,256,3] _ _ _ rfl rfl (rdr_below HRD.o (bD bR)) (by omega) (by simp) (by simp)).mono ?_;rintro _ w5 ⟨z,rfl,hz5,hrd,hgx⟩;have hg:=gT (gr_below (g:=g) (bD (bR (w:=w4)))) hgx;clear o0 hgx;have ho5:=own_gr HO.o hg (by have:=rdr_lt HRD.o;omega);have hr5:=own_gr HR.o hg (by have:=rdr_lt HRD.o;omega);have hm5:=HM.o.gr HRD.o hg (by decide);have hgr5:=gT HGR.o hg;clear HO HR HM HRD HGR;have HO:=Hd ho5;have HR:=Hd hr5;have HM:=Hd hm5;have HRD:=Hd hrd;have HGR:=Hd hgr5;clear ho5 hr5 hm5 hgr5 hrd hg;have d0:=HO.c 0 (.slice (some ⟨g2,0,none⟩) c.ls.length c2) rfl;have HML:=Hd HM.o.own_;obtain⟨_,csB,eB,_,O3,_⟩:=HML.o.1.own (by omega);injection eB with eB;injection eB with eB;subst eB;have zf:=O3.free (k*6+2);obtain⟨bq,oq,eq1,_,y0,y1,y2,y3,y4,y5⟩:=HML.o.1.is.ln ey;injection eq1 with eq1;injection eq1 with eq1 eq2;subst eq1 eq2;rw[Nat.zero_add]at y0 y1 y2 y3 y4 y5
         clear HML O3))
    all_goals
      have HML:=Hd HM.o.own_;obtain⟨_,csB,eB,_,O3,_⟩:=HML.o.1.own (by omega);injection eB with eB;injection eB with eB;subst eB;have hm6:=HML.o.1.lnp ey z;have ho6:=HO.o.far (p:=⟨g2,k*6+2,none⟩) (u:=.int .i64 z) hgb2;have hr6:=HR.o.far (p:=⟨g2,k*6+2,none⟩) (u:=.int .i64 z) hrb2;have hd6:=rdr_far (b:=g2) (i:=k*6+2) (u:=.int .i64 z) HRD.o hgg (by omega);have hg6:=g_set (b:=g2) (i:=k*6+2) (u:=.int .i64 z) (by omega) HGR.o;have HY:=Hd HML.o;generalize hW6:w5.setCell ⟨g2,k*6+2,none⟩ (.int .i64 z)=w6 at hm6 ho6 hr6 hd6 hg6⊢;have hM7:SlM lnE 50 (w.heap.size+2) w6 (.slice (some ⟨g2,0,none⟩) c.ls.length c2) (c.ls.set k {y with p:=z}):=slm_of (by simp) (by simpa using HY.o.2.2.1) HY.o.2.2.2 hm6;clear HO HR HM HRD HGR HML O3;have HO:=Hd ho6;have HR:=Hd hr6;have HM:=Hd hM7;have HRD:=Hd hd6;have HGR:=Hd hg6;clear ho6 hr6 hm6 hd6 hg6 hM7;clear d0 zf y0 y1 y2 y3 y4 y5;have r0:=HR.c 0 (.slice none 0 0) rfl;have r1:=HR.c 1 (.int .i64 0) rfl;have f0:=HR.o.free 0;have f1:=HR.o.free 1;have hlr:=HR.o.lt;have o0:=HO.c 0 (.slice (some ⟨g2,0,none⟩) c.ls.length c2) rfl;have o1:=HO.c 1 (.int .i64 c.hand) rfl;have hlo:=HO.o.lt;go_wp2;have o3:=(HR.o.set_ 0 (.slice (some ⟨g2,0,none⟩) c.ls.length c2)).set_ 1 (.int .i64 c.hand);have t0:=o3.cell_ 0 (v:=.slice (some ⟨g2,0,none⟩) c.ls.length c2) rfl;have t1:=o3.cell_ 1 (v:=.int .i64 c.hand) rfl;refine bodyPost_ret (v:=.agg #[.slice (some ⟨g2,0,none⟩) c.ls.length c2,.int .i64 c.hand]) (by simp[results,Tryz.results187,go_sem,t0,t1]) rfl ?_;refine⟨_,rfl,⟨(c.ls.set k {y with p:=z}),c.hand⟩,_,_,rfl, ?_, ?_,rdr_set1 (by omega) (rdr_set1 (by omega) HRD.o),by omega,g_set (by omega) (g_set (by omega) HGR.o)⟩
      · exact((HM.o.farT HR.o (i:=0) (by decide)).farT (HR.o.set_ 0 _) (i:=1) (by decide)).mono (by omega)
      · show List.length (c.ls.set k {y with p:=z})≤_
        simp
  have e2:(x == 2)=false:=by rw[beq_eq_false_iff_ne];exact hx
  clear hx;by_cases hx:x=3
  · have e3:(x == 3)=true:=by rw[beq_iff_eq];exact hx
    clear hx;clear HML O2;have o0:=HO.c 0 (.slice (some ⟨g2,0,none⟩) c.ls.length c2) rfl;have hki:(0:Int)≤(k:Int):=by omega
    go_wp2
    go_region_held_law (fun w'=>w'.cell? ⟨gb,0,none⟩=some (.slice (some ⟨g2,0,none⟩) c.ls.length c2)) (first | go_keep | (rw[World.cell?_setCell_other _ _ _ _ (by intro e;injection e with e1;first | exact hgb2 e1 | exact hgb2 e1.symm)];first | assumption | exact d0)) (first
      | (go_at_call 47
         refine(num_lit B g (q+1+1) [8,-2,0,-1] _ _ _ rfl rfl (rdr_below HRD.o (bD bR)) (by omega) (by simp) (by simp)).mono ?_;rintro _ w5 ⟨z,rfl,hz5,hrd,hgx⟩;have hg:=gT (gr_below (g:=g) (bD (bR (w:=w4)))) hgx;clear o0 hgx;have ho5:=own_gr HO.o hg (by have:=rdr_lt HRD.o;omega);have hr5:=own_gr HR.o hg (by have:=rdr_lt HRD.o;omega);have hm5:=HM.o.gr HRD.o hg (by decide);have hgr5:=gT HGR.o hg;clear HO HR HM HRD HGR;have HO:=Hd ho5;have HR:=Hd hr5;have HM:=Hd hm5;have HRD:=Hd hrd;have HGR:=Hd hgr5;clear ho5 hr5 hm5 hgr5 hrd hg;have d0:=HO.c 0 (.slice (some ⟨g2,0,none⟩) c.ls.length c2) rfl;have HML:=Hd HM.o.own_;obtain⟨_,csB,eB,_,O3,_⟩:=HML.o.1.own (by omega);injection eB with eB;injection eB with eB;subst eB;have zf:=O3.free (k*6+1);obtain⟨bq,oq,eq1,_,y0,y1,y2,y3,y4,y5⟩:=HML.o.1.is.ln ey;injection eq1 with eq1;injection eq1 with eq1 eq2;subst eq1 eq2;rw[Nat.zero_add]at y0 y1 y2 y3 y4 y5
         clear HML O3))
    all_goals
      have HML:=Hd HM.o.own_;obtain⟨_,csB,eB,_,O3,_⟩:=HML.o.1.own (by omega);injection eB with eB;injection eB with eB;subst eB;have hm6:=HML.o.1.lnt ey z;have ho6:=HO.o.far (p:=⟨g2,k*6+1,none⟩) (u:=.int .i64 z) hgb2;have hr6:=HR.o.far (p:=⟨g2,k*6+1,none⟩) (u:=.int .i64 z) hrb2;have hd6:=rdr_far (b:=g2) (i:=k*6+1) (u:=.int .i64 z) HRD.o hgg (by omega);have hg6:=g_set (b:=g2) (i:=k*6+1) (u:=.int .i64 z) (by omega) HGR.o;have HY:=Hd HML.o;generalize hW6:w5.setCell ⟨g2,k*6+1,none⟩ (.int .i64 z)=w6 at hm6 ho6 hr6 hd6 hg6⊢;have hM7:SlM lnE 50 (w.heap.size+2) w6 (.slice (some ⟨g2,0,none⟩) c.ls.length c2) (c.ls.set k {y with t:=z}):=slm_of (by simp) (by simpa using HY.o.2.2.1) HY.o.2.2.2 hm6;clear HO HR HM HRD HGR HML O3;have HO:=Hd ho6;have HR:=Hd hr6;have HM:=Hd hM7;have HRD:=Hd hd6;have HGR:=Hd hg6;clear ho6 hr6 hm6 hd6 hg6 hM7;clear d0 zf y0 y1 y2 y3 y4 y5;have r0:=HR.c 0 (.slice none 0 0) rfl;have r1:=HR.c 1 (.int .i64 0) rfl;have f0:=HR.o.free 0;have f1:=HR.o.free 1;have hlr:=HR.o.lt;have o0:=HO.c 0 (.slice (some ⟨g2,0,none⟩) c.ls.length c2) rfl;have o1:=HO.c 1 (.int .i64 c.hand) rfl;have hlo:=HO.o.lt;go_wp2;have o3:=(HR.o.set_ 0 (.slice (some ⟨g2,0,none⟩) c.ls.length c2)).set_ 1 (.int .i64 c.hand);have t0:=o3.cell_ 0 (v:=.slice (some ⟨g2,0,none⟩) c.ls.length c2) rfl;have t1:=o3.cell_ 1 (v:=.int .i64 c.hand) rfl;refine bodyPost_ret (v:=.agg #[.slice (some ⟨g2,0,none⟩) c.ls.length c2,.int .i64 c.hand]) (by simp[results,Tryz.results187,go_sem,t0,t1]) rfl ?_;refine⟨_,rfl,⟨(c.ls.set k {y with t:=z}),c.hand⟩,_,_,rfl, ?_, ?_,rdr_set1 (by omega) (rdr_set1 (by omega) HRD.o),by omega,g_set (by omega) (g_set (by omega) HGR.o)⟩
      · exact((HM.o.farT HR.o (i:=0) (by decide)).farT (HR.o.set_ 0 _) (i:=1) (by decide)).mono (by omega)
      · show List.length (c.ls.set k {y with t:=z})≤_
        simp
  have e3:(x == 3)=false:=by rw[beq_eq_false_iff_ne];exact hx
  clear hx;by_cases hx:x=4
  · have e4:(x == 4)=true:=by rw[beq_iff_eq];exact hx
    clear hx O2 HML;have o0:=HO.c 0 (.slice (some ⟨g2,0,none⟩) c.ls.length c2) rfl;have of:=HO.o.free 0;have hl5:=HO.o.lt;have ho5:=HO.o.alloc (o:=.cells #[] 50);have ho6:=ho5.set_ 0 (.slice (some ⟨w4.heap.size,0,none⟩) 0 0);have hr6:=(HR.o.alloc (o:=.cells #[] 50)).far (p:=⟨gb,0,none⟩) (u:=.slice (some ⟨w4.heap.size,0,none⟩) 0 0) (by show w.heap.size+1≠gb;omega);have hd6:=rdr_set1 (b:=gb) (i:=0) (u:=.slice (some ⟨w4.heap.size,0,none⟩) 0 0) (by omega) (rdr_below HRD.o (bA bR (o:=.cells #[] 50)));have hg6:=g_set (b:=gb) (i:=0) (u:=.slice (some ⟨w4.heap.size,0,none⟩) 0 0) (by omega) (gT HGR.o (gr_below (g:=g) (bA bR (o:=.cells #[] 50))));have f5:=ho5.free 0;have c5:=ho5.cell_ 0 (v:=.slice (some ⟨g2,0,none⟩) c.ls.length c2) rfl;have hl6:=ho5.lt;generalize hW6:(w4.alloc (.cells #[] 50)).setCell ⟨gb,0,none⟩ (.slice (some ⟨w4.heap.size,0,none⟩) 0 0)=w6 at ho6 hr6 hd6 hg6;generalize hga:w4.heap.size=ga at*
    have hm6:SlM lnE 50 (w.heap.size+2) w6 (.slice (some ⟨ga,0,none⟩) 0 0) []:=⟨_,0,rfl,Nat.le_refl _,by simp[maxLen],MineE.nil_ _⟩
    clear HO HR HM HRD HGR ho5;have HO:Hi (Own w6 gb 29 #[.slice (some ⟨ga,0,none⟩) 0 0,.int .i64 c.hand]):=ho6;have HR:=Hd hr6;have HM:=Hd hm6;have HRD:=Hd hd6;have HGR:=Hd hg6;clear ho6 hr6 hm6 hd6 hg6;have r0:=HR.c 0 (.slice none 0 0) rfl;have r1:=HR.c 1 (.int .i64 0) rfl;have f0:=HR.o.free 0;have f1:=HR.o.free 1;have hlr:=HR.o.lt;have o0:=HO.c 0 (.slice (some ⟨ga,0,none⟩) 0 0) rfl;have o1:=HO.c 1 (.int .i64 c.hand) rfl;have hlo:=HO.o.lt;go_wp2;have o3:=(HR.o.set_ 0 (.slice (some ⟨ga,0,none⟩) 0 0)).set_ 1 (.int .i64 c.hand);have t0:=o3.cell_ 0 (v:=.slice (some ⟨ga,0,none⟩) 0 0) rfl;have t1:=o3.cell_ 1 (v:=.int .i64 c.hand) rfl;refine bodyPost_ret (v:=.agg #[.slice (some ⟨ga,0,none⟩) 0 0,.int .i64 c.hand]) (by simp[results,Tryz.results187,go_sem,t0,t1]) rfl ?_;refine⟨_,rfl,⟨([]:List Ln),c.hand⟩,_,_,rfl, ?_, ?_,rdr_set1 (by omega) (rdr_set1 (by omega) HRD.o),by omega,g_set (by omega) (g_set (by omega) HGR.o)⟩
    · exact((HM.o.farT HR.o (i:=0) (by decide)).farT (HR.o.set_ 0 _) (i:=1) (by decide)).mono (by omega)
    · show List.length ([]:List Ln)≤_
      simp
  have e4:(x == 4)=false:=by rw[beq_eq_false_iff_ne];exact hx
  clear hx O2 HML;have r0:=HR.c 0 (.slice none 0 0) rfl;have r1:=HR.c 1 (.int .i64 0) rfl;have f0:=HR.o.free 0;have f1:=HR.o.free 1;have hlr:=HR.o.lt;have o0:=HO.c 0 (.slice (some ⟨g2,0,none⟩) c.ls.length c2) rfl;have o1:=HO.c 1 (.int .i64 c.hand) rfl;have hlo:=HO.o.lt;go_wp2;have o3:=(HR.o.set_ 0 (.slice (some ⟨g2,0,none⟩) c.ls.length c2)).set_ 1 (.int .i64 c.hand);have t0:=o3.cell_ 0 (v:=.slice (some ⟨g2,0,none⟩) c.ls.length c2) rfl;have t1:=o3.cell_ 1 (v:=.int .i64 c.hand) rfl;refine bodyPost_ret (v:=.agg #[.slice (some ⟨g2,0,none⟩) c.ls.length c2,.int .i64 c.hand]) (by simp[results,Tryz.results187,go_sem,t0,t1]) rfl ?_;refine⟨_,rfl,⟨c.ls,c.hand⟩,_,_,rfl, ?_, ?_,rdr_set1 (by omega) (rdr_set1 (by omega) HRD.o),by omega,g_set (by omega) (g_set (by omega) HGR.o)⟩
  · exact((HM.o.farT HR.o (i:=0) (by decide)).farT (HR.o.set_ 0 _) (i:=1) (by decide)).mono (by omega)
  · show List.length c.ls≤_
    simp
end Go.Proofs.YtfbnokjdkhcgoaaGreatDoor
