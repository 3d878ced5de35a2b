/- A part of the proofs of this seat. -/
import Derived.Test.YtfbnokjdkhcgoaaGreatDoorCFilS
set_option linter.unusedVariables false
set_option linter.unusedSimpArgs false
set_option maxRecDepth 1000000
set_option maxHeartbeats 16000000
namespace Go.Proofs.YtfbnokjdkhcgoaaGreatDoor
open Go.RowKit
theorem Allows_any(r n:Int)(w:World):Calls Tryz.prog 90 #[.int .i64 r,.int .i64 n] w fun e w'=>e=.returned (.bool (alw r n))∧w=w':=by
 cases h1:inR r 8 with
 | false=>
  have H:Hi (alw r n=false):=by show _=_;unfold alw;rw[h1];rfl
  go_enter Tryz.func90,Tryz.ntmps90
  go_wp2_with fail
  refine(RightsValid_any _ _).mono ?_;rintro e w' ⟨rfl,rfl⟩;rw[h1];go_wp2;go_ret;exact⟨by rw[H.o];rfl,rfl⟩
 | true=>
  cases h2:inR n 8 with
  | false=>
   have H:Hi (alw r n=false):=by show _=_;unfold alw;rw[h2,Bool.and_false];rfl
   go_enter Tryz.func90,Tryz.ntmps90
   go_wp2_with fail
   refine(RightsValid_any _ _).mono ?_;rintro e w' ⟨rfl,rfl⟩;rw[h1];go_wp2_with fail
   refine(RightsValid_any _ _).mono ?_;rintro e w' ⟨rfl,rfl⟩;rw[h2];go_wp2;go_ret;exact⟨by rw[H.o];rfl,rfl⟩
  | true=>
   have H:Hi (alw r n=decide (r.toNat &&& n.toNat=n.toNat)):=by show _=_;unfold alw;rw[h1,h2];rfl
   go_enter Tryz.func90,Tryz.ntmps90
   go_wp2_with fail
   refine(RightsValid_any _ _).mono ?_;rintro e w' ⟨rfl,rfl⟩;rw[h1];go_wp2_with fail
   refine(RightsValid_any _ _).mono ?_;rintro e w' ⟨rfl,rfl⟩;rw[h2];have HBT:=Hd (bits_andNot h1 h2);go_wp2;go_ret;refine⟨?_,rfl⟩;rw[H.o];show Ending.returned (.bool (bits BinOp.andNot IntKind.i64 n r == 0))=_;rw[HBT.o]
theorem VictimOf_any(vl:Value)(c:Ca)(w:World)(hT:SlR lnE w vl c.ls):
  Calls Tryz.prog 154 #[.agg #[vl,.int .i64 c.hand]] w fun r w'=>r=.returned (.tuple #[.int .i64 (if cav c=true then(vic c:Int)else 0),.bool (cav c)])∧Below w.heap.size w w':=by
 have HV0:=Hd hT;obtain⟨A,cc,rfl,hbc,hbm,hL⟩:=hT;have HL:=Hd hL;have hbx:=Own.new_ w 29 #[.slice A c.ls.length cc,.int .i64 c.hand];have hbz:Below w.heap.size w (w.alloc (.cells #[.slice A c.ls.length cc,.int .i64 c.hand] 29)):=bA bR;generalize hW:w.alloc (.cells #[.slice A c.ls.length cc,.int .i64 c.hand] 29)=W0 at hbx hbz;have q0:=hbx.cell_ 0 (v:=.slice A c.ls.length cc) rfl;have q1:=hbx.cell_ 1 (v:=.int .i64 c.hand) rfl;have HBX:=Hd hbx;clear hL hbx
 cases hv:cav c with
 | false=>
  go_enter Tryz.func154,Tryz.ntmps154
  go_wp2_with fail
  refine(CacheValid_any _ c _ (HV0.o.now hbz)).mono ?_;rintro e w1 ⟨rfl,hb1⟩;rw[hv];have hbw:=bT hbz hb1;go_wp2;go_ret2;exact⟨rfl,hbw⟩
 | true=>
  have hcv:=cav_CV.1 hv;have hfm2:c.ls.length≤8:=hcv.sz.2;rw[if_pos rfl]
  go_enter Tryz.func154,Tryz.ntmps154
  go_wp2_with fail
  refine(CacheValid_any _ c _ (HV0.o.now hbz)).mono ?_;rintro e w1 ⟨rfl,hb1⟩;rw[hv];have HBX1:=Hd (HBX.o.below hb1);have HB1:=Hd (bT hbz hb1);have HCV:=Hd hcv;clear hb1 q0 q1 hbz hcv hv HV0 HBX;have q0:=HBX1.c 0 (.slice A c.ls.length cc) rfl;have q1:=HBX1.c 1 (.int .i64 c.hand) rfl;go_wp2;clear q0 q1;go_loopw [13] (fun u wr=>∃k:Nat,k≤c.ls.length∧u=.int .i64 k∧Hi (∀(j:Nat) (q:Ln),j<k→c.ls[j]?=some q→q.v=true)∧Own wr w.heap.size 29 #[.slice A c.ls.length cc,.int .i64 c.hand]∧Below w.heap.size w wr) (fun u _=>c.ls.length-(intOf u).toNat)
  case atStart=>exact⟨0,by omega,rfl,(fun j q h=>absurd h (by omega)),HBX1.o,HB1.o⟩
  case round=>
   obtain⟨k,hk,rfl,hacc,hbox,hbi⟩:=hrel;by_cases hlt:k<c.ls.length
   ·obtain⟨o,eo⟩:∃o,c.ls[k]?=some o:=⟨_,List.getElem?_eq_getElem hlt⟩
    obtain⟨b,ob,rfl,hbb,d0,d1,d2,d3,d4,d5⟩:=(HL.o.below hbi).ln eo;have HBOX:=Hd hbox;have HBI:=Hd hbi;have EO:=Hd eo;clear hbox eo hbi
    cases ht:o.v with
    | false=>
     rw[ht]at d0;have H:=Hd (vic_free EO.o hacc.o ht);go_wp2;go_ret2;refine⟨by rw[H.o];rfl, ?_⟩;repeat first | exact HBI.o | refine bA ?_ | refine bS ?_ (by simp<;>exact HBI.o.size)
    | true=>
     rw[ht]at d0
     have HACC:Hi (∀(j:Nat) (q:Ln),j<k+1→c.ls[j]?=some q→q.v=true):=by
      intro j q hj e;rcases Nat.lt_or_ge j k with h | h
      ·exact hacc.o j q h e
      ·obtain rfl:j=k:=by omega
       have:=EO.o;rw[e]at this;injection this with this;rw[this];exact ht
     go_wp2;go_roundw
     case rel=>
      refine⟨k+1,by omega,by go_num,HACC, ?_, ?_⟩
      ·have hl:=HBOX.o.lt;repeat first | exact HBOX.o | exact HBOX.o.alloc | refine Own.far ?_ (by show w.heap.size≠wr.heap.size;omega)
      ·repeat first | exact HBI.o | refine bA ?_ | refine bS ?_ (by simp<;>exact HBI.o.size)
     case measure=>simp[intOf];omega
   ·obtain rfl:k=c.ls.length:=by omega
    have HVI:=Hd (vic_full hacc.o);have HBOX:=Hd hbox;have HBI:=Hd hbi;clear hacc hbi
    obtain⟨w6,rfl⟩:∃w6,w6=wr:=⟨_,rfl⟩
    obtain⟨hh0,hh1⟩:=inR_iff.1 HCV.o.hand;have hhn:(c.hand.toNat:Int)=c.hand:=Int.toNat_of_nonneg hh0;have q0:=hbox.cell_ 0 (v:=.slice A c.ls.length cc) rfl;have q1:=hbox.cell_ 1 (v:=.int .i64 c.hand) rfl;go_wp2;clear q0 q1 hbox
    go_loopg [6] (c.ls.length+1) (fun g u wi=>∃(j a:Nat),g=c.ls.length+1-j∧u=.int .i64 a∧Hi (VSt c j a)∧Own wi w.heap.size 29 #[.slice A c.ls.length cc,.int .i64 c.hand]∧Below w.heap.size w wi)
    case atStart=>exact⟨0,c.hand.toNat,by simp,by rw[hhn],vst_zero HCV.o,HBOX.o,HBI.o⟩
    case round=>
     obtain⟨j,a,rfl,rfl,hst,hbox,hbi⟩:=hrel;have hj:=vst_lt HCV.o hst.o;have ha:=vst_in HCV.o hst.o
     obtain⟨x,ex⟩:∃x,c.ls[a]?=some x:=⟨_,List.getElem?_eq_getElem ha⟩
     obtain⟨b,ob,rfl,hbb,d0,d1,d2,d3,d4,d5⟩:=(HL.o.below hbi).ln ex;have q0:=hbox.cell_ 0 (v:=.slice (some ⟨b,ob,none⟩) c.ls.length cc) rfl;have HBOXI:=Hd hbox;have EX:=Hd ex;clear hbox d0 d1 d2 d3 d4 ex
     cases hw:x.w with
     | false=>
      rw[hw]at d5;have H:Hi (vic c=a):=by show _=_;rw[HVI.o];exact vst_stop HCV.o hst.o EX.o hw
      go_wp2;go_ret2;exact⟨by rw[H.o];rfl,hbi⟩
     | true=>
      rw[hw]at d5;have HST:=Hd (vst_step HCV.o hst.o EX.o hw);clear hst;go_wp2
      go_roundg (c.ls.length+1-(j+1))
      case measure=>omega
      case rel=>exact⟨j+1,(a+1) % c.ls.length,rfl,by simp,HST,HBOXI.o,hbi⟩
theorem with_any (vl:Value) (c:Ca) (k:Nat) (x:Ln) (w:World) (hT:SlR lnE w vl c.ls) (hk:k<c.ls.length) (hl8:c.ls.length≤1048576):
    Calls Tryz.prog 156 #[.agg #[vl,.int .i64 c.hand],.int .i64 k,lnV x] w (Post2 fun v w'=>∃v1,v=.agg #[v1,.int .i64 c.hand]∧SlM lnE 50 w.heap.size w' v1 (c.ls.set k x)∧Below w.heap.size w w'):=by
  unfold lnV;have HV0:=Hd hT;obtain⟨A,cc,rfl,hbc,hbm,hL⟩:=hT;have hbx:=((Own.new_ w 29 #[.slice A c.ls.length cc,.int .i64 c.hand]).alloc (o:=.cells #[.bool x.v,.int .i64 x.t,.int .i64 x.p,.int .i64 x.f,.int .i64 x.r,.bool x.w] 50)).alloc (o:=.cells #[.slice none 0 0,.int .i64 0] 29);have hbl:=(ownAt (W:=w.alloc (.cells #[.slice A c.ls.length cc,.int .i64 c.hand] 29)) (g:=w.heap.size+1) (t:=50) (cs:=#[.bool x.v,.int .i64 x.t,.int .i64 x.p,.int .i64 x.f,.int .i64 x.r,.bool x.w]) (by simp)).alloc (o:=.cells #[.slice none 0 0,.int .i64 0] 29);have hbo:=ownAt (W:=(w.alloc (.cells #[.slice A c.ls.length cc,.int .i64 c.hand] 29)).alloc (.cells #[.bool x.v,.int .i64 x.t,.int .i64 x.p,.int .i64 x.f,.int .i64 x.r,.bool x.w] 50)) (g:=w.heap.size+1+1) (t:=29) (cs:=#[.slice none 0 0,.int .i64 0]) (by simp);have hb0:Below w.heap.size w (((w.alloc (.cells #[.slice A c.ls.length cc,.int .i64 c.hand] 29)).alloc (.cells #[.bool x.v,.int .i64 x.t,.int .i64 x.p,.int .i64 x.f,.int .i64 x.r,.bool x.w] 50)).alloc (.cells #[.slice none 0 0,.int .i64 0] 29)):=bA (bA (bA bR));have hs0:(((w.alloc (.cells #[.slice A c.ls.length cc,.int .i64 c.hand] 29)).alloc (.cells #[.bool x.v,.int .i64 x.t,.int .i64 x.p,.int .i64 x.f,.int .i64 x.r,.bool x.w] 50)).alloc (.cells #[.slice none 0 0,.int .i64 0] 29)).heap.size=w.heap.size+3:=by simp
  generalize hW:((w.alloc (.cells #[.slice A c.ls.length cc,.int .i64 c.hand] 29)).alloc (.cells #[.bool x.v,.int .i64 x.t,.int .i64 x.p,.int .i64 x.f,.int .i64 x.r,.bool x.w] 50)).alloc (.cells #[.slice none 0 0,.int .i64 0] 29)=w4 at hbx hbl hbo hb0 hs0;have HX4:=Hd hbx;have HL4:=Hd hbl;have HR4:=Hd hbo;have HB4:=Hd hb0;have HS4:Hi (w.heap.size+3≤w4.heap.size):=Nat.le_of_eq hs0.symm;have HLR:=Hd hL;clear hbx hbl hbo hb0 hL
  go_enter Tryz.func156,Tryz.ntmps156
  go_wp2
  refine wp_region_rel1 (by kernel_rfl) [8,9,10,11,12,13,14,7] [8,9,10,11,12,13,14,7,7] (fun v=>Below w4.heap.size w4 v)
    (kds (S:=stS 29 2) (si:=8) [KD.eq (.pointer (some ⟨w.heap.size,0,none⟩)),KD.eq (.slice A c.ls.length cc),
      KD.row lnE 50 w4.heap.size c.ls (by decide) (fun v1=>v1),KD.row lnE 50 w4.heap.size c.ls (by decide) (fun v1=>v1),
      KD.eq (.pointer (some ⟨w.heap.size,1,none⟩)),KD.eq (.int .i64 c.hand),
      KD.row lnE 50 w4.heap.size c.ls (by decide) (fun v1=>.agg #[v1,.int .i64 c.hand]),
      KD.box w4.heap.size,KD.boxed lnE 50 w4.heap.size c.ls (fun v1=>#[v1,.int .i64 c.hand])]) (tK (stS 29 2) 8) (by kernel_rfl) rfl (bD bR)
    (fun i j x v v' hij h ht=>kds_keep hij h ht) ?_ ?_
  · intro i o ho x v hC hd K hK
    match i,ho with
    | 0,ho=>
      cases ho;simp only[fillA,Act.put,sA9,sB9,sC9]at hK⊢;go_simp;exact hK _ _ (tK_same (stS_same _ _)) hC rfl
    | 1,ho=>
      cases ho;simp only[fillA,Act.put,sA9,sB9,sC9]at hK⊢;have d0:=hd 0 ⟨⟨0,.data⟩,by simp,rfl,rfl⟩ (by decide);change x 8=.pointer (some ⟨w.heap.size,0,none⟩)at d0;have z0:=(HX4.o.below hC).cell_ 0 (v:=.slice A c.ls.length cc) rfl;simp only[d0]at hK⊢;go_simp;exact hK _ _ (tK_same (stS_same _ _)) hC rfl
    | 2,ho=>
      cases ho;simp only[fillA,Act.put,sA9,sB9,sC9]at hK⊢;have d1:=hd 1 ⟨⟨1,.data⟩,by simp,rfl,rfl⟩ (by decide);change x 9=.slice A c.ls.length cc at d1;simp only[d1]at hK⊢;go_wp2_with fail
      refine(cloneLine_any _ c.ls _ (HV0.o.now (bT HB4.o hC)) hl8).mono ?_;rintro e v' ⟨_,rfl,hM,hb⟩;go_simp;exact hK _ _ (tK_below (by decide) hb) (bT hC hb) ⟨_,rfl,hM.mono hC.size⟩
    | 3,ho=>
      cases ho;simp only[fillA,Act.put,sA9,sB9,sC9]at hK⊢;have d2:=hd 2 ⟨⟨2,.data⟩,by simp,rfl,rfl⟩ (by decide);obtain⟨v1,d2,A1,c1,rfl,h1,h2,h3⟩:=d2;change x 10=.slice A1 c.ls.length c1 at d2;simp only[d2]at hK⊢;go_wp2_with fail
      refine(clipLine_any A1 c.ls.length c1 _ h1).mono ?_;rintro e v' ⟨rfl,rfl⟩;go_simp;exact hK _ _ (tK_same (stS_same _ _)) hC ⟨_,rfl,slm_of rfl (Nat.le_refl _) (by simp only[maxLen];omega) h3⟩
    | 4,ho=>
      cases ho;simp only[fillA,Act.put,sA9,sB9,sC9]at hK⊢;go_simp;exact hK _ _ (tK_same (stS_same _ _)) hC rfl
    | 5,ho=>
      cases ho;simp only[fillA,Act.put,sA9,sB9,sC9]at hK⊢;have d4:=hd 4 ⟨⟨4,.data⟩,by simp,rfl,rfl⟩ (by decide);change x 12=.pointer (some ⟨w.heap.size,1,none⟩)at d4;have z1:=(HX4.o.below hC).cell_ 1 (v:=.int .i64 c.hand) rfl;simp only[d4]at hK⊢;go_simp;exact hK _ _ (tK_same (stS_same _ _)) hC rfl
    | 6,ho=>
      cases ho;simp only[fillA,Act.put,sA9,sB9,sC9]at hK⊢;have d3:=hd 3 ⟨⟨3,.data⟩,by simp,rfl,rfl⟩ (by decide);obtain⟨v1,d3,hM⟩:=d3;change x 11=v1 at d3;have d5:=hd 5 ⟨⟨5,.data⟩,by simp,rfl,rfl⟩ (by decide);change x 13=.int .i64 c.hand at d5;have hM':=hM;obtain⟨A9,n9,rfl,_⟩:=hM';simp only[d3,d5]at hK⊢;go_simp;exact hK _ _ (tK_same (stS_same _ _)) hC ⟨_,rfl,hM⟩
    | 7,ho=>
      cases ho;simp only[fillA,Act.put,sA9,sB9,sC9]at hK⊢;go_simp;exact hK _ _ (tK_below (by decide) (bA bR)) (bA hC) ⟨_,_,rfl,hC.size,rfl,Own.new_ _ _ _⟩
    | 8,ho=>
      cases ho;simp only[fillA,Act.put,sA9,sB9,sC9]at hK⊢;have d10:=hd 7 ⟨⟨7,.data⟩,by simp,rfl,rfl⟩ (by decide);obtain⟨g,cs,d10,hg,hcs,ho⟩:=d10;have d8:=hd 6 ⟨⟨6,.data⟩,by simp,rfl,rfl⟩ (by decide);obtain⟨v1,d8,hL⟩:=d8;change x 7=_ at d10;change x 14=_ at d8;have hL':=hL;obtain⟨A9,n9,rfl,_⟩:=hL';obtain⟨cs⟩:=cs
      match cs,hcs with
      | [c0,c1],_=>
        have z0:=ho.cell_ 0 (v:=c0) rfl;have z1:=ho.cell_ 1 (v:=c1) rfl;have y0:=ho.free 0;have y1:=ho.free 1;simp only[d8,d10]at hK⊢;go_simp;have hst:=stS_trans (n:=2) (stS_set (n:=2) (i:=0) (u:=.slice A9 c.ls.length n9) ho) (stS_set (n:=2) (i:=1) (u:=.int .i64 c.hand) (ho.set_ 0 (.slice A9 c.ls.length n9)));refine hK undef _ (tK_store hst) ?_ ⟨rfl,g,_,d10,hg,(ho.set_ 0 (.slice A9 c.ls.length n9)).set_ 1 _,hL.oth hst.1 (by decide)⟩;refine bS (bS hC ?_) ?_
        · exact hg
        · exact hg
    | _+9,ho=>simp at ho
  intro xx w5 hC hd;obtain⟨_,gc,v1,dS,hgc,hoc,hLc⟩:=hd 8 (by decide);change xx 7=_ at dS;simp only[fillA,Act.put,sA9,sB9,sC9,dS];have HX5:=Hd (HX4.o.below hC);have HL5:=Hd (HL4.o.below hC);have HR5:=Hd (HR4.o.below hC);have HB5:=Hd (bT HB4.o hC);have HC5:=Hd hoc;obtain⟨A2,c2,rfl,l2',k2,m2⟩:=hLc;obtain⟨g2,cs2,rfl,hg2,O2,_⟩:=m2.own (by omega);have M5:=Hd m2;have hne:gc≠g2:=HC5.o.ne O2 (by decide);have hne2:g2≠gc:=fun h=>hne h.symm
  have q3:w.heap.size+1+1≠g2:=HR5.o.ne O2 (by decide);have q4:g2≠w.heap.size+1+1:=fun h=>q3 h.symm
  have q5:w.heap.size+1+1≠gc:=by have:=HS4.o;omega
  have q6:gc≠w.heap.size+1+1:=fun h=>q5 h.symm
  clear hd dS hoc m2 hC;have o90:=HC5.c 0 (.slice (some ⟨g2,0,none⟩) c.ls.length c2) rfl;have o91:=HC5.c 1 (.int .i64 c.hand) rfl;have hlo9:=HC5.o.lt;have l0:=HL5.c 0 (.bool x.v) rfl;have l1:=HL5.c 1 (.int .i64 x.t) rfl;have l2:=HL5.c 2 (.int .i64 x.p) rfl;have l3:=HL5.c 3 (.int .i64 x.f) rfl;have l4:=HL5.c 4 (.int .i64 x.r) rfl;have l5:=HL5.c 5 (.bool x.w) rfl;have hll9:=HL5.o.lt;have z0:=O2.free (k*6);have z1:=O2.free (k*6+1);have z2:=O2.free (k*6+2);have z3:=O2.free (k*6+3);have z4:=O2.free (k*6+4);have z5:=O2.free (k*6+5)
  obtain⟨y,ey⟩:∃y,c.ls[k]?=some y:=⟨_,List.getElem?_eq_getElem hk⟩
  obtain⟨bq,oq,eq1,_,y0,y1,y2,y3,y4,y5⟩:=M5.o.is.ln ey;injection eq1 with eq1;injection eq1 with eq1 eq2;subst eq1 eq2;rw[Nat.zero_add]at y0 y1 y2 y3 y4 y5;have m9:=M5.o.wln hk x;have hr9:=(((((HR5.o.far (p:=⟨g2,k*6,none⟩) (u:=.bool x.v) q3).far (p:=⟨g2,k*6+1,none⟩) (u:=.int .i64 x.t) q3).far (p:=⟨g2,k*6+2,none⟩) (u:=.int .i64 x.p) q3).far (p:=⟨g2,k*6+3,none⟩) (u:=.int .i64 x.f) q3).far (p:=⟨g2,k*6+4,none⟩) (u:=.int .i64 x.r) q3).far (p:=⟨g2,k*6+5,none⟩) (u:=.bool x.w) q3;have ho9:=(((((HC5.o.far (p:=⟨g2,k*6,none⟩) (u:=.bool x.v) hne).far (p:=⟨g2,k*6+1,none⟩) (u:=.int .i64 x.t) hne).far (p:=⟨g2,k*6+2,none⟩) (u:=.int .i64 x.p) hne).far (p:=⟨g2,k*6+3,none⟩) (u:=.int .i64 x.f) hne).far (p:=⟨g2,k*6+4,none⟩) (u:=.int .i64 x.r) hne).far (p:=⟨g2,k*6+5,none⟩) (u:=.bool x.w) hne;have hgg:w.heap.size≤g2:=by have:=HS4.o;omega
  have hb9:=bS (bS (bS (bS (bS (bS HB5.o (p:=⟨g2,k*6,none⟩) hgg (u:=.bool x.v)) (p:=⟨g2,k*6+1,none⟩) hgg (u:=.int .i64 x.t)) (p:=⟨g2,k*6+2,none⟩) hgg (u:=.int .i64 x.p)) (p:=⟨g2,k*6+3,none⟩) hgg (u:=.int .i64 x.f)) (p:=⟨g2,k*6+4,none⟩) hgg (u:=.int .i64 x.r)) (p:=⟨g2,k*6+5,none⟩) hgg (u:=.bool x.w);generalize hW9:(((((w5.setCell ⟨g2,k*6,none⟩ (.bool x.v)).setCell ⟨g2,k*6+1,none⟩ (.int .i64 x.t)).setCell ⟨g2,k*6+2,none⟩ (.int .i64 x.p)).setCell ⟨g2,k*6+3,none⟩ (.int .i64 x.f)).setCell ⟨g2,k*6+4,none⟩ (.int .i64 x.r)).setCell ⟨g2,k*6+5,none⟩ (.bool x.w)=w9 at m9 hr9 ho9 hb9;have M9:=Hd m9;have HR9:=Hd hr9;have HC9:=Hd ho9;have HB9:=Hd hb9;clear m9 hr9 ho9 hb9;have o92:=HC9.c 0 (.slice (some ⟨g2,0,none⟩) c.ls.length c2) rfl;have o93:=HC9.c 1 (.int .i64 c.hand) rfl;have r0:=HR9.c 0 (.slice none 0 0) rfl;have r1:=HR9.c 1 (.int .i64 0) rfl;have f0:=HR9.o.free 0;have f1:=HR9.o.free 1;have hl1:=HR9.o.lt;have hl2:=HC9.o.lt;go_wp2;have o3:=(HR9.o.set_ 0 (.slice (some ⟨g2,0,none⟩) c.ls.length c2)).set_ 1 (.int .i64 c.hand);have t0:=o3.cell_ 0 (v:=.slice (some ⟨g2,0,none⟩) c.ls.length c2) rfl;have t1:=o3.cell_ 1 (v:=.int .i64 c.hand) rfl;have hgl:w.heap.size+1+1<w4.heap.size:=by have:=HS4.o;omega
  refine bodyPost_ret (v:=.agg #[.slice (some ⟨g2,0,none⟩) c.ls.length c2,.int .i64 c.hand]) (by simp[results,Tryz.results156,go_sem,t0,t1]) rfl ⟨_,rfl,_,rfl, ?_, ?_⟩
  · exact(slm_of (by simp) (by simpa using l2') k2 ((M9.o.far (p:=⟨w.heap.size+1+1,0,none⟩) (u:=.slice (some ⟨g2,0,none⟩) c.ls.length c2) hgl).far (p:=⟨w.heap.size+1+1,1,none⟩) (u:=.int .i64 c.hand) hgl)).mono (by have:=HS4.o;omega)
  · repeat (refine bS ?_ (by simp<;>omega))
    exact HB9.o
theorem FillLine_any (vl:Value) (c:Ca) (x:Ln) (w:World) (hT:SlR lnE w vl c.ls):
  Calls Tryz.prog 89 #[.agg #[vl,.int .i64 c.hand],lnV x] w (Post2 fun v w'=>∃v1,v=.tuple #[.agg #[v1,.int .i64 (filV c x).hand],.int .i64 (filA c x),.bool (filOK c x)]∧SlM lnE 50 w.heap.size w' v1 (filV c x).ls∧Below w.heap.size w w'):=by
 have HLV:=Hd (fun W=>lineValid_any x W);have HWT:=Hd (fun W k (h:SlR lnE W vl c.ls) hk hl=>with_any vl c k x W h hk hl);unfold lnV at*;have HV0:=Hd hT;obtain⟨A,cc,rfl,hbc,hbm,hL⟩:=hT;have hbx:=((Own.new_ w 29 #[.slice A c.ls.length cc,.int .i64 c.hand]).alloc (o:=.cells #[.bool x.v,.int .i64 x.t,.int .i64 x.p,.int .i64 x.f,.int .i64 x.r,.bool x.w] 50)).alloc (o:=.cells #[.slice none 0 0,.int .i64 0] 29);have hbl:=(ownAt (W:=w.alloc (.cells #[.slice A c.ls.length cc,.int .i64 c.hand] 29)) (g:=w.heap.size+1) (t:=50) (cs:=#[.bool x.v,.int .i64 x.t,.int .i64 x.p,.int .i64 x.f,.int .i64 x.r,.bool x.w]) (by simp)).alloc (o:=.cells #[.slice none 0 0,.int .i64 0] 29);have hbo:=ownAt (W:=(w.alloc (.cells #[.slice A c.ls.length cc,.int .i64 c.hand] 29)).alloc (.cells #[.bool x.v,.int .i64 x.t,.int .i64 x.p,.int .i64 x.f,.int .i64 x.r,.bool x.w] 50)) (g:=w.heap.size+1+1) (t:=29) (cs:=#[.slice none 0 0,.int .i64 0]) (by simp);have hb0:Below w.heap.size w (((w.alloc (.cells #[.slice A c.ls.length cc,.int .i64 c.hand] 29)).alloc (.cells #[.bool x.v,.int .i64 x.t,.int .i64 x.p,.int .i64 x.f,.int .i64 x.r,.bool x.w] 50)).alloc (.cells #[.slice none 0 0,.int .i64 0] 29)):=bA (bA (bA bR));have hs0:(((w.alloc (.cells #[.slice A c.ls.length cc,.int .i64 c.hand] 29)).alloc (.cells #[.bool x.v,.int .i64 x.t,.int .i64 x.p,.int .i64 x.f,.int .i64 x.r,.bool x.w] 50)).alloc (.cells #[.slice none 0 0,.int .i64 0] 29)).heap.size=w.heap.size+3:=by simp
 generalize hW:((w.alloc (.cells #[.slice A c.ls.length cc,.int .i64 c.hand] 29)).alloc (.cells #[.bool x.v,.int .i64 x.t,.int .i64 x.p,.int .i64 x.f,.int .i64 x.r,.bool x.w] 50)).alloc (.cells #[.slice none 0 0,.int .i64 0] 29)=W0 at hbx hbl hbo hb0 hs0;have HX0:=Hd hbx;have HL0:=Hd hbl;have HR0:=Hd hbo;have HB0:=Hd hb0;have HS0:Hi (w.heap.size+3≤W0.heap.size):=Nat.le_of_eq hs0.symm;have HLR:=Hd hL;clear hbx hbl hbo hb0 hL;have q0:=HX0.c 0 (.slice A c.ls.length cc) rfl;have q1:=HX0.c 1 (.int .i64 c.hand) rfl
 go_enter Tryz.func89,Tryz.ntmps89
 go_wp2_with fail
 refine(VictimOf_any _ c _ (HV0.o.now HB0.o)).mono ?_;rintro e w1 ⟨rfl,hb1⟩;have HX1:=Hd (HX0.o.below hb1);have HL1:=Hd (HL0.o.below hb1);have HR1:=Hd (HR0.o.below hb1);have HB1:=Hd (bT HB0.o hb1);have HS1:=Hd (Nat.le_trans HS0.o hb1.size);clear hb1;clear q0 q1
 cases h1:cav c with
 | false=>
  have HO:Hi (filOK c x=false):=by show _=_;unfold filOK;rw[h1];rfl
  have HV:=Hd (filOK_false HO.o);have HA:=Hd (filA_false HO.o);rw[if_neg (by decide)];have r0:=HR1.c 0 (.slice none 0 0) rfl;have r1:=HR1.c 1 (.int .i64 0) rfl;have f0:=HR1.o.free 0;have f1:=HR1.o.free 1;have hl1:=HR1.o.lt;go_wp2;have o3:=(HR1.o.set_ 0 (.slice none 0 0)).set_ 1 (.int .i64 0);have t0:=o3.cell_ 0 (v:=.slice none 0 0) rfl;have t1:=o3.cell_ 1 (v:=.int .i64 0) rfl;refine bodyPost_ret (v:=.tuple #[.agg #[.slice none 0 0,.int .i64 0],.int .i64 0,.bool false]) (by simp[results,Tryz.results89,go_sem,t0,t1]) rfl ⟨_,rfl,_,by rw[HV.o,HA.o,HO.o];rfl,by rw[HV.o];exact SlM.nil_ _, ?_⟩;repeat (refine bS ?_ (by simp<;>omega))
  exact HB1.o
 | true =>
  rw[if_pos rfl]
  cases hxv:x.v with
  | false=>
   have HO:Hi (filOK c x=false):=by show _=_;unfold filOK;rw[hxv];simp
   have HV:=Hd (filOK_false HO.o);have HA:=Hd (filA_false HO.o);have l0:=HL1.c 0 (.bool x.v) rfl;rw[hxv]at l0;have r0:=HR1.c 0 (.slice none 0 0) rfl;have r1:=HR1.c 1 (.int .i64 0) rfl;have f0:=HR1.o.free 0;have f1:=HR1.o.free 1;have hl1:=HR1.o.lt;go_wp2;have o3:=(HR1.o.set_ 0 (.slice none 0 0)).set_ 1 (.int .i64 0);have t0:=o3.cell_ 0 (v:=.slice none 0 0) rfl;have t1:=o3.cell_ 1 (v:=.int .i64 0) rfl;refine bodyPost_ret (v:=.tuple #[.agg #[.slice none 0 0,.int .i64 0],.int .i64 0,.bool false]) (by simp[results,Tryz.results89,go_sem,t0,t1]) rfl ⟨_,rfl,_,by rw[HV.o,HA.o,HO.o];rfl,by rw[HV.o];exact SlM.nil_ _, ?_⟩;repeat (refine bS ?_ (by simp<;>omega))
   exact HB1.o
  | true=>
   have l0:=HL1.c 0 (.bool x.v) rfl;have l1:=HL1.c 1 (.int .i64 x.t) rfl;have l2:=HL1.c 2 (.int .i64 x.p) rfl;have l3:=HL1.c 3 (.int .i64 x.f) rfl;have l4:=HL1.c 4 (.int .i64 x.r) rfl;have l5:=HL1.c 5 (.bool x.w) rfl;rw[hxv]at l0 HLV;go_wp2_with fail
   refine(HLV.o _).mono ?_;rintro e w2 ⟨rfl,hb2⟩;have HX2:=Hd (HX1.o.below hb2);have HL2:=Hd (HL1.o.below hb2);have HR2:=Hd (HR1.o.below hb2);have HB2:=Hd (bT HB1.o hb2);have HS2:=Hd (Nat.le_trans HS1.o hb2.size);clear hb2;clear l0 l1 l2 l3 l4 l5 HLV
   cases h3:lnok x with
   | false=>
    have HO:Hi (filOK c x=false):=by show _=_;unfold filOK;rw[h3];simp
    have HV:=Hd (filOK_false HO.o);have HA:=Hd (filA_false HO.o);have r0:=HR2.c 0 (.slice none 0 0) rfl;have r1:=HR2.c 1 (.int .i64 0) rfl;have f0:=HR2.o.free 0;have f1:=HR2.o.free 1;have hl1:=HR2.o.lt;go_wp2;have o3:=(HR2.o.set_ 0 (.slice none 0 0)).set_ 1 (.int .i64 0);have t0:=o3.cell_ 0 (v:=.slice none 0 0) rfl;have t1:=o3.cell_ 1 (v:=.int .i64 0) rfl;refine bodyPost_ret (v:=.tuple #[.agg #[.slice none 0 0,.int .i64 0],.int .i64 0,.bool false]) (by simp[results,Tryz.results89,go_sem,t0,t1]) rfl ⟨_,rfl,_,by rw[HV.o,HA.o,HO.o];rfl,by rw[HV.o];exact SlM.nil_ _, ?_⟩;repeat (refine bS ?_ (by simp<;>omega))
    exact HB2.o
   | true=>
    have hcv:=cav_CV.1 h1;have q0:=HX2.c 0 (.slice A c.ls.length cc) rfl;have q1:=HX2.c 1 (.int .i64 c.hand) rfl;have l1:=HL2.c 1 (.int .i64 x.t) rfl;have l2:=HL2.c 2 (.int .i64 x.p) rfl;go_wp2_with fail
    refine(place_any _ c x.t x.p _ (HV0.o.now HB2.o)).mono ?_;rintro e w3 ⟨rfl,hb3⟩;have HX3:=Hd (HX2.o.below hb3);have HL3:=Hd (HL2.o.below hb3);have HR3:=Hd (HR2.o.below hb3);have HB3:=Hd (bT HB2.o hb3);have HS3:=Hd (Nat.le_trans HS2.o hb3.size);clear hb3;clear q0 q1 l1 l2;by_cases h6:0≤plcI c.ls x.t x.p
    ·have HO:Hi (filOK c x=false):=by show _=_;unfold filOK;rw[decide_eq_true h6];simp
     have HV:=Hd (filOK_false HO.o);have HA:=Hd (filA_false HO.o);have r0:=HR3.c 0 (.slice none 0 0) rfl;have r1:=HR3.c 1 (.int .i64 0) rfl;have f0:=HR3.o.free 0;have f1:=HR3.o.free 1;have hl1:=HR3.o.lt;go_wp2;have o3:=(HR3.o.set_ 0 (.slice none 0 0)).set_ 1 (.int .i64 0);have t0:=o3.cell_ 0 (v:=.slice none 0 0) rfl;have t1:=o3.cell_ 1 (v:=.int .i64 0) rfl;refine bodyPost_ret (v:=.tuple #[.agg #[.slice none 0 0,.int .i64 0],.int .i64 0,.bool false]) (by simp[results,Tryz.results89,go_sem,t0,t1]) rfl ⟨_,rfl,_,by rw[HV.o,HA.o,HO.o];rfl,by rw[HV.o];exact SlM.nil_ _, ?_⟩;repeat (refine bS ?_ (by simp<;>omega))
     exact HB3.o
    ·have hvi:=vic_in hcv;have h8:c.ls.length≤8:=hcv.sz.2
     obtain⟨y,ey⟩:∃y,c.ls[vic c]?=some y:=⟨_,List.getElem?_eq_getElem hvi⟩
     have h6b:plcI c.ls x.t x.p<0:=by omega
     have hs3:=HS3.o;have hlt3:=HR3.o.lt;have q0:=HX3.c 0 (.slice A c.ls.length cc) rfl;have q1:=HX3.c 1 (.int .i64 c.hand) rfl;have l0:=HL3.c 0 (.bool x.v) rfl;have l1:=HL3.c 1 (.int .i64 x.t) rfl;have l2:=HL3.c 2 (.int .i64 x.p) rfl;have l3:=HL3.c 3 (.int .i64 x.f) rfl;have l4:=HL3.c 4 (.int .i64 x.r) rfl;have l5:=HL3.c 5 (.bool x.w) rfl;rw[hxv]at l0 HWT;go_wp2_with fail
     refine(HWT.o _ _ (HV0.o.now HB3.o) hvi (by omega)).mono ?_;rintro e w4 ⟨_,rfl,v1,rfl,hM4,hb4⟩;have HX4:=Hd (HX3.o.below hb4);have HL4:=Hd (HL3.o.below hb4);have HR4:=Hd (HR3.o.below hb4);have HB4:=Hd (bT HB3.o hb4);have HS4:=Hd (Nat.le_trans HS3.o hb4.size);clear hb4;clear q0 q1 l0 l1 l2 l3 l4 l5;have hM4':=hM4;obtain⟨A2,c2,e1,_⟩:=hM4';rw[List.length_set]at e1;subst e1;have ho5:=Own.new_ w4 29 #[.slice A2 c.ls.length c2,.int .i64 c.hand];have hb5:Below w4.heap.size w4 (w4.alloc (.cells #[.slice A2 c.ls.length c2,.int .i64 c.hand] 29)):=bA bR;have hz5:w4.heap.size+1=(w4.alloc (.cells #[.slice A2 c.ls.length c2,.int .i64 c.hand] 29)).heap.size:=by simp
     generalize hW5:w4.alloc (.cells #[.slice A2 c.ls.length c2,.int .i64 c.hand] 29)=w5 at ho5 hb5 hz5;have M5:=Hd (hM4.now hb5);have HO5:=Hd ho5;have hc5:=HB4.o.size;have HX5:=Hd (HX4.o.below hb5);have HL5:=Hd (HL4.o.below hb5);have HR5:=Hd (HR4.o.below hb5);have HB5:=Hd (bT HB4.o hb5);have HS5:=Hd (Nat.le_trans HS4.o hb5.size);clear hb5;clear ho5 hM4;obtain⟨b4,o4,rfl,hb4,d0,d1,d2,d3,d4,d5⟩:=(HLR.o.now (Nat.le_refl _) HB5.o).ln ey;have q0:=HX5.c 0 (.slice (some ⟨b4,o4,none⟩) c.ls.length cc) rfl;have hlx:=HX5.o.lt;have hlo:=HO5.o.lt;have EY:=Hd ey;clear d1 d2 d3 d4 d5 ey;generalize hvv:vic c=vi at*
     cases hyv:y.v with
     | false=>
      rw[hyv]at d0;have HH:Hi ((filC c x).hand=c.hand):=by show _=_;simp only[filC,hvv,EY.o,hyv];rfl
      have o90:=HO5.c 0 (.slice A2 c.ls.length c2) rfl;have o91:=HO5.c 1 (.int .i64 (c.hand)) rfl;have hlo9:=HO5.o.lt
      have HFC:Hi (filC c x=⟨c.ls.set vi x,c.hand⟩):=by
       show _=_;have h1:(filC c x).ls=c.ls.set vi x:=by simp only[filC,hvv]
       have h2:=HH.o
       cases hf:filC c x with
       | mk a b=>
        rw[hf]at h1 h2;simp only at h1 h2;rw[h1,h2]
      go_wp2_with fail
      refine(CacheValid_any (.slice A2 c.ls.length c2) ⟨c.ls.set vi x,c.hand⟩ _ M5.o.r).mono ?_;rintro e w10 ⟨rfl,hb10⟩;have HR10:=Hd (HR5.o.below hb10);have HO10:=Hd (HO5.o.below hb10);have M10:=Hd (M5.o.now hb10);have HB10:=Hd (bT HB5.o hb10);clear hb10 o90 o91
      cases h5:cav ⟨c.ls.set vi x,c.hand⟩with
      | false=>
       have HO:Hi (filOK c x=false):=by show _=_;unfold filOK;rw[HFC.o,h5,Bool.and_false]
       have HV:=Hd (filOK_false HO.o);have HA:=Hd (filA_false HO.o);have r0:=HR10.c 0 (.slice none 0 0) rfl;have r1:=HR10.c 1 (.int .i64 0) rfl;have f0:=HR10.o.free 0;have f1:=HR10.o.free 1;have hl1:=HR10.o.lt;go_wp2;have o3:=(HR10.o.set_ 0 (.slice none 0 0)).set_ 1 (.int .i64 0);have t0:=o3.cell_ 0 (v:=.slice none 0 0) rfl;have t1:=o3.cell_ 1 (v:=.int .i64 0) rfl;refine bodyPost_ret (v:=.tuple #[.agg #[.slice none 0 0,.int .i64 0],.int .i64 0,.bool false]) (by simp[results,Tryz.results89,go_sem,t0,t1]) rfl ⟨_,rfl,_,by rw[HV.o,HA.o,HO.o];rfl,by rw[HV.o];exact SlM.nil_ _, ?_⟩;repeat (refine bS ?_ (by simp<;>omega))
       exact HB10.o
      | true=>
       have HO:Hi (filOK c x=true):=by show _=_;unfold filOK;rw[h1,hxv,h3,decide_eq_false (show¬0≤plcI c.ls x.t x.p by omega),HFC.o,h5];rfl
       have HV:Hi (filV c x=⟨c.ls.set vi x,c.hand⟩):=by show _=_;rw[filOK_true HO.o];exact HFC.o
       have HA:Hi (filA c x=vi):=by show _=_;unfold filA;rw[HO.o,if_pos rfl,hvv]
       have o90:=HO10.c 0 (.slice A2 c.ls.length c2) rfl;have o91:=HO10.c 1 (.int .i64 (c.hand)) rfl;have hlo:=HO10.o.lt;have r0:=HR10.c 0 (.slice none 0 0) rfl;have r1:=HR10.c 1 (.int .i64 0) rfl;have f0:=HR10.o.free 0;have f1:=HR10.o.free 1;have hl1:=HR10.o.lt;go_wp2;have o3:=(HR10.o.set_ 0 (.slice A2 c.ls.length c2)).set_ 1 (.int .i64 (c.hand));have t0:=o3.cell_ 0 (v:=.slice A2 c.ls.length c2) rfl;have t1:=o3.cell_ 1 (v:=.int .i64 (c.hand)) rfl;refine bodyPost_ret (v:=.tuple #[.agg #[.slice A2 c.ls.length c2,.int .i64 (c.hand)],.int .i64 vi,.bool true]) (by simp[results,Tryz.results89,go_sem,t0,t1]) rfl ⟨_,rfl,_,by rw[HV.o,HA.o,HO.o], ?_, ?_⟩
       ·rw[HV.o];exact((M10.o.far (p:=⟨w.heap.size+1+1,0,none⟩) (u:=.slice A2 c.ls.length c2) hlt3).far (p:=⟨w.heap.size+1+1,1,none⟩) (u:=.int .i64 (c.hand)) hlt3).mono (by have:=HB3.o.size;omega)
       ·repeat (refine bS ?_ (by simp<;>omega))
        exact HB10.o
     | true=>
      rw[hyv]at d0;have HH:Hi ((filC c x).hand=((vi:Int)+1) % c.ls.length):=by show _=_;simp only[filC,hvv,EY.o,hyv];rfl
      have q9:w.heap.size+1+1≠w4.heap.size:=by have:=HR4.o.lt;omega
      have o51:=HO5.c 1 (.int .i64 c.hand) rfl;have of1:=HO5.o.free 1;have ho6:=HO5.o.set_ 1 (.int .i64 (((vi:Int)+1) % c.ls.length));have m6:=M5.o.farT HO5.o (u:=.int .i64 (((vi:Int)+1) % c.ls.length)) (i:=1) (by decide);have hr6:=HR5.o.far (p:=⟨w4.heap.size,1,none⟩) (u:=.int .i64 (((vi:Int)+1) % c.ls.length)) q9;have hb6:Below w.heap.size w (w5.setCell ⟨w4.heap.size,1,none⟩ (.int .i64 (((vi:Int)+1) % c.ls.length))):=bS HB5.o (by show w.heap.size≤w4.heap.size;omega);generalize hW6:w5.setCell ⟨w4.heap.size,1,none⟩ (.int .i64 (((vi:Int)+1) % c.ls.length))=w6 at ho6 m6 hr6 hb6;have HO6:=Hd ho6;have M6:=Hd m6;have HR6:=Hd hr6;have HB6:=Hd hb6;clear ho6 m6 hr6 hb6;have o90:=HO6.c 0 (.slice A2 c.ls.length c2) rfl;have o91:=HO6.c 1 (.int .i64 (((vi:Int)+1) % c.ls.length)) rfl;have hlo9:=HO6.o.lt
      have HFC:Hi (filC c x=⟨c.ls.set vi x,((vi:Int)+1) % c.ls.length⟩):=by
       show _=_;have h1:(filC c x).ls=c.ls.set vi x:=by simp only[filC,hvv]
       have h2:=HH.o
       cases hf:filC c x with
       | mk a b=>
        rw[hf]at h1 h2;simp only at h1 h2;rw[h1,h2]
      go_wp2_with fail
      refine(CacheValid_any (.slice A2 c.ls.length c2) ⟨c.ls.set vi x,((vi:Int)+1) % c.ls.length⟩ _ M6.o.r).mono ?_;rintro e w10 ⟨rfl,hb10⟩;have HR10:=Hd (HR6.o.below hb10);have HO10:=Hd (HO6.o.below hb10);have M10:=Hd (M6.o.now hb10);have HB10:=Hd (bT HB6.o hb10);clear hb10 o90 o91
      cases h5:cav ⟨c.ls.set vi x,((vi:Int)+1) % c.ls.length⟩with
      | false=>
       have HO:Hi (filOK c x=false):=by show _=_;unfold filOK;rw[HFC.o,h5,Bool.and_false]
       have HV:=Hd (filOK_false HO.o);have HA:=Hd (filA_false HO.o);have r0:=HR10.c 0 (.slice none 0 0) rfl;have r1:=HR10.c 1 (.int .i64 0) rfl;have f0:=HR10.o.free 0;have f1:=HR10.o.free 1;have hl1:=HR10.o.lt;go_wp2;have o3:=(HR10.o.set_ 0 (.slice none 0 0)).set_ 1 (.int .i64 0);have t0:=o3.cell_ 0 (v:=.slice none 0 0) rfl;have t1:=o3.cell_ 1 (v:=.int .i64 0) rfl;refine bodyPost_ret (v:=.tuple #[.agg #[.slice none 0 0,.int .i64 0],.int .i64 0,.bool false]) (by simp[results,Tryz.results89,go_sem,t0,t1]) rfl ⟨_,rfl,_,by rw[HV.o,HA.o,HO.o];rfl,by rw[HV.o];exact SlM.nil_ _, ?_⟩;repeat (refine bS ?_ (by simp<;>omega))
       exact HB10.o
      | true=>
       have HO:Hi (filOK c x=true):=by show _=_;unfold filOK;rw[h1,hxv,h3,decide_eq_false (show¬0≤plcI c.ls x.t x.p by omega),HFC.o,h5];rfl
       have HV:Hi (filV c x=⟨c.ls.set vi x,((vi:Int)+1) % c.ls.length⟩):=by show _=_;rw[filOK_true HO.o];exact HFC.o
       have HA:Hi (filA c x=vi):=by show _=_;unfold filA;rw[HO.o,if_pos rfl,hvv]
       have o90:=HO10.c 0 (.slice A2 c.ls.length c2) rfl;have o91:=HO10.c 1 (.int .i64 (((vi:Int)+1) % c.ls.length)) rfl;have hlo:=HO10.o.lt;have r0:=HR10.c 0 (.slice none 0 0) rfl;have r1:=HR10.c 1 (.int .i64 0) rfl;have f0:=HR10.o.free 0;have f1:=HR10.o.free 1;have hl1:=HR10.o.lt;go_wp2;have o3:=(HR10.o.set_ 0 (.slice A2 c.ls.length c2)).set_ 1 (.int .i64 (((vi:Int)+1) % c.ls.length));have t0:=o3.cell_ 0 (v:=.slice A2 c.ls.length c2) rfl;have t1:=o3.cell_ 1 (v:=.int .i64 (((vi:Int)+1) % c.ls.length)) rfl;refine bodyPost_ret (v:=.tuple #[.agg #[.slice A2 c.ls.length c2,.int .i64 (((vi:Int)+1) % c.ls.length)],.int .i64 vi,.bool true]) (by simp[results,Tryz.results89,go_sem,t0,t1]) rfl ⟨_,rfl,_,by rw[HV.o,HA.o,HO.o], ?_, ?_⟩
       ·rw[HV.o];exact((M10.o.far (p:=⟨w.heap.size+1+1,0,none⟩) (u:=.slice A2 c.ls.length c2) hlt3).far (p:=⟨w.heap.size+1+1,1,none⟩) (u:=.int .i64 (((vi:Int)+1) % c.ls.length)) hlt3).mono (by have:=HB3.o.size;omega)
       ·repeat (refine bS ?_ (by simp<;>omega))
        exact HB10.o
end Go.Proofs.YtfbnokjdkhcgoaaGreatDoor
