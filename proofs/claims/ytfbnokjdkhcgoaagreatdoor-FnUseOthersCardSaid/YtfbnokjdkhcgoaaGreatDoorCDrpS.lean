/- A part of the proofs of this seat. -/
import Derived.Test.YtfbnokjdkhcgoaaGreatDoorCMark
set_option linter.unusedVariables false
set_option linter.unusedSimpArgs false
set_option maxRecDepth 1000000
set_option maxHeartbeats 16000000
namespace Go.Proofs.YtfbnokjdkhcgoaaGreatDoor
open Go.RowKit
theorem l4Fits_any(f:Ln)(tag page:Int)(w:World):Calls Tryz.prog 165 #[lnV f,.int .i64 tag,.int .i64 page] w fun r w'=>r=.returned (.bool (fits tag page f))∧Below w.heap.size w w':=by
 unfold lnV
 cases hv:f.v with
 | false=>
  have H:Hi (fits tag page f=false):=by simp[Hi,fits,hv]
  go_enter Tryz.func165,Tryz.ntmps165
  go_wp2;go_ret;exact⟨by rw[H.o];rfl,bA bR⟩
 | true=>
  by_cases hp:f.p=page
  ·by_cases ht:f.t=tag
   ·have H:Hi (fits tag page f=true):=by simp[Hi,fits,hv,hp,ht]
    go_enter Tryz.func165,Tryz.ntmps165
    go_wp2;go_ret;exact⟨by rw[H.o];rfl,bA bR⟩
   ·have H:Hi (fits tag page f=(f.t == tag || f.t == -1)):=by
     show _=_;rw[beq_eq_false_iff_ne.2 ht,Bool.false_or];simp[fits,hv,hp,ht];by_cases h:f.t=-1<;>simp[h]
    go_enter Tryz.func165,Tryz.ntmps165
    go_wp2;go_ret;exact⟨by rw[H.o];rfl,bA bR⟩
  ·have H:Hi (fits tag page f=false):=by simp[Hi,fits,hp]
   go_enter Tryz.func165,Tryz.ntmps165
   go_wp2;go_ret;exact⟨by rw[H.o];rfl,bA bR⟩
theorem l4Find_any(vl:Value)(c:Ca)(tag page:Int)(w:World)(hT:SlR lnE w vl c.ls):
  Calls Tryz.prog 99 #[.agg #[vl,.int .i64 c.hand],.int .i64 tag,.int .i64 page] w fun r w'=>r=.returned (.int .i64 (plcI c.ls tag page))∧Below w.heap.size w w':=by
 obtain⟨A,cc,rfl,hbc,hbm,hL⟩:=hT;have hfm2:c.ls.length≤9223372036854775807:=by unfold maxLen at hbm;omega
 have HL:=Hd hL;have hbx:=Own.new_ w 29 #[.slice A c.ls.length cc,.int .i64 c.hand];have hbz:Below w.heap.size w (w.alloc (.cells #[.slice A c.ls.length cc,.int .i64 c.hand] 29)):=bA bR;generalize hW:w.alloc (.cells #[.slice A c.ls.length cc,.int .i64 c.hand] 29)=W0 at hbx hbz;have q0:=hbx.cell_ 0 (v:=.slice A c.ls.length cc) rfl;have q1:=hbx.cell_ 1 (v:=.int .i64 c.hand) rfl;have HBX:=Hd hbx;clear hL hbx;clear q0 q1;rw[←pix_plc]
 go_enter Tryz.func99,Tryz.ntmps99
 go_wp2;go_loopw [7] (fun u wr=>∃k:Nat,k≤c.ls.length∧u=.int .i64 k∧Hi (∀(j:Nat) (q:Ln),j<k→c.ls[j]?=some q→fits tag page q=false)∧Own wr w.heap.size 29 #[.slice A c.ls.length cc,.int .i64 c.hand]∧Below w.heap.size w wr) (fun u _=>c.ls.length-(intOf u).toNat)
 case atStart=>exact⟨0,by omega,rfl,(fun j q h=>absurd h (by omega)),HBX.o,hbz⟩
 case round=>
  obtain⟨k,hk,rfl,hacc,hbox,hbi⟩:=hrel;have q0:=hbox.cell_ 0 (v:=.slice A c.ls.length cc) rfl;by_cases hlt:k<c.ls.length
  ·obtain⟨o,eo⟩:∃o,c.ls[k]?=some o:=⟨_,List.getElem?_eq_getElem hlt⟩
   obtain⟨b,ob,rfl,hbb,d0,d1,d2,d3,d4,d5⟩:=(HL.o.below hbi).ln eo;have HBOX:=Hd hbox;have EO:=Hd eo;clear hbox eo;go_wp2_with fail
   refine(l4Fits_any o tag page _).mono ?_;rintro e w2 ⟨rfl,hb2⟩;have HB2:=Hd (bT hbi hb2);have HBOX2:=Hd (HBOX.o.below hb2);clear hb2 q0 d0 d1 d2 d3 d4 d5
   cases ht:fits tag page o with
   | true=>
    have H:=Hd (pix_at EO.o hacc.o ht);go_wp2;go_ret;exact⟨by rw[H.o];rfl,HB2.o⟩
   | false=>
    have HACC:=Hd (pix_step EO.o hacc.o ht);go_wp2;go_roundw;case rel=>exact⟨k+1,by omega,by go_num,HACC,HBOX2.o,HB2.o⟩
    case measure=>simp[intOf];omega
  ·have H:=Hd (pix_none (Nat.le_of_not_lt hlt) hacc.o);clear hbox;go_wp2;go_ret;exact⟨by rw[H.o];rfl,hbi⟩
theorem l4Tag_any(n:Int)(w:World):Calls Tryz.prog 235 #[.int .i64 n] w fun r w'=>r=.returned (.bool (tagv n))∧w=w':=by
 by_cases h1:-1≤n
 ·by_cases h2:n<8
  ·have H:=Hd (tagv_iff.2 ⟨h1,h2⟩)
   go_enter Tryz.func235,Tryz.ntmps235
   go_wp2;go_ret;exact⟨by rw[H.o];rfl,rfl⟩
  ·have H:=Hd (tagv_no (n:=n) (fun h=>h2 h.2))
   go_enter Tryz.func235,Tryz.ntmps235
   go_wp2;go_ret;exact⟨by rw[H.o];rfl,rfl⟩
 ·have H:=Hd (tagv_no (n:=n) (fun h=>h1 h.1))
  go_enter Tryz.func235,Tryz.ntmps235
  go_wp2;go_ret;exact⟨by rw[H.o];rfl,rfl⟩
def dpO(c:Ca)(t p:Int):Bool:=cav c && tagv t && inR p 256 && decide (0≤plcI c.ls t p)
def dpV(c:Ca)(t p:Int):Ca:=if dpO c t p=true then⟨c.ls.set (plcI c.ls t p).toNat lnz,c.hand⟩else caz
def flV(c:Ca)(t p:Int):Int:=if dpO c t p=true then plcI c.ls t p else 0
theorem flV_no{c:Ca}{t p:Int}(h:dpO c t p=false):flV c t p=0:=by unfold flV;rw[h];rfl
theorem dpV_no{c:Ca}{t p:Int}(h:dpO c t p=false):dpV c t p=caz:=by unfold dpV;rw[h];rfl
theorem sFindLine_any(vl:Value)(c:Ca)(tag page:Int)(w:World)(hT:SlR lnE w vl c.ls):
  Calls Tryz.prog 230 #[.agg #[vl,.int .i64 c.hand],.int .i64 tag,.int .i64 page] w fun r w'=>r=.returned (.tuple #[.int .i64 (flV c tag page),.bool (dpO c tag page)])∧Below w.heap.size w w':=by
 have HV:=Hd hT;obtain⟨A,cc,rfl,hbc,hbm,hL⟩:=hT;have HL:=Hd hL;have hbx:=Own.new_ w 29 #[.slice A c.ls.length cc,.int .i64 c.hand];have hbz:Below w.heap.size w (w.alloc (.cells #[.slice A c.ls.length cc,.int .i64 c.hand] 29)):=bA bR;generalize hW:w.alloc (.cells #[.slice A c.ls.length cc,.int .i64 c.hand] 29)=W0 at hbx hbz;have q0:=hbx.cell_ 0 (v:=.slice A c.ls.length cc) rfl;have q1:=hbx.cell_ 1 (v:=.int .i64 c.hand) rfl;have HBX:=Hd hbx;clear hL hbx
 go_enter Tryz.func230,Tryz.ntmps230
 go_wp2_with fail
 refine(sCacheValid_any _ c _ (HV.o.now hbz)).mono ?_;rintro e w1 ⟨rfl,hb1⟩;have HX1:=Hd (HBX.o.below hb1);have HB1:=Hd (bT hbz hb1);clear hb1 q0 q1
 cases h1:cav c with
 | false=>
  have E1:Hi (dpO c tag page=false):=by show _=_;unfold dpO;rw[h1];rfl
  have E2:=Hd (flV_no E1.o);go_wp2;go_ret2;exact⟨by rw[E1.o,E2.o];rfl,HB1.o⟩
 | true=>
  go_wp2_with fail
  refine(l4Tag_any _ _).mono ?_;rintro e w' ⟨rfl,rfl⟩
  cases h2:tagv tag with
  | false=>
   have E1:Hi (dpO c tag page=false):=by show _=_;unfold dpO;rw[h2];simp
   have E2:=Hd (flV_no E1.o);go_wp2;go_ret2;exact⟨by rw[E1.o,E2.o];rfl,HB1.o⟩
  | true=>
   go_wp2_with fail
   refine(l1Page_any _ _).mono ?_;rintro e w' ⟨rfl,rfl⟩
   cases h3:inR page 256 with
   | false=>
    have E1:Hi (dpO c tag page=false):=by show _=_;unfold dpO;rw[h3];simp
    have E2:=Hd (flV_no E1.o);go_wp2;go_ret2;exact⟨by rw[E1.o,E2.o];rfl,HB1.o⟩
   | true=>
    have q0:=HX1.c 0 (.slice A c.ls.length cc) rfl;have q1:=HX1.c 1 (.int .i64 c.hand) rfl;go_wp2_with fail
    refine(l4Find_any _ c tag page _ (HV.o.now HB1.o)).mono ?_;rintro e w2 ⟨rfl,hb2⟩;have HB2:=Hd (bT HB1.o hb2);clear hb2 q0 q1;by_cases h4:0≤plcI c.ls tag page
    ·have E1:Hi (dpO c tag page=true):=by show _=_;unfold dpO;rw[h1,h2,h3,decide_eq_true h4];rfl
     have E2:Hi (flV c tag page=plcI c.ls tag page):=by show _=_;unfold flV;rw[E1.o];rfl
     have h4b:¬plcI c.ls tag page<0:=by omega
     go_wp2;go_ret2;exact⟨by rw[E1.o,E2.o];rfl,HB2.o⟩
    ·have E1:Hi (dpO c tag page=false):=by show _=_;unfold dpO;rw[decide_eq_false h4];simp
     have E2:=Hd (flV_no E1.o);have h4b:plcI c.ls tag page<0:=by omega
     go_wp2;go_ret2;exact⟨by rw[E1.o,E2.o];rfl,HB2.o⟩
theorem sDropPage_any(vl:Value)(c:Ca)(tag page:Int)(w:World)(hT:SlR lnE w vl c.ls):
  Calls Tryz.prog 211 #[.agg #[vl,.int .i64 c.hand],.int .i64 tag,.int .i64 page] w (Post2 fun v w'=>∃v1,v=.tuple #[.agg #[v1,.int .i64 (dpV c tag page).hand],.bool (dpO c tag page)]∧SlM lnE 50 w.heap.size w' v1 (dpV c tag page).ls∧Below w.heap.size w w'):=by
 have HV:=Hd hT;obtain⟨A,cc,rfl,hbc,hbm,hL⟩:=hT;have HL:=Hd hL;have hbx:=(Own.new_ w 29 #[.slice A c.ls.length cc,.int .i64 c.hand]).alloc (o:=.cells #[.slice none 0 0,.int .i64 0] 29);have hbo:=ownAt (W:=w.alloc (.cells #[.slice A c.ls.length cc,.int .i64 c.hand] 29)) (g:=w.heap.size+1) (t:=29) (cs:=#[.slice none 0 0,.int .i64 0]) (by simp);have hb0:Below w.heap.size w ((w.alloc (.cells #[.slice A c.ls.length cc,.int .i64 c.hand] 29)).alloc (.cells #[.slice none 0 0,.int .i64 0] 29)):=bA (bA bR);have hs0:((w.alloc (.cells #[.slice A c.ls.length cc,.int .i64 c.hand] 29)).alloc (.cells #[.slice none 0 0,.int .i64 0] 29)).heap.size=w.heap.size+2:=by simp
 generalize hW:(w.alloc (.cells #[.slice A c.ls.length cc,.int .i64 c.hand] 29)).alloc (.cells #[.slice none 0 0,.int .i64 0] 29)=W0 at hbx hbo hb0 hs0;have q0:=hbx.cell_ 0 (v:=.slice A c.ls.length cc) rfl;have q1:=hbx.cell_ 1 (v:=.int .i64 c.hand) rfl;have HX0:=Hd hbx;have HR0:=Hd hbo;have HB0:=Hd hb0;have HS0:Hi (w.heap.size+2≤W0.heap.size):=Nat.le_of_eq hs0.symm;clear hbx hbo hb0 hL
 go_enter Tryz.func211,Tryz.ntmps211
 go_wp2_with fail
 refine(sFindLine_any _ c tag page _ (HV.o.now HB0.o)).mono ?_;rintro e w1 ⟨rfl,hb1⟩;have HX1:=Hd (HX0.o.below hb1);have HR1:=Hd (HR0.o.below hb1);have HB1:=Hd (bT HB0.o hb1);have HS1:=Hd (Nat.le_trans HS0.o hb1.size);clear hb1;clear q0 q1
 cases h1:dpO c tag page with
 | false=>
  have HD:=Hd (dpV_no h1);have hl1:=HR1.o.lt;have r0:=HR1.c 0 (.slice none 0 0) rfl;have r1:=HR1.c 1 (.int .i64 0) rfl;have f0:=HR1.o.free 0;have f1:=HR1.o.free 1;go_wp2;have o3:=(HR1.o.set_ 0 (.slice none 0 0)).set_ 1 (.int .i64 0);have t0:=o3.cell_ 0 (v:=.slice none 0 0) rfl;have t1:=o3.cell_ 1 (v:=.int .i64 0) rfl;refine bodyPost_ret (v:=.tuple #[.agg #[.slice none 0 0,.int .i64 0],.bool false]) (by simp[results,Tryz.results211,go_sem,t0,t1]) rfl ⟨_,rfl,_,by rw[HD.o,h1];rfl,by rw[HD.o];exact SlM.nil_ _,bS (bS HB1.o (by simp)) (by simp)⟩
 | true=>
  have h2:=h1;unfold dpO at h2;simp only[Bool.and_eq_true,decide_eq_true_eq]at h2;obtain⟨⟨⟨hcv,_⟩,_⟩,h4⟩:=h2;have hcl:=(cav_parts hcv).2.1;obtain⟨k,x,hk,ex,_⟩:=plcI_lt h4;have HD:Hi (dpV c tag page=⟨c.ls.set k lnz,c.hand⟩):=by show _=_;unfold dpV;rw[h1,if_pos rfl,hk,Int.toNat_natCast]
  have HF:Hi (flV c tag page=(k:Int)):=by show _=_;unfold flV;rw[h1,if_pos rfl,hk]
  rw[HF.o];have hkl:=(List.getElem?_eq_some_iff.1 ex).1;have EX:=Hd ex;clear hk ex h4 hcv HF;have q0:=HX1.c 0 (.slice A c.ls.length cc) rfl;have q1:=HX1.c 1 (.int .i64 c.hand) rfl;go_wp2_with fail
  refine(l4Copy_any _ c _ (HV.o.now HB1.o) (by omega)).mono ?_;rintro e w2 ⟨_,rfl,v1,rfl,hM2,hb2⟩;have hs1:=HS1.o;have hlt1:=HR1.o.lt;obtain⟨A2,c2,rfl,l2,k2,m2⟩:=hM2;obtain⟨g2,cs2,rfl,hg2,O2,_⟩:=m2.own (by omega);have HX2:=Hd (HX1.o.below hb2);have HR2:=Hd (HR1.o.below hb2);have HB2:=Hd (bT HB1.o hb2);have HS2:=Hd (Nat.le_trans HS1.o hb2.size);clear hb2;clear q0 q1;have ho5:=Own.new_ w2 29 #[.slice (some ⟨g2,0,none⟩) c.ls.length c2,.int .i64 c.hand];have hb5:Below w2.heap.size w2 (w2.alloc (.cells #[.slice (some ⟨g2,0,none⟩) c.ls.length c2,.int .i64 c.hand] 29)):=bA bR;generalize hW5:w2.alloc (.cells #[.slice (some ⟨g2,0,none⟩) c.ls.length c2,.int .i64 c.hand] 29)=w5 at ho5 hb5;have M5:=m2.below hb5;have O5:=O2.below hb5;have HX5:=Hd (HX2.o.below hb5);have HR5:=Hd (HR2.o.below hb5);have HB5:=Hd (bT HB2.o hb5);have HS5:=Hd (Nat.le_trans HS2.o hb5.size);clear hb5;clear m2 O2;have o50:=ho5.cell_ 0 (v:=.slice (some ⟨g2,0,none⟩) c.ls.length c2) rfl;have o51:=ho5.cell_ 1 (v:=.int .i64 c.hand) rfl;have z0:=O5.free (k*6);have z1:=O5.free (k*6+1);have z2:=O5.free (k*6+2);have z3:=O5.free (k*6+3);have z4:=O5.free (k*6+4);have z5:=O5.free (k*6+5);obtain⟨bq,oq,eq1,_,y0,y1,y2,y3,y4,y5⟩:=M5.is.ln EX.o;injection eq1 with eq1;injection eq1 with eq1 eq2;subst eq1 eq2;rw[Nat.zero_add]at y0 y1 y2 y3 y4 y5;have HM5:=Hd M5;have HO5:=Hd ho5;have hne:w2.heap.size≠g2:=HO5.o.ne O5 (by decide);have hne2:g2≠w2.heap.size:=fun h=>hne h.symm
  have hlo:=HO5.o.lt;have q3:w.heap.size+1≠g2:=HR5.o.ne O5 (by decide);have q4:g2≠w.heap.size+1:=fun h=>q3 h.symm
  have hlr:=HR5.o.lt;have r0:=HR5.c 0 (.slice none 0 0) rfl;have r1:=HR5.c 1 (.int .i64 0) rfl;have f0:=HR5.o.free 0;have f1:=HR5.o.free 1;have HML:=Hd (HM5.o.wln hkl lnz);clear M5 O5 ho5;go_wp2
  have g1:=((((((HR5.o.far (p:=⟨g2,k*6,none⟩) (u:=.bool false) q3).far (p:=⟨g2,k*6+1,none⟩) (u:=.int .i64 0) q3).far (p:=⟨g2,k*6+2,none⟩) (u:=.int .i64 0) q3).far (p:=⟨g2,k*6+3,none⟩) (u:=.int .i64 0) q3).far (p:=⟨g2,k*6+4,none⟩) (u:=.int .i64 0) q3).far (p:=⟨g2,k*6+5,none⟩) (u:=.bool false) q3)
  have o3:=(g1.set_ 0 (.slice (some ⟨g2,0,none⟩) c.ls.length c2)).set_ 1 (.int .i64 c.hand);have t0:=o3.cell_ 0 (v:=.slice (some ⟨g2,0,none⟩) c.ls.length c2) rfl;have t1:=o3.cell_ 1 (v:=.int .i64 c.hand) rfl;refine bodyPost_ret (v:=.tuple #[.agg #[.slice (some ⟨g2,0,none⟩) c.ls.length c2,.int .i64 c.hand],.bool true]) (by simp[results,Tryz.results211,go_sem,t0,t1]) rfl ⟨_,rfl,_,by rw[HD.o,h1], ?_, ?_⟩
  ·rw[HD.o];exact(slm_of (by simp) (by simpa using l2) k2 ((HML.o.far (p:=⟨w.heap.size+1,0,none⟩) (u:=.slice (some ⟨g2,0,none⟩) c.ls.length c2) hlt1).far (p:=⟨w.heap.size+1,1,none⟩) (u:=.int .i64 c.hand) hlt1)).mono (by have:=HB1.o.size;omega)
  ·repeat (refine bS ?_ (by simp<;>omega))
   exact HB5.o
theorem tagT_ok{m:Ma}(h:tgv m.g=true)(s p:Int):tagv (tagT m s p)=true:=by
 unfold tagT;split
 ·decide
 ·unfold tgT;split
  ·rename_i h1;unfold tgO at h1;simp only[Bool.and_eq_true,decide_eq_true_eq]at h1;obtain⟨k,o,hk,eo,_⟩:=ownI_lt h1.2;obtain⟨b,ht⟩:=tgv_parts h;obtain⟨q,eq,_,q1,q2,_⟩:=tok_at ht (List.getElem?_eq_some_iff.1 eo).1;rw[eo]at eq;injection eq with eq;subst eq;rw[hk,Int.toNat_natCast,List.getD_eq_getElem?_getD,eo];exact tagv_iff.2 ⟨by simp only[Option.getD_some];omega,by simp only[Option.getD_some];omega⟩
  ·decide
theorem drp_no{m:Ma}{s p:Int}(h:tagO m s p=true)(hc:dpO m.c (tagT m s p) p=false)(hv:cav m.c=true)(hg:tgv m.g=true)(hp:inR p 256=true):drpC m s p=m.c:=by
 refine drpC_neg fun h4=> ?_
 unfold dpO at hc;rw[hv,tagT_ok hg,hp,decide_eq_true h4]at hc;cases hc
theorem drp_yes{m:Ma}{s p:Int}(h:tagO m s p=true)(hc:dpO m.c (tagT m s p) p=true):drpC m s p=dpV m.c (tagT m s p) p:=by
 unfold drpC dpV;rw[hc,if_pos rfl];unfold dpO at hc;simp only[Bool.and_eq_true,decide_eq_true_eq]at hc;rw[if_pos ⟨h,hc.2⟩]
theorem l6Forget_any(vb vf vl vo:Value)(m:Ma)(s p:Int)(w:World)(hM:MaR w vb vf vl vo m)(hm:mav m=true)(hp:inR p 256=true):
  Calls Tryz.prog 162 #[.agg #[vb,vf,vl,.int .i64 m.c.hand,.int .i64 m.g.count,.int .i64 m.g.next,.int .i64 m.g.round,vo,.int .i64 m.sp],.agg #[.int .i64 s,.int .i64 p]] w (Post2 fun v w'=>∃v1 v2 v3 v4,v=.agg #[v1,v2,v3,.int .i64 (drpM m m.t s p).c.hand,.int .i64 (drpM m m.t s p).g.count,.int .i64 (drpM m m.t s p).g.next,.int .i64 (drpM m m.t s p).g.round,v4,.int .i64 (drpM m m.t s p).sp]∧MaM w.heap.size w' v1 v2 v3 v4 (drpM m m.t s p)∧Below w.heap.size w w'):=by
 obtain⟨htv,hcv,hgv,_⟩:=mav_parts hm;obtain⟨a1,a2,a3,a4⟩:=mav_len hm;obtain⟨W0,hW,hbx,hbk,hbo,hb0,hs0⟩:=box3 w #[vb,vf,vl,.int .i64 m.c.hand,.int .i64 m.g.count,.int .i64 m.g.next,.int .i64 m.g.round,vo,.int .i64 m.sp] 34 #[.int .i64 s,.int .i64 p] 54 #[.slice none 0 0,.slice none 0 0,.slice none 0 0,.int .i64 0,.int .i64 0,.int .i64 0,.int .i64 0,.slice none 0 0,.int .i64 0] 34;have HX0:=Hd hbx;have HK0:=Hd hbk;have HR0:=Hd hbo;have HB0:=Hd hb0;have HS0:Hi (w.heap.size+3≤W0.heap.size):=Nat.le_of_eq hs0.symm;clear hbx hbk hbo hb0;have HM:=Hd hM;clear hM;obtain⟨m00,m10,m20,m30,m40,m50,m60,m70,m80⟩:=cells9 HX0.o
 go_enter Tryz.func162,Tryz.ntmps162
 go_wp2_with fail
 refine(l6Copy_any vb vf vl vo m _ (HM.o.now HB0.o) a1 a2 a3 a4).mono ?_;rintro e w3 ⟨_,rfl,q1,q2,q3,q4,rfl,hM3,hb3⟩;have hM3':=hM3.mono (B':=w.heap.size+3) HS0.o;obtain⟨B1,d1,rfl,_⟩:=hM3.t.b;obtain⟨B2,d2,rfl,_⟩:=hM3.t.f;obtain⟨B3,d3,rfl,_⟩:=hM3.l;obtain⟨B4,d4,rfl,_⟩:=hM3.o;have HX3:=Hd (HX0.o.below hb3);have HK3:=Hd (HK0.o.below hb3);have HR3:=Hd (HR0.o.below hb3);have HB3:=Hd (bT HB0.o hb3);have HS3:=Hd (Nat.le_trans HS0.o hb3.size);clear hb3;clear m00 m10 m20 m30 m40 m50 m60 m70 m80;have ho4:=Own.new_ w3 34 #[.slice B1 m.t.bs.length d1,.slice B2 m.t.fs.length d2,.slice B3 m.c.ls.length d3,.int .i64 m.c.hand,.int .i64 m.g.count,.int .i64 m.g.next,.int .i64 m.g.round,.slice B4 m.g.os.length d4,.int .i64 m.sp];have hb4:Below w3.heap.size w3 (w3.alloc (.cells #[.slice B1 m.t.bs.length d1,.slice B2 m.t.fs.length d2,.slice B3 m.c.ls.length d3,.int .i64 m.c.hand,.int .i64 m.g.count,.int .i64 m.g.next,.int .i64 m.g.round,.slice B4 m.g.os.length d4,.int .i64 m.sp] 34)):=bA bR;have hgt:w.heap.size+3≤w3.heap.size:=HS3.o;generalize hW4:w3.alloc (.cells #[.slice B1 m.t.bs.length d1,.slice B2 m.t.fs.length d2,.slice B3 m.c.ls.length d3,.int .i64 m.c.hand,.int .i64 m.g.count,.int .i64 m.g.next,.int .i64 m.g.round,.slice B4 m.g.os.length d4,.int .i64 m.sp] 34)=w4 at ho4 hb4;have HM4:=Hd (hM3'.now hb4);have HO4:=Hd ho4;have HX4:=Hd (HX3.o.below hb4);have HK4:=Hd (HK3.o.below hb4);have HR4:=Hd (HR3.o.below hb4);have HB4:=Hd (bT HB3.o hb4);have HS4:=Hd (Nat.le_trans HS3.o hb4.size);clear hb4;clear hM3 hM3' ho4;obtain⟨m04,m14,m24,m34,m44,m54,m64,m74,m84⟩:=cells9 HX4.o;have k04:=HK4.c 0 (.int .i64 s) rfl;have k14:=HK4.c 1 (.int .i64 p) rfl;go_wp2_with fail
 refine(l6Tag_any vb vf vl vo m s p _ (HM.o.now HB4.o) hgv).mono ?_;rintro e w5 ⟨rfl,hb5⟩;have HM5:=Hd (HM4.o.now hb5);have HO5:=Hd (HO4.o.below hb5);have HX5:=Hd (HX4.o.below hb5);have HK5:=Hd (HK4.o.below hb5);have HR5:=Hd (HR4.o.below hb5);have HB5:=Hd (bT HB4.o hb5);have HS5:=Hd (Nat.le_trans HS4.o hb5.size);clear hb5;clear m04 m14 m24 m34 m44 m54 m64 m74 m84;clear k04 k14 hW4
 cases hto:tagO m s p with
 | false=>
  have HV:Hi (drpM m m.t s p=m):=by show _=_;unfold drpM;rw[drpC_no hto]
  obtain⟨r0x,r1x,r2x,r3x,r4x,r5x,r6x,r7x,r8x⟩:=cells9 HR5.o;obtain⟨z0x,z1x,z2x,z3x,z4x,z5x,z6x,z7x,z8x⟩:=free9 HR5.o;obtain⟨p0o,p1o,p2o,p3o,p4o,p5o,p6o,p7o,p8o⟩:=cells9 HO5.o;have hlr:=HR5.o.lt;have hlo:=HO5.o.lt;go_wp2;have o3:=HR5.o.set9 (.slice B1 m.t.bs.length d1) (.slice B2 m.t.fs.length d2) (.slice B3 m.c.ls.length d3) (.int .i64 (m).c.hand) (.int .i64 m.g.count) (.int .i64 m.g.next) (.int .i64 m.g.round) (.slice B4 m.g.os.length d4) (.int .i64 m.sp);obtain⟨p0t,p1t,p2t,p3t,p4t,p5t,p6t,p7t,p8t⟩:=cells9 o3;refine bodyPost_ret (v:=.agg #[.slice B1 m.t.bs.length d1,.slice B2 m.t.fs.length d2,.slice B3 m.c.ls.length d3,.int .i64 m.c.hand,.int .i64 m.g.count,.int .i64 m.g.next,.int .i64 m.g.round,.slice B4 m.g.os.length d4,.int .i64 m.sp]) (by simp[results,Tryz.results162,go_sem,p0t,p1t,p2t,p3t,p4t,p5t,p6t,p7t,p8t]) rfl ⟨_,rfl,_,_,_,_,by rw[HV.o], ?_, ?_⟩
  ·rw[HV.o];exact(HM5.o.far9 HR5.o _ _ _ _ _ _ _ _ _).mono (by omega)
  ·repeat (refine bS ?_ (by simp<;>omega))
   exact HB5.o
 | true=>
  obtain⟨m05,m15,m25,m35,m45,m55,m65,m75,m85⟩:=cells9 HX5.o;have k05:=HK5.c 0 (.int .i64 s) rfl;have k15:=HK5.c 1 (.int .i64 p) rfl;go_wp2_with fail
  refine(sDropPage_any vl m.c (tagT m s p) p _ (HM.o.l.now HB5.o)).mono ?_;rintro e w6 ⟨_,rfl,v1,rfl,hL6,hb6⟩;obtain⟨B5,d5,rfl,_⟩:=hL6;have hs5:=HS5.o;have ho7:=Own.new_ w6 29 #[.slice B5 (dpV m.c (tagT m s p) p).ls.length d5,.int .i64 (dpV m.c (tagT m s p) p).hand];have hb7:Below w6.heap.size w6 (w6.alloc (.cells #[.slice B5 (dpV m.c (tagT m s p) p).ls.length d5,.int .i64 (dpV m.c (tagT m s p) p).hand] 29)):=bA bR
  have HL6:Hi (SlM lnE 50 w5.heap.size w6 (.slice B5 (dpV m.c (tagT m s p) p).ls.length d5) (dpV m.c (tagT m s p) p).ls):=⟨B5,d5,rfl,by assumption⟩
  generalize hW7:w6.alloc (.cells #[.slice B5 (dpV m.c (tagT m s p) p).ls.length d5,.int .i64 (dpV m.c (tagT m s p) p).hand] 29)=w7 at ho7 hb7;have HM7:=Hd (HM5.o.now (bT hb6 hb7));have HO7:=Hd (HO5.o.below (bT hb6 hb7));have HL7:=Hd ((HL6.o.now hb7).mono hs5);have HC7:=Hd ho7;have HX6:=Hd (HX5.o.below hb6);have HK6:=Hd (HK5.o.below hb6);have HR6:=Hd (HR5.o.below hb6);have HB6:=Hd (bT HB5.o hb6);have HS6:=Hd (Nat.le_trans HS5.o hb6.size);clear hb6;have HX7:=Hd (HX6.o.below hb7);have HK7:=Hd (HK6.o.below hb7);have HR7:=Hd (HR6.o.below hb7);have HB7:=Hd (bT HB6.o hb7);have HS7:=Hd (Nat.le_trans HS6.o hb7.size);clear hb7;clear m05 m15 m25 m35 m45 m55 m65 m75 m85;clear k05 k15 ho7 HL6
  cases hdo:dpO m.c (tagT m s p) p with
  | false=>
   have HV:Hi (drpM m m.t s p=m):=by show _=_;unfold drpM;rw[drp_no hto hdo hcv hgv hp]
   obtain⟨r0x,r1x,r2x,r3x,r4x,r5x,r6x,r7x,r8x⟩:=cells9 HR7.o;obtain⟨z0x,z1x,z2x,z3x,z4x,z5x,z6x,z7x,z8x⟩:=free9 HR7.o;obtain⟨p0o,p1o,p2o,p3o,p4o,p5o,p6o,p7o,p8o⟩:=cells9 HO7.o;have hlr:=HR7.o.lt;have hlo:=HO7.o.lt;go_wp2;have o3:=HR7.o.set9 (.slice B1 m.t.bs.length d1) (.slice B2 m.t.fs.length d2) (.slice B3 m.c.ls.length d3) (.int .i64 (m).c.hand) (.int .i64 m.g.count) (.int .i64 m.g.next) (.int .i64 m.g.round) (.slice B4 m.g.os.length d4) (.int .i64 m.sp);obtain⟨p0t,p1t,p2t,p3t,p4t,p5t,p6t,p7t,p8t⟩:=cells9 o3;refine bodyPost_ret (v:=.agg #[.slice B1 m.t.bs.length d1,.slice B2 m.t.fs.length d2,.slice B3 m.c.ls.length d3,.int .i64 m.c.hand,.int .i64 m.g.count,.int .i64 m.g.next,.int .i64 m.g.round,.slice B4 m.g.os.length d4,.int .i64 m.sp]) (by simp[results,Tryz.results162,go_sem,p0t,p1t,p2t,p3t,p4t,p5t,p6t,p7t,p8t]) rfl ⟨_,rfl,_,_,_,_,by rw[HV.o], ?_, ?_⟩
   ·rw[HV.o];exact(HM7.o.far9 HR7.o _ _ _ _ _ _ _ _ _).mono (by omega)
   ·repeat (refine bS ?_ (by simp<;>omega))
    exact HB7.o
  | true=>
   have HV:Hi (drpM m m.t s p={m with c:=dpV m.c (tagT m s p) p}):=by show _=_;unfold drpM;rw[drp_yes hto hdo]
   have c0:=HC7.c 0 (.slice B5 (dpV m.c (tagT m s p) p).ls.length d5) rfl;have c1:=HC7.c 1 (.int .i64 (dpV m.c (tagT m s p) p).hand) rfl;have hlc:=HC7.o.lt;obtain⟨r0x,r1x,r2x,r3x,r4x,r5x,r6x,r7x,r8x⟩:=cells9 HR7.o;obtain⟨z0x,z1x,z2x,z3x,z4x,z5x,z6x,z7x,z8x⟩:=free9 HR7.o;obtain⟨p0o,p1o,p2o,p3o,p4o,p5o,p6o,p7o,p8o⟩:=cells9 HO7.o;have g2:=HO7.o.free 2;have g3:=HO7.o.free 3;have hlr:=HR7.o.lt;have hlo:=HO7.o.lt;have hrn:w.heap.size+1+1≠w3.heap.size:=by omega
   have hrm:w3.heap.size≠w.heap.size+1+1:=by omega
   have hcn:w6.heap.size≠w3.heap.size:=HC7.o.ne HO7.o (by decide);have hcm:w3.heap.size≠w6.heap.size:=fun h=>hcn h.symm
   generalize hVV:dpV m.c (tagT m s p) p=V at*;go_wp2;have g1:=(HR7.o.far (p:=⟨w3.heap.size,2,none⟩) (u:=.slice B5 V.ls.length d5) hrn).far (p:=⟨w3.heap.size,3,none⟩) (u:=.int .i64 V.hand) hrn;have hb9:Below w.heap.size w ((w7.setCell ⟨w3.heap.size,2,none⟩ (.slice B5 V.ls.length d5)).setCell ⟨w3.heap.size,3,none⟩ (.int .i64 V.hand)):=bS (bS HB7.o (by simp;omega)) (by simp;omega)
   have hmm:MaM (w.heap.size+3) w7 (.slice B1 m.t.bs.length d1) (.slice B2 m.t.fs.length d2) (.slice B5 V.ls.length d5) (.slice B4 m.g.os.length d4) {m with c:=V}:=⟨HM7.o.t,HL7.o,HM7.o.o⟩
   have hmm2:=(hmm.farT (u:=.slice B5 V.ls.length d5) (i:=2) HO7.o).farT (u:=.int .i64 V.hand) (i:=3) (HO7.o.set_ 2 (.slice B5 V.ls.length d5));have o3:=g1.set9 (.slice B1 m.t.bs.length d1) (.slice B2 m.t.fs.length d2) (.slice B5 V.ls.length d5) (.int .i64 V.hand) (.int .i64 m.g.count) (.int .i64 m.g.next) (.int .i64 m.g.round) (.slice B4 m.g.os.length d4) (.int .i64 m.sp);obtain⟨p0t,p1t,p2t,p3t,p4t,p5t,p6t,p7t,p8t⟩:=cells9 o3;refine bodyPost_ret (v:=.agg #[.slice B1 m.t.bs.length d1,.slice B2 m.t.fs.length d2,.slice B5 V.ls.length d5,.int .i64 ({m with c:=V}:Ma).c.hand,.int .i64 ({m with c:=V}:Ma).g.count,.int .i64 ({m with c:=V}:Ma).g.next,.int .i64 ({m with c:=V}:Ma).g.round,.slice B4 m.g.os.length d4,.int .i64 ({m with c:=V}:Ma).sp]) (by simp[results,Tryz.results162,go_sem,p0t,p1t,p2t,p3t,p4t,p5t,p6t,p7t,p8t]) rfl ⟨_,rfl,_,_,_,_,by rw[HV.o], ?_, ?_⟩
   ·rw[HV.o];exact(hmm2.far9 g1 _ _ _ _ _ _ _ _ _).mono (by omega)
   ·repeat (refine bS ?_ (by simp<;>omega))
    exact HB7.o
end Go.Proofs.YtfbnokjdkhcgoaaGreatDoor
