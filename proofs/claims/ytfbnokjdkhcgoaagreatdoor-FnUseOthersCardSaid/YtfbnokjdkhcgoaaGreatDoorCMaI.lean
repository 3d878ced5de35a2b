/- A part of the proofs of this seat. -/
import Derived.Test.YtfbnokjdkhcgoaaGreatDoorCCaI
set_option linter.unusedVariables false
set_option linter.unusedSimpArgs false
set_option maxRecDepth 1000000
set_option maxHeartbeats 16000000
namespace Go.Proofs.YtfbnokjdkhcgoaaGreatDoor
open Go.RowKit
theorem MachineValid_any (vb vf vl vo:Value) (m:Ma) (w:World) (hM:MaR w vb vf vl vo m) (hfree:Free w):
  Calls Tryz.prog 72 #[.agg #[vb,vf,vl,.int .i64 m.c.hand,.int .i64 m.g.count,.int .i64 m.g.next,.int .i64 m.g.round,vo,.int .i64 m.sp]] w fun r w'=>r=.returned (.bool (mav m))∧Below w.heap.size w w':=by
 have HM:=Hd hM;have HF:=Hd hfree;obtain⟨W0,hW,hbx,hbz,_⟩:=box1 w #[vb,vf,vl,.int .i64 m.c.hand,.int .i64 m.g.count,.int .i64 m.g.next,.int .i64 m.g.round,vo,.int .i64 m.sp] 34;have HX0:=Hd hbx;have HB0:=Hd hbz;clear hbx hbz;clear hM hfree;obtain⟨m00,m10,m20,m30,m40,m50,m60,m70,m80⟩:=cells9 HX0.o
 go_enter Tryz.func72,Tryz.ntmps72
 go_wp2_with fail
 refine(TableValid_any vb vf m.t _ (HM.o.t.now HB0.o) (HF.o.now HB0.o)).mono ?_;rintro e w1 ⟨rfl,hb1⟩;have HX1:=Hd (HX0.o.below hb1);have HB1:=Hd (bT HB0.o hb1);clear hb1;clear m00 m10 m20 m30 m40 m50 m60 m70 m80;obtain⟨m01,m11,m21,m31,m41,m51,m61,m71,m81⟩:=cells9 HX1.o
 cases h1:tv m.t with
 | false=>
  have HE:Hi (mav m=false):=mav_no fun h=>by have:=(mav_parts h).1;rw[h1]at this;cases this
  go_wp2;go_ret;exact⟨by rw[HE.o];rfl,HB1.o⟩
 | true=>
 go_wp2_with fail
 refine(CacheValid_any vl m.c _ (HM.o.l.now HB1.o)).mono ?_;rintro e w2 ⟨rfl,hb2⟩;have HX2:=Hd (HX1.o.below hb2);have HB2:=Hd (bT HB1.o hb2);clear hb2;clear m01 m11 m21 m31 m41 m51 m61 m71 m81;obtain⟨m02,m12,m22,m32,m42,m52,m62,m72,m82⟩:=cells9 HX2.o
 cases h2:cav m.c with
 | false=>
  have HE:Hi (mav m=false):=mav_no fun h=>by have:=(mav_parts h).2.1;rw[h2]at this;cases this
  go_wp2;go_ret;exact⟨by rw[HE.o];rfl,HB2.o⟩
 | true=>
 go_wp2_with fail
 refine(TagsValid_any vo m.g _ (HM.o.o.now HB2.o)).mono ?_;rintro e w3 ⟨rfl,hb3⟩;have HX3:=Hd (HX2.o.below hb3);have HB3:=Hd (bT HB2.o hb3);clear hb3;clear m02 m12 m22 m32 m42 m52 m62 m72 m82;obtain⟨m03,m13,m23,m33,m43,m53,m63,m73,m83⟩:=cells9 HX3.o
 cases h3:tgv m.g with
 | false=>
  have HE:Hi (mav m=false):=mav_no fun h=>by have:=(mav_parts h).2.2.1;rw[h3]at this;cases this
  go_wp2;go_ret;exact⟨by rw[HE.o];rfl,HB3.o⟩
 | true=>
 go_wp2_with fail
 refine(own_any vo m.g m.sp _ (HM.o.o.now HB3.o)).mono ?_;rintro e w4 ⟨rfl,hb4⟩;have HX4:=Hd (HX3.o.below hb4);have HB4:=Hd (bT HB3.o hb4);clear hb4;clear m03 m13 m23 m33 m43 m53 m63 m73 m83;obtain⟨m04,m14,m24,m34,m44,m54,m64,m74,m84⟩:=cells9 HX4.o;by_cases h4:ownI m.g.os m.sp<0
 ·have HE:Hi (mav m=false):=mav_no fun h=>by have:=(mav_parts h).2.2.2.1;omega
  go_wp2;go_ret;exact⟨by rw[HE.o];rfl,HB4.o⟩
 have HV:=Hd (And.intro h1 (And.intro h2 (And.intro h3 h4)));obtain⟨Af,cf,rfl,hfc,hfm,hF⟩:=HM.o.t.f;have hfl:m.t.fs.length≤16:=(tv_parts h1).1.2.1;have HFS:=Hd hF;clear hF;go_wp2;clear m04 m14 m24 m34 m44 m54 m64 m74 m84;go_loopw [40] (fun u wr=>∃k:Nat,k≤m.t.fs.length∧u=.int .i64 k∧Hi (All_ frM m.t.fs k)∧Below w4.heap.size w4 wr) (fun u _=>m.t.fs.length-(intOf u).toNat)
 case atStart=>exact⟨0,by omega,rfl,all_zero,bR⟩
 case round=>
  obtain⟨k,hk,rfl,hall,hb5⟩:=hrel;by_cases hlt:k<m.t.fs.length
  ·obtain⟨f,ef⟩:∃f,m.t.fs[k]?=some f:=⟨_,List.getElem?_eq_getElem hlt⟩
   obtain⟨b,o,rfl,hbb,d0,d1,d2,d3,d4⟩:=(HFS.o.below (bT HB4.o hb5)).fr ef;have EF:=Hd ef;clear ef
   cases hu:f.used with
   | false=>
    rw[hu]at d0;have HA:=Hd (all_step hall.o EF.o (by unfold frM;rw[hu];rfl));go_wp2;go_roundw;case rel=>exact⟨k+1,by omega,by go_num,HA,bA hb5⟩
    case measure=>simp[intOf];omega
   | true=>
   rw[hu]at d0;by_cases hp:128≤f.p
   case neg=>
    have HA:=Hd (all_step hall.o EF.o (by unfold frM;rw[decide_eq_false hp];simp));go_wp2;go_roundw;case rel=>exact⟨k+1,by omega,by go_num,HA,bA hb5⟩
    case measure=>simp[intOf];omega
   case pos=>
   by_cases hs:f.s=0
   case pos=>
    have HA:=Hd (all_step hall.o EF.o (by unfold frM;rw[decide_eq_true hs];simp));go_wp2;go_roundw;case rel=>exact⟨k+1,by omega,by go_num,HA,bA hb5⟩
    case measure=>simp[intOf];omega
   case neg=>
    have HE:Hi (mav m=false):=mav_fr EF.o (by unfold frM;rw[hu,decide_eq_true hp,decide_eq_false hs];rfl);go_wp2;go_ret;exact⟨by rw[HE.o];rfl,bA (bT HB4.o hb5)⟩
  ·obtain rfl:k=m.t.fs.length:=by omega
   have HFA:=Hd (all_end hall.o);clear hall;obtain⟨Al,cl,rfl,hlc,hlm,hL⟩:=HM.o.l;have hll:m.c.ls.length≤8:=(cav_parts h2).2.1;have HLS:=Hd hL;have HX5:=Hd (HX4.o.below hb5);have HB5:=Hd (bT HB4.o hb5);clear hL hb5;have m25:=HX5.c 2 (.slice Al m.c.ls.length cl) rfl;go_wp2;clear m25
   obtain⟨w5,rfl⟩:∃w5,w5=wr:=⟨_,rfl⟩
   go_loopw [63] (fun u wi=>∃k:Nat,k≤m.c.ls.length∧u=.int .i64 k∧Hi (All_ (lnM m) m.c.ls k)∧Below w5.heap.size w5 wi) (fun u _=>m.c.ls.length-(intOf u).toNat)
   case atStart=>exact⟨0,by omega,rfl,all_zero,bR⟩
   case round=>
    obtain⟨k,hk,rfl,hall,hb6⟩:=hrel;by_cases hlt:k<m.c.ls.length
    ·obtain⟨x,ex⟩:∃x,m.c.ls[k]?=some x:=⟨_,List.getElem?_eq_getElem hlt⟩
     obtain⟨xv,xt,xp,xf,xr,xw⟩:=x;obtain⟨b,o,rfl,hbb,d0,d1,d2,d3,d4,d5⟩:=(HLS.o.below (bT HB5.o hb6)).ln ex;have EX:=Hd ex;have hx7:=Own.new_ wr 50 #[.bool xv,.int .i64 xt,.int .i64 xp,.int .i64 xf,.int .i64 xr,.bool xw];have hx7b:=(HX5.o.below hb6).alloc (o:=.cells #[.bool xv,.int .i64 xt,.int .i64 xp,.int .i64 xf,.int .i64 xr,.bool xw] 50);have hb7:Below w5.heap.size w5 (wr.alloc (.cells #[.bool xv,.int .i64 xt,.int .i64 xp,.int .i64 xf,.int .i64 xr,.bool xw] 50)):=bA hb6;generalize hW7:wr.alloc (.cells #[.bool xv,.int .i64 xt,.int .i64 xp,.int .i64 xf,.int .i64 xr,.bool xw] 50)=w7 at hx7 hx7b hb7;have HX7:=Hd hx7b;have HL7:=Hd hx7;have HB57:=Hd hb7;clear ex hx7b hb7;have x0:=hx7.cell_ 0 (v:=.bool xv) rfl;have x1:=hx7.cell_ 1 (v:=.int .i64 xt) rfl;have x2:=hx7.cell_ 2 (v:=.int .i64 xp) rfl;have x5:=hx7.cell_ 5 (v:=.bool xw) rfl;have hxl:=hx7.lt;clear hx7
     cases xv with
     | false=>
      have hv:(⟨false,xt,xp,xf,xr,xw⟩:Ln).v=false:=rfl;have HA:=Hd (all_step hall.o EX.o (lnM_inv hv));go_wp2;go_roundw;case rel=>exact⟨k+1,by omega,by go_num,HA,HB57.o⟩
      case measure=>simp[intOf];omega
     | true=>
     by_cases hp:128≤xp
     case pos=>
      by_cases ht:xt=-1
      case neg=>
       have HE:Hi (mav m=false):=mav_ln EX.o (lnM_sh rfl (fun h=>ht (h.1 hp)));go_wp2;go_ret;exact⟨by rw[HE.o];rfl,bT HB5.o HB57.o⟩
      case pos=>
       subst ht
       cases xw with
       | false=>
        subst hW7;clear x0 x1 x2 x5;have hbl:=(HX5.o.below hb6).lt;have hm0:=xcell (HX7.c 0 (vb) rfl) HX7.o.lt;have hm1:=xcell (HX7.c 1 (.slice Af m.t.fs.length cf) rfl) HX7.o.lt;have hl2:=xcell (HL7.c 2 (.int .i64 xp) rfl) HL7.o.lt;have HT9:=Hd (HM.o.t.now (bT HB5.o HB57.o));have hln:=lnM_at1 (m:=m) (f:=xf) (r:=xr) (w:=false) (⟨fun _=>rfl,fun _=>hp⟩) (fun _=>hp) (lnSp_sh hp);have HK:=Hd (KeyFor_any 0 xp);have HFN:=Hd (fun W (h:TaR W vb (.slice Af m.t.fs.length cf) m.t)=>find_any vb (.slice Af m.t.fs.length cf) m.t (keyI 0 xp) xp W h);have hidx:= @fndI_lt m.t.fs (keyI 0 xp) xp;generalize keyI 0 xp=ks at*;generalize hN:fndI m.t.fs ks xp=N at*;go_wp2;try clear x0 x1 x2 x5
        refine wp_region_ext (by kernel_rfl) (by kernel_rfl) ?_;repeat (go_big_quiet_step ((first | (go_at_call 40;exact ext_call (HK.o _)) | (go_at_call 41;exact ext_call (HFN.o _ (HT9.o.now (Ext.ok _)))))))
        refine wpQuiet_nil ?_;intro _ hw';obtain⟨⟨wq,hq⟩,hw''⟩:=hw';subst hw'';try dsimp only
        have HBQ:=Hd (bT HB57.o hq);have hl3:=xcell ((HL7.o.below hq).cell_ 3 (v:=.int .i64 xf) rfl) (HL7.o.below hq).lt;have hl4:=xcell ((HL7.o.below hq).cell_ 4 (v:=.int .i64 xr) rfl) (HL7.o.below hq).lt;have hm1:=xcell ((HX7.o.below hq).cell_ 1 (v:=.slice Af m.t.fs.length cf) rfl) (HX7.o.below hq).lt;by_cases hn:0≤N
        case neg=>
         have HE:Hi (mav m=false):=mav_ln EX.o (by rw[hln,decide_eq_false hn];rfl);clear hidx hln;go_wp2;have hn2:N<0:=by omega
         refine wp_region_ext (by kernel_rfl) (by kernel_rfl) ?_;repeat (go_big_quiet_step (fail))
         refine wpQuiet_nil ?_;intro _ hw';obtain⟨⟨wq,hq⟩,hw''⟩:=hw';subst hw'';try dsimp only
         go_wp2;go_ret;exact⟨by rw[HE.o];rfl,bT HB5.o (bT HBQ.o hq)⟩
        case pos=>
         obtain⟨i,f,rfl,ef,_,_⟩:=hidx hn;obtain⟨b',o',eA,hbb',f0,f1,f2,f3,f4⟩:=(HFS.o.below (bT HB5.o HBQ.o)).fr ef;subst eA;have hfr:=xcell f3 (by have:=(bT HB5.o HBQ.o).size;show b'<_;omega);rw[decide_eq_true hn,Int.toNat_natCast,List.getD_eq_getElem?_getD,ef,Option.getD_some,Bool.true_and]at hln;have hil:=(List.getElem?_eq_some_iff.1 ef).1;clear f0 f1 f2 f3 f4 ef hidx;by_cases hf:(i:Int)=xf
         case neg=>
          have HE:Hi (mav m=false):=mav_ln EX.o (by rw[hln,decide_eq_false hf];rfl);clear hln;go_wp2;have hf2:((i:Int) != xf)=true:=by rw[bne_iff_ne];exact hf
          have hn2:¬(i:Int)<0:=by omega
          refine wp_region_ext (by kernel_rfl) (by kernel_rfl) ?_;repeat (go_big_quiet_step (fail))
          refine wpQuiet_nil ?_;intro _ hw';obtain⟨⟨wq,hq⟩,hw''⟩:=hw';subst hw'';try dsimp only
          go_wp2;go_ret;exact⟨by rw[HE.o];rfl,bT HB5.o (bT HBQ.o hq)⟩
         case pos=>
         subst hf;by_cases hr:f.r=xr
         case neg=>
          have HE:Hi (mav m=false):=mav_ln EX.o (by rw[hln,decide_eq_false hr];simp);clear hln;go_wp2;have hf2:((i:Int) != (i:Int))=false:=bne_self_eq_false _;have hr2:(f.r != xr)=true:=by rw[bne_iff_ne];exact hr
          have hn2:¬(i:Int)<0:=by omega
          refine wp_region_ext (by kernel_rfl) (by kernel_rfl) ?_;repeat (go_big_quiet_step (fail))
          refine wpQuiet_nil ?_;intro _ hw';obtain⟨⟨wq,hq⟩,hw''⟩:=hw';subst hw'';try dsimp only
          go_wp2;go_ret;exact⟨by rw[HE.o];rfl,bT HB5.o (bT HBQ.o hq)⟩
         case pos=>
          subst hr;have HA:=Hd (all_step hall.o EX.o (by rw[hln,decide_eq_true rfl,decide_eq_true rfl];rfl));clear hln;go_wp2;have hf2:((i:Int) != (i:Int))=false:=bne_self_eq_false _;have hr2:(f.r != f.r)=false:=bne_self_eq_false _;have hn2:¬(i:Int)<0:=by omega
          refine wp_region_ext (by kernel_rfl) (by kernel_rfl) ?_;repeat (go_big_quiet_step (fail))
          refine wpQuiet_nil ?_;intro _ hw';obtain⟨⟨wq,hq⟩,hw''⟩:=hw';subst hw'';try dsimp only
          go_wp2;go_roundw;case rel=>exact⟨k+1,by omega,by go_num,HA,bT HBQ.o hq⟩
          case measure=>simp[intOf];omega
       | true=>
        have hm0:=xcell (HX7.c 0 (vb) rfl) HX7.o.lt;have hm1:=xcell (HX7.c 1 (.slice Af m.t.fs.length cf) rfl) HX7.o.lt;have hl2:=xcell (HL7.c 2 (.int .i64 xp) rfl) HL7.o.lt;have HT9:=Hd (HM.o.t.now (bT HB5.o HB57.o));have hln:=lnM_at1 (m:=m) (f:=xf) (r:=xr) (w:=true) (⟨fun _=>rfl,fun _=>hp⟩) (fun _=>hp) (lnSp_sh hp);have HK:=Hd (KeyFor_any 0 xp);have HFN:=Hd (fun W (h:TaR W vb (.slice Af m.t.fs.length cf) m.t)=>find_any vb (.slice Af m.t.fs.length cf) m.t (keyI 0 xp) xp W h);have hidx:= @fndI_lt m.t.fs (keyI 0 xp) xp;generalize keyI 0 xp=ks at*;generalize hN:fndI m.t.fs ks xp=N at*;go_wp2;try clear x0 x1 x2 x5
        refine wp_region_ext (by kernel_rfl) (by kernel_rfl) ?_;repeat (go_big_quiet_step ((first | (go_at_call 40;exact ext_call (HK.o _)) | (go_at_call 41;exact ext_call (HFN.o _ (HT9.o.now (Ext.ok _)))))))
        refine wpQuiet_nil ?_;intro _ hw';obtain⟨⟨wq,hq⟩,hw''⟩:=hw';subst hw'';try dsimp only
        have HBQ:=Hd (bT HB57.o hq);have hl3:=xcell ((HL7.o.below hq).cell_ 3 (v:=.int .i64 xf) rfl) (HL7.o.below hq).lt;have hl4:=xcell ((HL7.o.below hq).cell_ 4 (v:=.int .i64 xr) rfl) (HL7.o.below hq).lt;have hm1:=xcell ((HX7.o.below hq).cell_ 1 (v:=.slice Af m.t.fs.length cf) rfl) (HX7.o.below hq).lt;by_cases hn:0≤N
        case neg=>
         have HE:Hi (mav m=false):=mav_ln EX.o (by rw[hln,decide_eq_false hn];rfl);clear hidx hln;go_wp2;have hn2:N<0:=by omega
         refine wp_region_ext (by kernel_rfl) (by kernel_rfl) ?_;repeat (go_big_quiet_step (fail))
         refine wpQuiet_nil ?_;intro _ hw';obtain⟨⟨wq,hq⟩,hw''⟩:=hw';subst hw'';try dsimp only
         go_wp2;go_ret;exact⟨by rw[HE.o];rfl,bT HB5.o (bT HBQ.o hq)⟩
        case pos=>
         obtain⟨i,f,rfl,ef,_,_⟩:=hidx hn;obtain⟨b',o',eA,hbb',f0,f1,f2,f3,f4⟩:=(HFS.o.below (bT HB5.o HBQ.o)).fr ef;subst eA;have hfr:=xcell f3 (by have:=(bT HB5.o HBQ.o).size;show b'<_;omega);rw[decide_eq_true hn,Int.toNat_natCast,List.getD_eq_getElem?_getD,ef,Option.getD_some,Bool.true_and]at hln;have hil:=(List.getElem?_eq_some_iff.1 ef).1;clear f0 f1 f2 f3 f4 ef hidx;by_cases hf:(i:Int)=xf
         case neg=>
          have HE:Hi (mav m=false):=mav_ln EX.o (by rw[hln,decide_eq_false hf];rfl);clear hln;go_wp2;have hf2:((i:Int) != xf)=true:=by rw[bne_iff_ne];exact hf
          have hn2:¬(i:Int)<0:=by omega
          refine wp_region_ext (by kernel_rfl) (by kernel_rfl) ?_;repeat (go_big_quiet_step (fail))
          refine wpQuiet_nil ?_;intro _ hw';obtain⟨⟨wq,hq⟩,hw''⟩:=hw';subst hw'';try dsimp only
          go_wp2;go_ret;exact⟨by rw[HE.o];rfl,bT HB5.o (bT HBQ.o hq)⟩
         case pos=>
         subst hf;by_cases hr:f.r=xr
         case neg=>
          have HE:Hi (mav m=false):=mav_ln EX.o (by rw[hln,decide_eq_false hr];simp);clear hln;go_wp2;have hf2:((i:Int) != (i:Int))=false:=bne_self_eq_false _;have hr2:(f.r != xr)=true:=by rw[bne_iff_ne];exact hr
          have hn2:¬(i:Int)<0:=by omega
          refine wp_region_ext (by kernel_rfl) (by kernel_rfl) ?_;repeat (go_big_quiet_step (fail))
          refine wpQuiet_nil ?_;intro _ hw';obtain⟨⟨wq,hq⟩,hw''⟩:=hw';subst hw'';try dsimp only
          go_wp2;go_ret;exact⟨by rw[HE.o];rfl,bT HB5.o (bT HBQ.o hq)⟩
         case pos=>
          subst hr;have HA:=Hd (all_step hall.o EX.o (by rw[hln,decide_eq_true rfl,decide_eq_true rfl];rfl));clear hln;go_wp2;have hf2:((i:Int) != (i:Int))=false:=bne_self_eq_false _;have hr2:(f.r != f.r)=false:=bne_self_eq_false _;have hn2:¬(i:Int)<0:=by omega
          refine wp_region_ext (by kernel_rfl) (by kernel_rfl) ?_;repeat (go_big_quiet_step (fail))
          refine wpQuiet_nil ?_;intro _ hw';obtain⟨⟨wq,hq⟩,hw''⟩:=hw';subst hw'';try dsimp only
          go_wp2;go_roundw;case rel=>exact⟨k+1,by omega,by go_num,HA,bT HBQ.o hq⟩
          case measure=>simp[intOf];omega
     case neg=>
      by_cases ht:xt=-1
      case pos=>
       subst ht;have HE:Hi (mav m=false):=mav_ln EX.o (lnM_sh rfl (fun h=>hp (h.2 rfl)));go_wp2;go_ret;exact⟨by rw[HE.o];rfl,bT HB5.o HB57.o⟩
      case neg=>
      cases xw with
      | true=>
       have HE:Hi (mav m=false):=mav_ln EX.o (lnM_w rfl rfl hp);go_wp2;go_ret;exact⟨by rw[HE.o];rfl,bT HB5.o HB57.o⟩
      | false=>
      subst hW7;have c4:=(HX5.o.below hb6).cell_ 4 (v:=.int .i64 m.g.count) rfl;have c5:=(HX5.o.below hb6).cell_ 5 (v:=.int .i64 m.g.next) rfl;have c6:=(HX5.o.below hb6).cell_ 6 (v:=.int .i64 m.g.round) rfl;have c7:=(HX5.o.below hb6).cell_ 7 (v:=vo) rfl;have hbl:=(HX5.o.below hb6).lt;clear x0 x1 x2 x5;have hop:=lnSp_of (m:=m) (x:=⟨true,xt,xp,xf,xr,false⟩) h3 hp;go_wp2_with fail
      refine(SpaceOf_any vo m.g xt _ (HM.o.o.now (bT HB5.o HB57.o))).mono ?_;rintro e w8 ⟨rfl,hb8⟩;have HX8:=Hd (HX7.o.below hb8);have HL8:=Hd (HL7.o.below hb8);have HB58:=Hd (bT HB57.o hb8);clear hb8 c4 c5 c6 c7 hxl
      cases hso:spO m.g xt with
      | false=>
       have HE:Hi (mav m=false):=mav_ln EX.o (lnM_sp rfl (hop.2 hso));go_wp2;go_ret;exact⟨by rw[HE.o];rfl,bT HB5.o HB58.o⟩
      | true=>
       have hsp:=hop.1 hso;generalize spV m.g xt=sp at*;clear hop;have hm0:=xcell (HX8.c 0 (vb) rfl) HX8.o.lt;have hm1:=xcell (HX8.c 1 (.slice Af m.t.fs.length cf) rfl) HX8.o.lt;have hl2:=xcell (HL8.c 2 (.int .i64 xp) rfl) HL8.o.lt;have HT9:=Hd (HM.o.t.now (bT HB5.o HB58.o));have hln:=lnM_at1 (m:=m) (f:=xf) (r:=xr) (w:=false) (⟨fun h=>absurd h (by omega),fun h=>absurd h ht⟩) (fun h=>absurd h (by decide)) (hsp);have HK:=Hd (KeyFor_any sp xp);have HFN:=Hd (fun W (h:TaR W vb (.slice Af m.t.fs.length cf) m.t)=>find_any vb (.slice Af m.t.fs.length cf) m.t (keyI sp xp) xp W h);have hidx:= @fndI_lt m.t.fs (keyI sp xp) xp;generalize keyI sp xp=ks at*;generalize hN:fndI m.t.fs ks xp=N at*;go_wp2;try clear x0 x1 x2 x5
       refine wp_region_ext (by kernel_rfl) (by kernel_rfl) ?_;repeat (go_big_quiet_step ((first | (go_at_call 40;exact ext_call (HK.o _)) | (go_at_call 41;exact ext_call (HFN.o _ (HT9.o.now (Ext.ok _)))))))
       refine wpQuiet_nil ?_;intro _ hw';obtain⟨⟨wq,hq⟩,hw''⟩:=hw';subst hw'';try dsimp only
       have HBQ:=Hd (bT HB58.o hq);have hl3:=xcell ((HL8.o.below hq).cell_ 3 (v:=.int .i64 xf) rfl) (HL8.o.below hq).lt;have hl4:=xcell ((HL8.o.below hq).cell_ 4 (v:=.int .i64 xr) rfl) (HL8.o.below hq).lt;have hm1:=xcell ((HX8.o.below hq).cell_ 1 (v:=.slice Af m.t.fs.length cf) rfl) (HX8.o.below hq).lt;by_cases hn:0≤N
       case neg=>
        have HE:Hi (mav m=false):=mav_ln EX.o (by rw[hln,decide_eq_false hn];rfl);clear hidx hln;go_wp2;have hn2:N<0:=by omega
        refine wp_region_ext (by kernel_rfl) (by kernel_rfl) ?_;repeat (go_big_quiet_step (fail))
        refine wpQuiet_nil ?_;intro _ hw';obtain⟨⟨wq,hq⟩,hw''⟩:=hw';subst hw'';try dsimp only
        go_wp2;go_ret;exact⟨by rw[HE.o];rfl,bT HB5.o (bT HBQ.o hq)⟩
       case pos=>
        obtain⟨i,f,rfl,ef,_,_⟩:=hidx hn;obtain⟨b',o',eA,hbb',f0,f1,f2,f3,f4⟩:=(HFS.o.below (bT HB5.o HBQ.o)).fr ef;subst eA;have hfr:=xcell f3 (by have:=(bT HB5.o HBQ.o).size;show b'<_;omega);rw[decide_eq_true hn,Int.toNat_natCast,List.getD_eq_getElem?_getD,ef,Option.getD_some,Bool.true_and]at hln;have hil:=(List.getElem?_eq_some_iff.1 ef).1;clear f0 f1 f2 f3 f4 ef hidx;by_cases hf:(i:Int)=xf
        case neg=>
         have HE:Hi (mav m=false):=mav_ln EX.o (by rw[hln,decide_eq_false hf];rfl);clear hln;go_wp2;have hf2:((i:Int) != xf)=true:=by rw[bne_iff_ne];exact hf
         have hn2:¬(i:Int)<0:=by omega
         refine wp_region_ext (by kernel_rfl) (by kernel_rfl) ?_;repeat (go_big_quiet_step (fail))
         refine wpQuiet_nil ?_;intro _ hw';obtain⟨⟨wq,hq⟩,hw''⟩:=hw';subst hw'';try dsimp only
         go_wp2;go_ret;exact⟨by rw[HE.o];rfl,bT HB5.o (bT HBQ.o hq)⟩
        case pos=>
        subst hf;by_cases hr:f.r=xr
        case neg=>
         have HE:Hi (mav m=false):=mav_ln EX.o (by rw[hln,decide_eq_false hr];simp);clear hln;go_wp2;have hf2:((i:Int) != (i:Int))=false:=bne_self_eq_false _;have hr2:(f.r != xr)=true:=by rw[bne_iff_ne];exact hr
         have hn2:¬(i:Int)<0:=by omega
         refine wp_region_ext (by kernel_rfl) (by kernel_rfl) ?_;repeat (go_big_quiet_step (fail))
         refine wpQuiet_nil ?_;intro _ hw';obtain⟨⟨wq,hq⟩,hw''⟩:=hw';subst hw'';try dsimp only
         go_wp2;go_ret;exact⟨by rw[HE.o];rfl,bT HB5.o (bT HBQ.o hq)⟩
        case pos=>
         subst hr;have HA:=Hd (all_step hall.o EX.o (by rw[hln,decide_eq_true rfl,decide_eq_true rfl];rfl));clear hln;go_wp2;have hf2:((i:Int) != (i:Int))=false:=bne_self_eq_false _;have hr2:(f.r != f.r)=false:=bne_self_eq_false _;have hn2:¬(i:Int)<0:=by omega
         refine wp_region_ext (by kernel_rfl) (by kernel_rfl) ?_;repeat (go_big_quiet_step (fail))
         refine wpQuiet_nil ?_;intro _ hw';obtain⟨⟨wq,hq⟩,hw''⟩:=hw';subst hw'';try dsimp only
         go_wp2;go_roundw;case rel=>exact⟨k+1,by omega,by go_num,HA,bT HBQ.o hq⟩
         case measure=>simp[intOf];omega
    ·obtain rfl:k=m.c.ls.length:=by omega
     have HLA:=Hd (all_end hall.o);have HE:Hi (mav m=true):=mav_end h1 h2 h3 h4 HFA.o HLA.o;go_wp2;go_ret;exact⟨by rw[HE.o];rfl,bT HB5.o hb6⟩
end Go.Proofs.YtfbnokjdkhcgoaaGreatDoor
