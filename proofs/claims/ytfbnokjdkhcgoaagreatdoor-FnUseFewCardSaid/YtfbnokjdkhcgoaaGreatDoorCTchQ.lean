/- A part of the proofs of this seat. -/
import Derived.Deep.CutRange
import Derived.ChangeSame
import Derived.Test.YtfbnokjdkhcgoaaGreatDoorCPrT
import Derived.Test.YtfbnokjdkhcgoaaGreatDoorCKyI
set_option linter.unusedVariables false
set_option linter.unusedSimpArgs false
set_option maxRecDepth 1000000
set_option maxHeartbeats 16000000
namespace Go.Proofs.YtfbnokjdkhcgoaaGreatDoor
open Go.RowKit
theorem tch_hit{m:Ma}{p n:Int}(h:tchO m p n=true)(hh:0≤tchH m p):0≤tchK m p:=by
 obtain⟨M,_,_⟩:=tchO_parts h;obtain⟨k,i,x,f,h1,h2,h3,h4,h5,h6,h7,h8⟩:=M.hit hh;have hk:tchK m p=(i:Int):=by unfold tchK fndI;rw[h8]
 omega
theorem fndI_none{fs:List Fr}{s p:Int}(h:fnd fs s p=none):fndI fs s p=-1:=by unfold fndI;rw[h]
theorem tch_gone{m:Ma}{p n:Int}(h:tchO m p n=true)(hg:fnd m.t.fs (keyI m.sp p) p=none):tchR m p n=3:=by
 have hk:¬0≤tchK m p:=by unfold tchK;rw[fndI_none hg];omega
 have hh:¬0≤tchH m p:=fun hh=>hk (tch_hit h hh)
 unfold tchR;rw[if_pos h,if_neg hh,if_neg hk]
theorem tch_nuse{m:Ma}{p n:Int}(h:tchO m p n=true):nuse (tchV m p n)=nuse m:=by unfold nuse;rw[(tchV_len h).1]
theorem pgs_at{m:Ma}(h:Pgs m){i:Nat}{f:Fr}(e:m.t.fs[i]?=some f):pgo f.p:=h f (List.mem_of_getElem? e)
theorem sFreeFrame_any(vb vf vl vo vk:Value)(M:Me)(w:World)(hM:MeR w vb vf vl vo vk M)(h16:M.m.t.fs.length≤1048576):
  Calls Tryz.prog 10 #[.agg #[vb,vf,vl,.int .i64 M.m.c.hand,.int .i64 M.m.g.count,.int .i64 M.m.g.next,.int .i64 M.m.g.round,vo,.int .i64 M.m.sp,vk,.int .i64 M.h]] w fun r w'=>r=.returned (.tuple #[.int .i64 (ffV M),.bool (ffO M)])∧Below w.heap.size w w':=by
 have HM:=Hd hM;obtain⟨W0,hW,hbx,hbz,_⟩:=box1 w #[vb,vf,vl,.int .i64 M.m.c.hand,.int .i64 M.m.g.count,.int .i64 M.m.g.next,.int .i64 M.m.g.round,vo,.int .i64 M.m.sp,vk,.int .i64 M.h] 37;have HX0:=Hd hbx;have HB0:=Hd hbz;clear hbx hbz hM;obtain⟨Af,cf,rfl,hfc,hfm,hFr⟩:=id HM.o.m.t.f;obtain⟨Ak,ck,rfl,hkc,hkm,hKr⟩:=id HM.o.k;have HFS:=Hd hFr;have HKS:=Hd hKr;clear hFr hKr;obtain⟨q0a,q1a,q2a,q3a,q4a,q5a,q6a,q7a,q8a,q9a,q10a⟩:=c11 HX0.o
 go_enter Tryz.func10,Tryz.ntmps10
 go_wp2_with fail
 refine(l7Free_any vb (.slice Af M.m.t.fs.length cf) M.m.t _ (HM.o.m.t.now HB0.o) h16).mono ?_;rintro e w1 ⟨rfl,hb1⟩;have HX1:=Hd (HX0.o.below hb1);have HB1:=Hd (bT HB0.o hb1);clear q0a q1a q2a q3a q4a q5a q6a q7a q8a q9a q10a;clear hb1 hW;obtain⟨q0b,q1b,q2b,q3b,q4b,q5b,q6b,q7b,q8b,q9b,q10b⟩:=c11 HX1.o;go_wp2_with fail
 refine(sMemoryValid_any vb (.slice Af M.m.t.fs.length cf) vl vo (.slice Ak M.mk.length ck) M _ (HM.o.now HB1.o)).mono ?_;rintro e w2 ⟨rfl,hb2⟩;have HB2:=Hd (bT HB1.o hb2);clear q0b q1b q2b q3b q4b q5b q6b q7b q8b q9b q10b;clear hb2
 cases h1:mev M with
 | false=>
  have HA:Hi (ffO M=false):=ffO_v h1;have HV:Hi (ffV M=0):=ffO_no HA.o;go_wp2;go_ret2;exact⟨by rw[HA.o,HV.o];rfl,HB2.o⟩
 | true=>
 by_cases h0:0≤ffI M.m.t.fs
 ·obtain⟨k,hk,_⟩:=ffI_lt h0;have hff:=ffO_yes h1 hk;have HA:=Hd hff.1;have HV:=Hd hff.2;rw[hk];clear hff hk h0 h1;go_wp2;go_ret2;exact⟨by rw[HA.o,HV.o];rfl,HB2.o⟩
 ·have hlt:ffI M.m.t.fs<0:=by omega
  have hq:ffO M=false:=by unfold ffO;rw[decide_eq_false h0];simp
  clear h0;have HA:Hi (ffO M=false):=hq;have HV:Hi (ffV M=0):=ffO_no HA.o;go_wp2;go_ret2;exact⟨by rw[HA.o,HV.o];rfl,HB2.o⟩
structure Few(M0:Me)(a j:Nat)(M:Me):Prop where
 v:mev M=true
 ln:M.mk.length=M0.mk.length
 nu:nuse M.m=nuse M0.m+j
 pg:∀(i:Nat) (f:Fr),M.m.t.fs[i]?=some f→f.used=true→f.p<40+(j:Int)∨60≤f.p
 ff:∀(i:Nat) (f:Fr),i<a→M.m.t.fs[i]?=some f→f.used=true
theorem ffr_full{fs:List Fr}(h:ffr fs=none):fs.countP (·.used)=fs.length:=by
 refine List.countP_eq_length.2 fun f hf=> ?_
 have:=List.findIdx?_eq_none_iff.1 h f hf;simpa using this
theorem nuse_le(m:Ma):nuse m≤m.t.fs.length:=List.countP_le_length
theorem tch_nohit{m:Ma}{p n:Int}(h:tchO m p n=true)(hg:fnd m.t.fs (keyI m.sp p) p=none):¬0≤tchH m p:=by
 intro hh;have:=tch_gone h hg;unfold tchR at this;rw[if_pos h,if_pos hh]at this;split at this<;>omega
theorem few_step{M0 M:Me}{a j:Nat}(F:Few M0 a j M)(hl:M0.mk.length≤16)(hj:nuse M0.m+j<M0.mk.length):
  useO M (40+(j:Int)) 1 1=true∧useR M (40+(j:Int)) 1 1=3∧(a:Int)≤useF M (40+(j:Int)) 1 1∧Few M0 a (j+1) (useV M (40+(j:Int)) 1 1):=by
 have V:=mev_MEV.1 F.v;have hfl:M.m.t.fs.length=M0.mk.length:=by rw[←V.ln,F.ln]
 generalize hp:(40+(j:Int))=p;have hp1:inR p 256=true:=inR_iff.2 (by omega);have hkey:keyI M.m.sp p=M.m.sp:=by unfold keyI;rw[if_neg (by omega)]
 have hno:fnd M.m.t.fs (keyI M.m.sp p) p=none:=by
  cases e:fnd M.m.t.fs (keyI M.m.sp p) p with
  | none=>rfl
  | some i=>
   obtain⟨f,ef,hu,hk⟩:=fnd_some e;injection hk with _ hk;have:=F.pg i f ef hu;omega
 have hmis:misM M p=true:=by unfold misM;rw[fndI_none hno];rfl
 obtain⟨k,hk⟩:∃k,ffr M.m.t.fs=some k:=by
  cases e:ffr M.m.t.fs with
  | some k=>exact⟨k,rfl⟩
  | none=>
   have:=ffr_full e;have h2:=F.nu;unfold nuse at h2;unfold nuse at hj;omega
 obtain⟨f0,ef0,hu0,hb0⟩:=ffr_some hk;have hkl:=(List.getElem?_eq_some_iff.1 ef0).1
 have hka:a≤k:=by
  apply Decidable.byContradiction;intro h;have:=F.ff k f0 (by omega) ef0;rw[hu0]at this;cases this
 have hok:putOK M.m (keyI M.m.sp p) p k 1=true:=by
  unfold putOK;rw[mav_MV.2 V.m,hkey,decide_eq_true hkey];unfold mapOK;rw[tv_TV.2 V.m.t,show kval (M.m.sp,p)=true by unfold kval;simp only[V.m.sp16,hp1];rfl];rw[hkey]at hno;rw[fndI_none hno,show inR (k:Int) M.m.t.fs.length=true from inR_iff.2 (by omega),Int.toNat_natCast,ef0];simp[hu0];decide
 have e:useN M p 1=some ⟨putV M.m (keyI M.m.sp p) p k 1,M.mk,M.h⟩:=by
  unfold useN brO brN;rw[if_pos hmis,hk];simp only[brP];rw[if_pos hok]
 obtain⟨h1,h2,h3,h4⟩:=useO_some F.v hp1 (show inR 1 8=true by decide) (show inR 1 8=true by decide) e;obtain⟨ht,_⟩:=useN_tch V e hp1 (show inR 1 8=true by decide);simp only at ht h2 h3 h4;obtain⟨k',f1,hkk,ef1,hu1,_,_,_,_,hv⟩:=put_at hok;obtain rfl:k=k':=by omega
 have hput:=mav_put hok
 have hH:¬0≤tchH (putV M.m (keyI M.m.sp p) p k 1) p:=by
  have:=tch_nohit (m:=M.m) (p:=p) (n:=1) (by unfold tchO;rw[mav_MV.2 V.m,hp1];rfl) hno;rw[hv];exact this
 have ek:(putV M.m (keyI M.m.sp p) p k 1).t.fs[k]?=some ⟨true,keyI M.m.sp p,p,1,M.m.t.bs.getD (bkt M.m.t (keyI M.m.sp p) p) 0⟩:=by
  rw[hv];show(M.m.t.fs.set k _)[k]?=_;rw[List.getElem?_set,if_pos rfl,if_pos hkl]
 have hK:tchK (putV M.m (keyI M.m.sp p) p k 1) p=(k:Int):=by
  unfold tchK;have:=(tv_TV.1 (mav_parts hput).1).fnd ek rfl rfl;rw[show(putV M.m (keyI M.m.sp p) p k 1).sp=M.m.sp by rw[hv]];exact fndI_some this
 have hFr:tchFr (putV M.m (keyI M.m.sp p) p k 1) p=(k:Int):=by unfold tchFr;rw[if_neg hH,if_pos (by rw[hK];omega),hK]
 have hF:tchF (putV M.m (keyI M.m.sp p) p k 1) p 1=(k:Int):=by unfold tchF;rw[if_pos ht,hFr]
 have hA:tchA (putV M.m (keyI M.m.sp p) p k 1) p 1=true:=by
  unfold tchA;rw[hFr,Int.toNat_natCast,getD_at ek];show alw 1 1=true;decide
 have hR:tchR (putV M.m (keyI M.m.sp p) p k 1) p 1=2:=by
  unfold tchR;rw[if_pos ht,if_neg hH,if_pos (by rw[hK];omega),if_pos hA]
 rw[h3,h4,hF,hR,if_pos ⟨hmis,rfl⟩];refine⟨h1,rfl,by omega, ?_⟩;have hvv:=mev_use h1;have hT:=(tchV_len ht).1
 have hmf:∀(i:Nat) (f:Fr),(tchV (putV M.m (keyI M.m.sp p) p k 1) p 1).t.fs[i]?=some f→(i=k∧f.used=true∧f.p=p)∨M.m.t.fs[i]?=some f:=by
  intro i f ef;rw[hT]at ef;by_cases hik:k=i
  ·subst hik;rw[ek]at ef;injection ef with ef;subst ef;exact .inl ⟨rfl,rfl,rfl⟩
  ·rw[hv]at ef;have ef:(M.m.t.fs.set k ⟨true,keyI M.m.sp p,p,1,M.m.t.bs.getD (bkt M.m.t (keyI M.m.sp p) p) 0⟩)[i]?=some f:=ef;rw[List.getElem?_set,if_neg hik]at ef;exact .inr ef
 have hfn:(tchV (putV M.m (keyI M.m.sp p) p k 1) p 1).t.fs.length=M.m.t.fs.length:=by rw[hT,putV_len hok]
 rw[h2]at hvv⊢;refine⟨mev_MEV.2 ⟨mav_MV.1 hvv, ?_, ?_, ?_⟩, ?_, ?_, ?_, ?_⟩
 ·show(M.mk.set _ true).length=_;rw[List.length_set,V.ln];exact hfn.symm
 ·show inR M.h _=true;have:=V.h;rw[←hfn]at this;exact this
 ·intro i hi;have hi:(M.mk.set (tchF (putV M.m (keyI M.m.sp p) p k 1) p 1).toNat true)[i]?=some true:=hi;show usedAt (tchV (putV M.m (keyI M.m.sp p) p k 1) p 1).t.fs i=true;rw[hT];by_cases hik:k=i
  ·subst hik;rw[usedAt_of ek]
  ·rw[hF,Int.toNat_natCast,List.getElem?_set,if_neg hik]at hi;obtain⟨f,ef,hu⟩:=usedAt_iff.1 (V.k i hi);refine usedAt_iff.2 ⟨f, ?_,hu⟩;rw[hv];show(M.m.t.fs.set k _)[i]?=some f;rw[List.getElem?_set,if_neg hik];exact ef
 ·show(M.mk.set _ true).length=_;rw[List.length_set,F.ln]
 ·show nuse (tchV (putV M.m (keyI M.m.sp p) p k 1) p 1)=_;rw[tch_nuse ht,put_nuse hok,F.nu];omega
 ·intro i f ef hu;rcases hmf i f ef with⟨_,_,h⟩ | h
  ·left;rw[h];omega
  ·have:=F.pg i f h hu;omega
 ·intro i f hi ef;rcases hmf i f ef with⟨_,h,_⟩ | h
  ·exact h
  ·exact F.ff i f hi h
theorem few_end{M0 M:Me}{a j:Nat}(F:Few M0 a j M)(hj:nuse M0.m+j=M0.mk.length):ffO M=false∧(kys M.m.t).length=M.mk.length:=by
 have V:=mev_MEV.1 F.v
 have h1:M.m.t.fs.countP (·.used)=M.m.t.fs.length:=by
  have:=F.nu;unfold nuse at this;have h2:=V.ln;have h3:=F.ln;unfold nuse at hj;omega
 refine⟨?_,by rw[kys_count (mav_parts (mav_MV.2 V.m)).1,h1,V.ln]⟩
 have hn:ffr M.m.t.fs=none:=ffr_none fun i g e=>by
  have:=List.countP_eq_length.1 h1 g (List.mem_of_getElem? e);simpa using this
 unfold ffO;rw[ffI_none hn];simp
theorem few_start{M0:Me}{a:Nat}(hv:mev M0=true)(hf:ffr M0.m.t.fs=some a)(hp:∀(i:Nat) (f:Fr),M0.m.t.fs[i]?=some f→f.used=true→f.p<40∨60≤f.p):Few M0 a 0 M0:=by
 obtain⟨_,_,_,hb⟩:=ffr_some hf;exact⟨hv,rfl,rfl,fun i f e hu=>by have:=hp i f e hu;omega,fun i f hi e=>hb i f hi e⟩
theorem DrawFreeFrame_g(A:Option Addr)(n c:Nat)(w:World)(hb:Bytes w.heap.size w A n)(hc:n≤c)(hn:n≤1048576):
  Calls Tryz.prog 8 #[.slice A n c] w (Post2 fun v w'=>CaseM w v w'):=by
 obtain⟨W0,hW,hr0,hb0,hs0⟩:=box1 w #[.slice none 0 0,.slice none 0 0,.slice none 0 0,.int .i64 0,.int .i64 0,.int .i64 0,.int .i64 0,.slice none 0 0,.int .i64 0,.slice none 0 0,.int .i64 0] 37;have HR0:=Hd hr0;have HB0:=Hd hb0;have KO:=Hd (l7Case_g A n c W0 ((hb.keep fun q hq=>hb0.cell hq).upM (by omega)) hc hn);clear hr0 hb0 hb
 go_enter Tryz.func8,Tryz.ntmps8
 go_wp2_with fail
 try rw[hW]
 refine KO.o.mono ?_;rintro e w1 ⟨_,rfl,M,v1,v2,v3,v4,v5,rfl,hM,hz,hb1⟩;have HR2:=Hd (HR0.o.below hb1);have HB2:=Hd (bT HB0.o hb1);have HM2:=Hd (hM.mono (show w.heap.size≤W0.heap.size by omega));have HZ:=Hd hz;obtain⟨A1,c1,rfl,_⟩:=hM.m.t.b;obtain⟨A2,c2,rfl,_⟩:=hM.m.t.f;obtain⟨A3,c3,rfl,_⟩:=hM.m.l;obtain⟨A4,c4,rfl,_⟩:=hM.m.o;obtain⟨A5,c5,rfl,_⟩:=id hM.k;clear hM hz hb1 HR0 HB0 hW KO;obtain⟨q0x,q1x,q2x,q3x,q4x,q5x,q6x,q7x,q8x,q9x,q10x⟩:=c11 HR2.o;obtain⟨z0x,z1x,z2x,z3x,z4x,z5x,z6x,z7x,z8x,z9x,z10x⟩:=f11 HR2.o;have hlr:=HR2.o.lt;go_wp2;obtain⟨_,rfl,hoz,hotz,_,_,hbz⟩:=put11 HR2.o (.slice A1 M.m.t.bs.length c1) (.slice A2 M.m.t.fs.length c2) (.slice A3 M.m.c.ls.length c3) (.int .i64 M.m.c.hand) (.int .i64 M.m.g.count) (.int .i64 M.m.g.next) (.int .i64 M.m.g.round) (.slice A4 M.m.g.os.length c4) (.int .i64 M.m.sp) (.slice A5 M.mk.length c5) (.int .i64 M.h);obtain⟨q0t,q1t,q2t,q3t,q4t,q5t,q6t,q7t,q8t,q9t,q10t⟩:=c11 hoz;refine bodyPost_ret (v:=.agg #[.slice A1 M.m.t.bs.length c1,.slice A2 M.m.t.fs.length c2,.slice A3 M.m.c.ls.length c3,.int .i64 M.m.c.hand,.int .i64 M.m.g.count,.int .i64 M.m.g.next,.int .i64 M.m.g.round,.slice A4 M.m.g.os.length c4,.int .i64 M.m.sp,.slice A5 M.mk.length c5,.int .i64 M.h]) (by simp[results,Tryz.results8,go_sem,q0t,q1t,q2t,q3t,q4t,q5t,q6t,q7t,q8t,q9t,q10t]) rfl ⟨_,rfl,M,_,_,_,_,_,rfl,HM2.o.othm hotz,HZ.o,hbz w (by omega) HB2.o⟩
end Go.Proofs.YtfbnokjdkhcgoaaGreatDoor
namespace Go.Proofs.YtfbnokjdkhcgoaaGreatDoor.lUseFew
open Go.ChangeShapes Go.WideShapes Go.ChangeAt Go.RowKit Go.Joins
set_option maxRecDepth 100000 in
theorem closed:joinedFacts Tryz.prog 3 Tryz.f3 Rows.fnUseFewSpec Rows.fnUseFewRow=true:=by
 unfold joinedFacts;rw[may_enter,lifts_final,make_cut];refine Eq.trans ?_ (Eq.refl _);kernel_rfl
end Go.Proofs.YtfbnokjdkhcgoaaGreatDoor.lUseFew
namespace Go.Proofs.YtfbnokjdkhcgoaaGreatDoor.lUseFew
open Go.RowKit
theorem walk (a0:Option Addr) (len0 cap0:Nat) (z0:List Int) (w:World) (w0:IsRow .u8 w a0 len0 cap0 z0) (hfree:Free w):
    Calls Tryz.prog 3 #[.slice a0 len0 cap0] w fun e w'=>e=.returned (.bool true)∧Below w.heap.size w w':=by
  by_cases hbig:1048576<len0
  · go_enter Tryz.func3,Tryz.ntmps3
    go_wp2;go_ret;exact⟨rfl,by repeat first | exact bR | refine bA ?_⟩
  have hcap:=row_cap w0;have hby:=Hd (row_bytes w0);have HF:=Hd hfree;clear w0 hfree
  go_enter Tryz.func3,Tryz.ntmps3
  go_wp2_with fail
  refine(DrawFreeFrame_g a0 len0 cap0 w hby.o hcap (by omega)).mono ?_;rintro e w1 ⟨_,rfl,M,v1,v2,v3,v4,v5,rfl,hM,hz,hb1⟩;obtain⟨A1,c1,rfl,_⟩:=hM.m.t.b;obtain⟨A2,c2,rfl,_⟩:=hM.m.t.f;obtain⟨A3,c3,rfl,_⟩:=hM.m.l;obtain⟨A4,c4,rfl,_⟩:=hM.m.o;obtain⟨A5,c5,rfl,_⟩:=id hM.k;obtain⟨w2,hW2,hx,hb2,hs2⟩:=box1 w1 #[.slice A1 M.m.t.bs.length c1,.slice A2 M.m.t.fs.length c2,.slice A3 M.m.c.ls.length c3,.int .i64 M.m.c.hand,.int .i64 M.m.g.count,.int .i64 M.m.g.next,.int .i64 M.m.g.round,.slice A4 M.m.g.os.length c4,.int .i64 M.m.sp,.slice A5 M.mk.length c5,.int .i64 M.h] 37;have HM:=Hd (hM.now hb2);have HX:=Hd hx;have HB:=Hd (bT hb1 hb2);have HZM:=Hd hz;have hs1:=hb1.size;clear hM hx hb1 hb2 hz;generalize hmb:w1.heap.size=mb at*;have hfl:M.m.t.fs.length≤1048576:=by have:=HZM.o.1.f;omega
  cases hff:ffO M with
  | false=>
    have KF:=Hd (fun W (hr:MeR W (.slice A1 M.m.t.bs.length c1) (.slice A2 M.m.t.fs.length c2) (.slice A3 M.m.c.ls.length c3) (.slice A4 M.m.g.os.length c4) (.slice A5 M.mk.length c5) M) (hf:Free W)=>by
      have h:=FreeFrame_any _ _ _ _ _ M W hr hf;rw[hff]at h
      exact h)
    have KG:=Hd (fun W (hr:MeR W (.slice A1 M.m.t.bs.length c1) (.slice A2 M.m.t.fs.length c2) (.slice A3 M.m.c.ls.length c3) (.slice A4 M.m.g.os.length c4) (.slice A5 M.mk.length c5) M)=>by
      have h:=sFreeFrame_any _ _ _ _ _ M W hr hfl;rw[hff]at h
      exact h)
    clear hff;obtain⟨q0a,q1a,q2a,q3a,q4a,q5a,q6a,q7a,q8a,q9a,q10a⟩:=c11 HX.o;go_wp2_with fail
    try rw[hW2]
    refine(KF.o w2 HM.o.r (HF.o.now HB.o)).mono ?_;rintro e w3 ⟨rfl,hb3⟩;clear q0a q1a q2a q3a q4a q5a q6a q7a q8a q9a q10a;clear hW2;try replace HM:=Hd (HM.o.now hb3)
    try replace HX:=Hd (HX.o.below hb3)
    try replace HK:=Hd (HK.o.below hb3)
    try replace HV:=Hd (HV.o.now hb3)
    try replace HY:=Hd (HY.o.below hb3)
    try replace HU:=Hd (HU.o.now hb3)
    try replace HZ:=Hd (HZ.o.below hb3)
    try replace HL:=Hd (HL.o.now hb3)
    try replace HE:=Hd (HE.o.now hb3)
    replace HB:=Hd (bT HB.o hb3);clear hb3;obtain⟨q0a,q1a,q2a,q3a,q4a,q5a,q6a,q7a,q8a,q9a,q10a⟩:=c11 HX.o;go_wp2_with fail
    refine(KG.o w3 HM.o.r).mono ?_;rintro e w4 ⟨rfl,hb4⟩;clear q0a q1a q2a q3a q4a q5a q6a q7a q8a q9a q10a;try replace HM:=Hd (HM.o.now hb4)
    try replace HX:=Hd (HX.o.below hb4)
    try replace HK:=Hd (HK.o.below hb4)
    try replace HV:=Hd (HV.o.now hb4)
    try replace HY:=Hd (HY.o.below hb4)
    try replace HU:=Hd (HU.o.now hb4)
    try replace HZ:=Hd (HZ.o.below hb4)
    try replace HL:=Hd (HL.o.now hb4)
    try replace HE:=Hd (HE.o.now hb4)
    replace HB:=Hd (bT HB.o hb4);clear hb4;go_wp2;go_ret;exact⟨rfl,HB.o⟩
  | true=>
    obtain⟨hmv,hf0⟩:mev M=true∧0≤ffI M.m.t.fs:=by
      have h:=hff;unfold ffO at h;simpa using h
    obtain⟨f0,hf1,hf2,_⟩:=ffI_lt hf0;have hfv:ffV M=(f0:Int):=by unfold ffV;rw[if_pos hff,hf1]
    have hF0:=few_start hmv hf2 (fun i f e _=>pgs_at HZM.o.2.1 e);have hMV:=mev_MEV.1 hmv;have hmk16:M.mk.length≤16:=by have:=hMV.ln;have:=(mav_fslen (mav_MV.2 hMV.m)).2;omega
    have hf16:f0≤16:=by have:=(ffr_some hf2);obtain⟨f,e,_⟩:=this;have:=(List.getElem?_eq_some_iff.1 e).1;have:=(mav_fslen (mav_MV.2 hMV.m)).2;omega
    have hku:(kys M.m.t).length=nuse M.m:=kys_count (mav_parts (mav_MV.2 hMV.m)).1;have hkm:nuse M.m≤M.mk.length:=by have:=nuse_le M.m;have:=hMV.ln;omega
    have HFE:=Hd (fun(Z:Me) (j:Nat)=>few_end (M0:=M) (M:=Z) (a:=f0) (j:=j));have HFS:=Hd (fun(Z:Me) (j:Nat)=>few_step (M0:=M) (M:=Z) (a:=f0) (j:=j))
    have KF:=Hd (fun W (hr:MeR W (.slice A1 M.m.t.bs.length c1) (.slice A2 M.m.t.fs.length c2) (.slice A3 M.m.c.ls.length c3) (.slice A4 M.m.g.os.length c4) (.slice A5 M.mk.length c5) M) (hf:Free W)=>by
      have h:=FreeFrame_any _ _ _ _ _ M W hr hf;rw[hff,hfv]at h
      exact h)
    have KG:=Hd (fun W (hr:MeR W (.slice A1 M.m.t.bs.length c1) (.slice A2 M.m.t.fs.length c2) (.slice A3 M.m.c.ls.length c3) (.slice A4 M.m.g.os.length c4) (.slice A5 M.mk.length c5) M)=>by
      have h:=sFreeFrame_any _ _ _ _ _ M W hr hfl;rw[hff,hfv]at h
      exact h)
    have KN:=Hd (fun W (hr:TaR W (.slice A1 M.m.t.bs.length c1) (.slice A2 M.m.t.fs.length c2) M.m.t) (hf:Free W)=>by
      have h:=KeysOf_imp _ _ M.m.t W hr hf;rw[hku]at h
      exact h)
    have HF0:=Hd hF0;clear hmv hff hf0 hf1 hf2 hfv hMV hku hF0 hfl;obtain⟨q0a,q1a,q2a,q3a,q4a,q5a,q6a,q7a,q8a,q9a,q10a⟩:=c11 HX.o;go_wp2_with fail
    try rw[hW2]
    refine(KF.o w2 HM.o.r (HF.o.now HB.o)).mono ?_;rintro e w3 ⟨rfl,hb3⟩;clear q0a q1a q2a q3a q4a q5a q6a q7a q8a q9a q10a;clear hW2;try replace HM:=Hd (HM.o.now hb3)
    try replace HX:=Hd (HX.o.below hb3)
    try replace HK:=Hd (HK.o.below hb3)
    try replace HV:=Hd (HV.o.now hb3)
    try replace HY:=Hd (HY.o.below hb3)
    try replace HU:=Hd (HU.o.now hb3)
    try replace HZ:=Hd (HZ.o.below hb3)
    try replace HL:=Hd (HL.o.now hb3)
    try replace HE:=Hd (HE.o.now hb3)
    replace HB:=Hd (bT HB.o hb3);clear hb3;obtain⟨q0a,q1a,q2a,q3a,q4a,q5a,q6a,q7a,q8a,q9a,q10a⟩:=c11 HX.o;go_wp2_with fail
    refine(KG.o w3 HM.o.r).mono ?_;rintro e w4 ⟨rfl,hb4⟩;clear q0a q1a q2a q3a q4a q5a q6a q7a q8a q9a q10a;try replace HM:=Hd (HM.o.now hb4)
    try replace HX:=Hd (HX.o.below hb4)
    try replace HK:=Hd (HK.o.below hb4)
    try replace HV:=Hd (HV.o.now hb4)
    try replace HY:=Hd (HY.o.below hb4)
    try replace HU:=Hd (HU.o.now hb4)
    try replace HZ:=Hd (HZ.o.below hb4)
    try replace HL:=Hd (HL.o.now hb4)
    try replace HE:=Hd (HE.o.now hb4)
    replace HB:=Hd (bT HB.o hb4);clear hb4;have x0:=HX.c 0 (.slice A1 M.m.t.bs.length c1) rfl;have x1:=HX.c 1 (.slice A2 M.m.t.fs.length c2) rfl;go_wp2_with fail
    refine(KN.o w4 HM.o.r.m.t (HF.o.now HB.o)).mono ?_;rintro e w5 ⟨_,rfl,K,kc,rfl,hkc,_,hb5⟩;try replace HM:=Hd (HM.o.now hb5)
    try replace HX:=Hd (HX.o.below hb5)
    try replace HK:=Hd (HK.o.below hb5)
    try replace HV:=Hd (HV.o.now hb5)
    try replace HY:=Hd (HY.o.below hb5)
    try replace HU:=Hd (HU.o.now hb5)
    try replace HZ:=Hd (HZ.o.below hb5)
    try replace HL:=Hd (HL.o.now hb5)
    try replace HE:=Hd (HE.o.now hb5)
    replace HB:=Hd (bT HB.o hb5);clear hb5 x0 x1 KF KG KN
    obtain⟨n0,hn0⟩:∃n0,nuse M.m=n0:=⟨_,rfl⟩
    rw[hn0]at hkm⊢;have HN0:=Hd hn0;clear hn0;have hmbw:w.heap.size≤mb:=hs1;go_wp2;go_loopw [9] (fun u wr=>∃(j:Nat) (Z:Me) (u1 u2 u3 u4 u5:Value),u=.int .i64 (40+(j:Int))∧n0+j≤M.mk.length∧Hi (Few M f0 j Z)∧Own wr mb 37 #[u1,u2,u3,.int .i64 Z.m.c.hand,.int .i64 Z.m.g.count,.int .i64 Z.m.g.next,.int .i64 Z.m.g.round,u4,.int .i64 Z.m.sp,u5,.int .i64 Z.h]∧MeM w.heap.size wr u1 u2 u3 u4 u5 Z∧Below w.heap.size w wr) (fun u _=>M.mk.length+40-(intOf u).toNat)
    case atStart=>exact⟨0,M,_,_,_,_,_,rfl,hkm,HF0,HX.o,HM.o,HB.o⟩
    case round=>
      clear HM HX HB HF0 HZM;obtain⟨j,Z,u1,u2,u3,u4,u5,rfl,hj,hFZ,hQ,hN,hbr⟩:=hrel;obtain⟨D1,q1,rfl,_⟩:=hN.m.t.b;obtain⟨D2,q2,rfl,_⟩:=hN.m.t.f;obtain⟨D3,q3,rfl,_⟩:=hN.m.l;obtain⟨D4,q4,rfl,_⟩:=hN.m.o;obtain⟨D5,q5,rfl,_⟩:=id hN.k;have HQ:=Hd hQ;have HN:=Hd hN;have HB:=Hd hbr;have HLZ:=Hd hFZ.o.ln;clear hQ hN hbr;by_cases hlt:n0+j<M.mk.length
      · obtain⟨g1,g2,g3,g4⟩:=HFS.o Z j hFZ.o hmk16 (by rw[HN0.o];exact hlt)
        obtain⟨V,hV⟩:∃V,useV Z (40+(j:Int)) 1 1=V:=⟨_,rfl⟩
        obtain⟨F,hFq⟩:∃F,useF Z (40+(j:Int)) 1 1=F:=⟨_,rfl⟩
        have KI:Hi (Calls Tryz.prog 12 #[.agg #[.slice D1 Z.m.t.bs.length q1,.slice D2 Z.m.t.fs.length q2,.slice D3 Z.m.c.ls.length q3,.int .i64 Z.m.c.hand,.int .i64 Z.m.g.count,.int .i64 Z.m.g.next,.int .i64 Z.m.g.round,.slice D4 Z.m.g.os.length q4,.int .i64 Z.m.sp,.slice D5 Z.mk.length q5,.int .i64 Z.h],.int .i64 (40+(j:Int)),.int .i64 1,.int .i64 1] wr (Post2 fun v w'=>∃v1 v2 v3 v4 v5,v=.tuple #[.agg #[v1,v2,v3,.int .i64 V.m.c.hand,.int .i64 V.m.g.count,.int .i64 V.m.g.next,.int .i64 V.m.g.round,v4,.int .i64 V.m.sp,v5,.int .i64 V.h],.int .i64 F,.int .i64 3,.bool true]∧MeM wr.heap.size w' v1 v2 v3 v4 v5 V∧Below wr.heap.size wr w')):=by
          show Calls Tryz.prog 12 #[.agg #[.slice D1 Z.m.t.bs.length q1,.slice D2 Z.m.t.fs.length q2,.slice D3 Z.m.c.ls.length q3,.int .i64 Z.m.c.hand,.int .i64 Z.m.g.count,.int .i64 Z.m.g.next,.int .i64 Z.m.g.round,.slice D4 Z.m.g.os.length q4,.int .i64 Z.m.sp,.slice D5 Z.mk.length q5,.int .i64 Z.h],.int .i64 (40+(j:Int)),.int .i64 1,.int .i64 1] wr _;have h:=UsePage_any _ _ _ _ _ Z (40+(j:Int)) 1 1 wr HN.o.r (HF.o.now HB.o);rw[g1,g2,hV,hFq]at h;exact h
        rw[hV]at g4;rw[hFq]at g3;have HFN:=Hd g4;clear g1 g2 g4 hV hFq;have hzl1:Z.mk.length≤16:=by rw[HLZ.o];exact hmk16
        have hzl2:n0+j<Z.mk.length:=by rw[HLZ.o];exact hlt
        obtain⟨q0a,q1a,q2a,q3a,q4a,q5a,q6a,q7a,q8a,q9a,q10a⟩:=c11 HQ.o;go_wp2_with fail
        refine KI.o.mono ?_;rintro e w6 ⟨_,rfl,t1,t2,t3,t4,t5,rfl,hM6,hb6⟩;obtain⟨E1,e1,rfl,_⟩:=hM6.m.t.b;obtain⟨E2,e2,rfl,_⟩:=hM6.m.t.f;obtain⟨E3,e3,rfl,_⟩:=hM6.m.l;obtain⟨E4,e4,rfl,_⟩:=hM6.m.o;obtain⟨E5,e5,rfl,_⟩:=id hM6.k;obtain⟨w7,hW7,hy,hb7,hs7⟩:=box1 w6 #[.slice E1 V.m.t.bs.length e1,.slice E2 V.m.t.fs.length e2,.slice E3 V.m.c.ls.length e3,.int .i64 V.m.c.hand,.int .i64 V.m.g.count,.int .i64 V.m.g.next,.int .i64 V.m.g.round,.slice E4 V.m.g.os.length e4,.int .i64 V.m.sp,.slice E5 V.mk.length e5,.int .i64 V.h] 37;clear q0a q1a q2a q3a q4a q5a q6a q7a q8a q9a q10a;have hb67:=bT hb6 hb7;replace HQ:=Hd (HQ.o.below hb67);have HM7:=Hd ((hM6.now hb7).mono HB.o.size);have HY:=Hd hy;replace HB:=Hd (bT HB.o hb67);have hs6:=hb6.size;have hmq:=HQ.o.lt;have hwr:=HB.o.size;clear hM6 hb6 hy hb7 hb67 KI HN HLZ hzl1 hzl2;go_upto_region 13 with fail
        try rw[hW7]
        clear hW7;go_upto_region 15 with fail
        obtain⟨q0x,q1x,q2x,q3x,q4x,q5x,q6x,q7x,q8x,q9x,q10x⟩:=c11 HQ.o;obtain⟨z0x,z1x,z2x,z3x,z4x,z5x,z6x,z7x,z8x,z9x,z10x⟩:=f11 HQ.o;obtain⟨q0o,q1o,q2o,q3o,q4o,q5o,q6o,q7o,q8o,q9o,q10o⟩:=c11 HY.o;have hlo:=HY.o.lt;go_wp2;go_roundw
        case rel=>
          obtain⟨_,rfl,hqz,hqt,_,_,hbz⟩:=put11 HQ.o (.slice E1 V.m.t.bs.length e1) (.slice E2 V.m.t.fs.length e2) (.slice E3 V.m.c.ls.length e3) (.int .i64 V.m.c.hand) (.int .i64 V.m.g.count) (.int .i64 V.m.g.next) (.int .i64 V.m.g.round) (.slice E4 V.m.g.os.length e4) (.int .i64 V.m.sp) (.slice E5 V.mk.length e5) (.int .i64 V.h);exact⟨j+1,V,_,_,_,_,_,by go_num,by omega,HFN,hqz,HM7.o.othm hqt,hbz w hmbw HB.o⟩
        case measure=>simp[intOf];omega
      · obtain⟨g1,g2⟩:=HFE.o Z j hFZ.o (by rw[HN0.o];omega)
        have KF:Hi (Calls Tryz.prog 9 #[.agg #[.slice D1 Z.m.t.bs.length q1,.slice D2 Z.m.t.fs.length q2,.slice D3 Z.m.c.ls.length q3,.int .i64 Z.m.c.hand,.int .i64 Z.m.g.count,.int .i64 Z.m.g.next,.int .i64 Z.m.g.round,.slice D4 Z.m.g.os.length q4,.int .i64 Z.m.sp,.slice D5 Z.mk.length q5,.int .i64 Z.h]] wr fun r w'=>r=.returned (.tuple #[.int .i64 (ffV Z),.bool false])∧Below wr.heap.size wr w'):=by
          show Calls Tryz.prog 9 #[.agg #[.slice D1 Z.m.t.bs.length q1,.slice D2 Z.m.t.fs.length q2,.slice D3 Z.m.c.ls.length q3,.int .i64 Z.m.c.hand,.int .i64 Z.m.g.count,.int .i64 Z.m.g.next,.int .i64 Z.m.g.round,.slice D4 Z.m.g.os.length q4,.int .i64 Z.m.sp,.slice D5 Z.mk.length q5,.int .i64 Z.h]] wr _;have h:=FreeFrame_any _ _ _ _ _ Z wr HN.o.r (HF.o.now HB.o);rw[g1]at h;exact h
        have KN:=Hd (fun W (hr:TaR W (.slice D1 Z.m.t.bs.length q1) (.slice D2 Z.m.t.fs.length q2) Z.m.t) (hf:Free W)=>by
          have h:=KeysOf_imp _ _ Z.m.t W hr hf;rw[g2]at h
          exact h)
        have hzl1:Z.mk.length≤16:=by rw[HLZ.o];exact hmk16
        have hzl2:¬n0+j<Z.mk.length:=by rw[HLZ.o];exact hlt
        clear g1 g2 HLZ;obtain⟨q0a,q1a,q2a,q3a,q4a,q5a,q6a,q7a,q8a,q9a,q10a⟩:=c11 HQ.o;go_wp2_with fail
        refine KF.o.mono ?_;rintro e w6 ⟨rfl,hb6⟩;clear q0a q1a q2a q3a q4a q5a q6a q7a q8a q9a q10a;replace HQ:=Hd (HQ.o.below hb6);replace HN:=Hd (HN.o.now hb6);replace HB:=Hd (bT HB.o hb6);clear hb6 KF;have s0_0:=HQ.c 0 (.slice D1 Z.m.t.bs.length q1) rfl;have s0_1:=HQ.c 1 (.slice D2 Z.m.t.fs.length q2) rfl;have s0_9:=HQ.c 9 (.slice D5 Z.mk.length q5) rfl;go_wp2_with fail
        go_region_held_law (fun w'=>w'.cell? ⟨mb,0,none⟩=some (.slice D1 Z.m.t.bs.length q1)∧w'.cell? ⟨mb,1,none⟩=some (.slice D2 Z.m.t.fs.length q2)∧w'.cell? ⟨mb,9,none⟩=some (.slice D5 Z.mk.length q5)) (go_keep) (first
          | (go_at_call 11
             refine(KN.o _ (HN.o.now (bD (bR (w:=w6)))).r.m.t (HF.o.now (bT HB.o (bD (bR (w:=w6)))))).mono ?_;rintro _ wh0 ⟨_,rfl,Ka,ka,rfl,hka,_,hbwh0⟩;have HH0:=Hd (bT (bD (bR (w:=w6))) hbwh0);have h0_0:=HQ.o.below HH0.o;have s0_0_0:=h0_0.cell_ 0 (v:=.slice D1 Z.m.t.bs.length q1) rfl;have s0_0_1:=h0_0.cell_ 1 (v:=.slice D2 Z.m.t.fs.length q2) rfl;have s0_0_9:=h0_0.cell_ 9 (v:=.slice D5 Z.mk.length q5) rfl
             clear hbwh0 h0_0))
        all_goals
          go_wp2;go_ret;exact⟨rfl,bT HB.o HH0.o⟩
end Go.Proofs.YtfbnokjdkhcgoaaGreatDoor.lUseFew
namespace Go.Proofs.YtfbnokjdkhcgoaaGreatDoor.lUseFew
open Go.ChangeShapes Go.WideShapes Go.ChangeAt Go.RowKit Go.Joins
set_option maxRecDepth 100000 in
theorem lifted(os:Os)(started:os.Started)(H:Type)(enc:TypeId×Value→H):
  ReturnsInHanded {} Tryz.checked os 3 .any (fun w args=>(Rows.fnUseFewSpec.pre enc Tryz.prog Tryz.f3 Rows.fnUseFewRow.domain false w args∧laidMet Tryz.prog [("loop.example/invertedpages/impl.free",Rows.laid_loop_example_invertedpages_impl_free)] w)∧sizedMet enc Tryz.prog Tryz.f3 (OpenSpec.ofChange Rows.fnUseFewSpec) false w args)
   (Rows.fnUseFewSpec.post enc Tryz.prog Tryz.f3 false true false false):=by
 refine returnsInHanded_of_change_and (C:=Tryz.checked) (X:=fun w _=>laidMet Tryz.prog [("loop.example/invertedpages/impl.free",Rows.laid_loop_example_invertedpages_impl_free)] w) (fun _ _ _ hh h=>h.of_heap hh) own_ started (by kernel_rfl) Tryz.func3
  (ChangeSpec.witness_at (enc:=enc) (C:=Tryz.checked) (os:=os) (X:=fun w _=>laidMet Tryz.prog [("loop.example/invertedpages/impl.free",Rows.laid_loop_example_invertedpages_impl_free)] w) false (laidWorld os) #[.slice none 0 0] 8 rfl (by kernel_rfl) (by kernel_rfl) (by kernel_rfl) (by kernel_rfl) (by kernel_rfl) (laid_met os _)) ?_
 intro W base args ds gs before hval0 hW hcnd _ hL _;have hval:∀(j:Nat) t v,Tryz.f3.params[j]?=some t→args[j]?=some v→Value.okWide Tryz.prog W .any base t v:=hval0;have hW':=hW;obtain⟨p,q,hA0,hV0,rfl,hfz,hnd⟩:=hW;have hA:DataW.TrodAll enc Tryz.prog W 0 (fun _=>true) true Tryz.f3.params.toList args.toList ds p:=hA0;have hV:DataW.TrodVars enc Tryz.prog W (fun _=>true) ["loop.example/invertedpages/impl.free"] gs q:=hV0;rw[Tryz.params3]at hA hval;obtain⟨v0,vs0,d0,ds0,p0,q0,hargs,rfl,rfl,h0,r0⟩:=trodAll_cons hA;obtain⟨rfl,rfl,rfl⟩:=trodAll_nil r0;obtain rfl:args=#[v0]:=by cases args;simp_all
 obtain⟨hvar0,hfree⟩:=free_of_laid hL;obtain⟨g,t,cs,fuel,d,p',rfl,hg,ht,hvar,hd,rfl⟩:=trodVars_one hV;obtain rfl:=Option.some.inj (free_named.symm.trans hg);obtain rfl:=Option.some.inj (free_type.symm.trans ht);obtain rfl:cs=freeCells:=Option.some.inj (hvar.symm.trans hvar0);have k0:=h0;have lt0:∀x∈p0,x.block<W.heap.size:=by obtain⟨m,hm⟩:=k0;exact DataW.trod_lt m _ _ _ hm
 have kd:DataW.Trod enc Tryz.prog W 0 (fun _=>true) true 80 (.agg freeCells) d p':=⟨fuel,hd⟩
 have ltd:∀x∈p',x.block<W.heap.size:=DataW.trod_lt fuel _ _ _ hd;obtain⟨a0,len0,cap0,rfl⟩:=okWide_slice Tryz.underlying22 (hval 0 22 v0 rfl rfl)
 obtain⟨z0,w0⟩:∃zs,IsRow .u8 W a0 len0 cap0 zs:=by
  obtain⟨fuel,hf⟩:=h0
  rcases open_ints Tryz.underlying22 Tryz.underlying5 (by kernel_rfl) hf with⟨hcs,_⟩ | ⟨x,l,c,zs,hcs,_,hl,hm,hz,_,hcell,hwz⟩
  ·simp[Value.cells]at hcs;obtain⟨rfl,rfl,rfl⟩:=hcs;exact⟨[],.inl ⟨rfl,rfl,rfl,rfl⟩⟩
  ·simp[Value.cells]at hcs;obtain⟨rfl,rfl,rfl⟩:=hcs;exact⟨zs,.inr ⟨_,rfl,hl,hm,by simpa using hz,hcell,hwz⟩⟩
 clear hA0 hV0 hval0;refine(walk a0 len0 cap0 z0 W w0 hfree).mono fun e W' ⟨he,bel⟩=> ?_
 subst he;have hvar':=var_stays hg hvar bel (Nat.le_refl _);obtain⟨fuel',hd'⟩:=Below.trod laidOut (by kernel_rfl) (of_decide_eq_true (by kernel_rfl)) kd bel ltd;exact⟨_,rfl,_,_,_,[],_,_,hW',trodAll_mk1 (shut_bool Tryz.underlying4 _),(trodAll_cons_mk (Below.trod laidOut (by kernel_rfl) (of_decide_eq_true (by kernel_rfl)) k0 bel lt0) trodAll_mk0),⟨0,80,freeCells,fuel',_,_,hg,ht,hvar',hd',rfl,rfl⟩,bel.frame _,fun h=>by cases h⟩
theorem over:Rows.fnUseFewRow.holds Tryz.pinned (OpenSpec.ofChange Rows.fnUseFewSpec):=
 OpenClaim.holds_of_wide 3 Tryz.f3 rfl rfl rfl rfl rfl rfl rfl ⟨rfl,rfl,rfl,rfl,rfl⟩ rfl rfl rfl rfl rfl (by kernel_rfl) Tryz.func3 closed
  (of_decide_eq_true (by kernel_rfl)) (by unfold Func.isWrapper;rw[if_neg (of_decide_eq_false (by kernel_rfl))];exact⟨rfl,rfl⟩)
  (fun os started H enc _=>lifted os started H enc)
end Go.Proofs.YtfbnokjdkhcgoaaGreatDoor.lUseFew
