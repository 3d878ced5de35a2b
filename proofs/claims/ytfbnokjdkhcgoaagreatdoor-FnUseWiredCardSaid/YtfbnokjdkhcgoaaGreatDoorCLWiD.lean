/- A part of the proofs of this seat. -/
import Derived.Deep.CutRange
import Derived.ChangeSame
import Derived.Test.YtfbnokjdkhcgoaaGreatDoorCEq
import Derived.Test.YtfbnokjdkhcgoaaGreatDoorCPrT
import Derived.Test.YtfbnokjdkhcgoaaGreatDoorCKyI
set_option linter.unusedVariables false
set_option linter.unusedSimpArgs false
set_option maxRecDepth 1000000
set_option maxHeartbeats 16000000
namespace Go.Proofs.YtfbnokjdkhcgoaaGreatDoor.lUseWired
open Go.ChangeShapes Go.WideShapes Go.ChangeAt Go.RowKit Go.Joins
set_option maxRecDepth 100000 in
theorem closed:joinedFacts Tryz.prog 4 Tryz.f4 Rows.fnUseWiredSpec Rows.fnUseWiredRow=true:=by
 unfold joinedFacts;rw[may_enter,lifts_final,make_cut];refine Eq.trans ?_ (Eq.refl _);kernel_rfl
end Go.Proofs.YtfbnokjdkhcgoaaGreatDoor.lUseWired
namespace Go.Proofs.YtfbnokjdkhcgoaaGreatDoor
open Go.RowKit
theorem SlM.mine{α:Type}{E:Enc α}{e:TypeId}{B:Nat}{w:World}{A:Option Addr}{n c:Nat}{l:List α}(h:SlM E e B w (.slice A n c) l):MineE E e B w A l:=by
 obtain⟨A',c',h1,_,_,h4⟩:=h;injection h1 with h1 _ _;rw[h1];exact h4
theorem EOwn.mine{α:Type}{E:Enc α}{e:TypeId}{w:World}{g B:Nat}{l:List α}(h:EOwn E e w g l)(hB:B≤g):MineE E e B w (some ⟨g,0,none⟩) l:=by
 refine⟨h.rs,fun hl=> ?_⟩;obtain⟨cs,h1,h2,h3⟩:=h.own;exact⟨g,cs,rfl,hB,h1,by omega⟩
theorem MV.shared{m:Ma}(M:MV m){s p:Int}{k:Nat}{f:Fr}(e:m.t.fs[k]?=some f)(hu:f.used=true)(hk:(f.s,f.p)=(s,p)):128≤p→s=0:=by
 intro h;have:=M.f k f e;injection hk with h1 h2;unfold frM at this;rw[hu,h1,h2,decide_eq_true h]at this;simpa using this
theorem vf_loose{c:Ca}(h:CV c):∀(k j a:Nat),c.ls.length-j≤k→VSt c j a→∃x:Ln,c.ls[vicFrom c.ls c.ls.length c.hand.toNat]?=some x∧x.w=false
  | 0,j,a,hk,hs=>absurd (vst_lt h hs) (by omega)
  | k+1,j,a,hk,hs=>by
    obtain⟨x,e⟩:∃x,c.ls[a]?=some x:=⟨_,List.getElem?_eq_getElem (vst_in h hs)⟩
    cases hw:x.w with
    | true=>exact vf_loose h k (j+1) _ (by omega) (vst_step h hs e hw)
    | false=>exact⟨x,by rw[vst_stop h hs e hw];exact e,hw⟩
theorem lnok_free{x:Ln}(h:lnok x=true)(hv:x.v=false):x=lnz:=by
 unfold lnok at h;rw[hv]at h;simpa using h
theorem vic_loose{c:Ca}(h:CV c):∃x:Ln,c.ls[vic c]?=some x∧x.w=false:=by
 cases e:c.ls.findIdx? (fun x=>!x.v)with
 | some i=>
  obtain⟨hi,h1,_⟩:=List.findIdx?_eq_some_iff_getElem.1 e;have hv:vic c=i:=by unfold vic;rw[e]
  have ei:c.ls[i]?=some c.ls[i]:=List.getElem?_eq_getElem hi;refine⟨c.ls[i],by rw[hv];exact ei, ?_⟩;rw[lnok_free (h.ok i _ ei) (by simpa using h1)];rfl
 | none=>
  have hv:vic c=vicFrom c.ls c.ls.length c.hand.toNat:=by unfold vic;rw[e]
  rw[hv];exact vf_loose h _ 0 _ (Nat.le_refl _) (vst_zero h)
theorem relink_key(i n:Int)(f:Fr):(relink i n f).used=f.used∧(relink i n f).s=f.s∧(relink i n f).p=f.p:=by unfold relink;split<;>exact⟨rfl,rfl,rfl⟩
theorem count_relink(i n:Int):∀fs:List Fr,(fs.map (relink i n)).countP (·.used)=fs.countP (·.used)
  | []=>rfl
  | x::l=>by
    rw[List.map_cons,List.countP_cons,List.countP_cons,count_relink i n l,(relink_key i n x).1]
theorem unm_count{t:Tab}{s p:Int}(h:fOK t s p=true):(unmT t s p).fs.countP (·.used)+1=t.fs.countP (·.used):=by
 obtain⟨k,f,h1,h2,h3,h4,h5,_⟩:=fOK_at h;unfold unmT;simp only[h1,Int.toNat_natCast];split
 ·have:=count_set frz h3;rw[if_pos h4,if_neg (by decide)]at this;simpa using this
 ·have e:(t.fs.map (relink k (t.fs.getD k frz).n))[k]?=some (relink k (t.fs.getD k frz).n f):=by rw[List.getElem?_map,h3];rfl
  have:=count_set frz e;rw[count_relink,if_pos (by rw[(relink_key k (t.fs.getD k frz).n f).1];exact h4),if_neg (by decide)]at this;simpa using this
theorem drp_line{m:Ma}(M:MV m){s q:Int}(hk:keyI s q=s)(h:tagO m s q=true∧0≤plcI m.c.ls (tagT m s q) q):
  ∃(k:Nat) (x:Ln) (i:Nat),plcI m.c.ls (tagT m s q) q=(k:Int)∧m.c.ls[k]?=some x∧fnd m.t.fs s q=some i∧(i:Int)=x.f:=by
 obtain⟨k,x,e1,e2,e3⟩:=plcI_lt h.2;obtain⟨hv,hp,ht⟩:=fits_iff.1 e3;obtain⟨s0,i,hs0,hf,hi,_,hsh,_⟩:=lnM_some hv (M.l k x e2)
 have hkey:keyI s0 x.p=s:=by
  by_cases h128:128≤q
  ·unfold keyI at hk⊢;rw[if_pos h128]at hk;rw[if_pos (by omega)];exact hk
  ·have ht1:¬x.t=-1:=fun he=>h128 (by have:=hsh.2 he;omega)
   have ht2:x.t=tagT m s q:=by
    rcases ht with e | e
    ·exact e
    ·exact absurd e ht1
   have hO:=h.1;unfold tagO at hO;unfold tagT at ht2;rw[if_neg h128]at hO ht2
   have ho:0≤ownI m.g.os s:=by
    unfold tgO at hO;rw[Bool.and_eq_true]at hO;exact of_decide_eq_true hO.2
   obtain⟨j,o,f1,f2,f3⟩:=ownI_lt ho;have f4:=(tgO_yes M.g f1 f2).2;have f5:=spc_own M.g f2;unfold lnSp at hs0;rw[if_neg (by omega),ht2,f4,f5]at hs0;simp only[List.getD_eq_getElem?_getD,f2]at hs0;injection hs0 with hs0;have hs0':o.1=s0:=hs0;rw[←hs0',f3,hp];exact hk
 rw[hkey,hp]at hf;exact⟨k,x,i,e1,e2,hf,hi⟩
theorem MV.keyf{m:Ma}(M:MV m){k:Nat}{f:Fr}(e:m.t.fs[k]?=some f)(hu:f.used=true):keyI f.s f.p=f.s:=by
 unfold keyI;split
 ·rename_i h;exact(M.shared e hu rfl h).symm
 ·rfl
theorem tak_wired{m:Ma}(M:MV m){a:Nat}{f:Fr}(e:m.t.fs[a]?=some f)(hu:f.used=true)(hw:wirA m.c.ls a=false){j:Nat}{l:Ln}(hl:m.c.ls[j]?=some l)(hlw:l.w=true):(takV m f.s f.p).c.ls[j]?=some l:=by
 rw[(takV_c (M.takO e hu)).1];unfold drpC;split
 ·rename_i h;obtain⟨k,x,i,e1,e2,hf,hi⟩:=drp_line M (M.keyf e hu) h;rw[M.t.fnd e hu rfl]at hf;injection hf with hf;subst hf
  have hne:k≠j:=by
   rintro rfl;rw[hl]at e2;injection e2 with e2;subst e2;have:wirA m.c.ls a=true:=List.any_eq_true.2 ⟨l,List.mem_of_getElem? hl,by rw[hlw,decide_eq_true hi.symm];rfl⟩;rw[hw]at this;cases this
  rw[e1,Int.toNat_natCast];show(m.c.ls.set k lnz)[j]?=some l;rw[List.getElem?_set,if_neg hne];exact hl
 ·exact hl
theorem tch_wired{m:Ma}{p n:Int}(h:tchO m p n=true){j:Nat}{l:Ln}(hl:m.c.ls[j]?=some l)(hlw:l.w=true):(tchV m p n).c.ls[j]?=some l:=by
 obtain⟨M,_,_⟩:=tchO_parts h;unfold tchV;rw[if_pos h];split
 ·exact hl
 ·split
  ·show(filC m.c _).ls[j]?=some l;unfold filC;obtain⟨x,ex,hx⟩:=vic_loose M.c
   have hne:vic m.c≠j:=by
    rintro rfl;rw[hl]at ex;injection ex with ex;subst ex;rw[hlw]at hx;cases hx
   show(m.c.ls.set (vic m.c) _)[j]?=some l;rw[List.getElem?_set,if_neg hne];exact hl
  ·exact hl
theorem use_wired{M N:Me}(V:MEV M){p r:Int}(e:useN M p r=some N){j:Nat}{l:Ln}(hl:M.m.c.ls[j]?=some l)(hlw:l.w=true):N.m.c.ls[j]?=some l:=by
 rcases useN_cases V e with⟨_,rfl⟩ | ⟨_,k,_,hp,rfl⟩ | ⟨_,_,mk,h,a,f,_,ef,hu,hw,_,hp,rfl⟩
 ·exact hl
 ·obtain⟨k,f0,_,_,_,_,_,_,_,hv⟩:=put_at hp;simp only[hv];exact hl
 ·obtain⟨k,f0,_,_,_,_,_,_,_,hv⟩:=put_at hp;simp only[hv];exact tak_wired V.m ef hu hw hl hlw
theorem use_wired_all{M:Me}{p n r:Int}(h:useO M p n r=true){j:Nat}{l:Ln}(hl:M.m.c.ls[j]?=some l)(hlw:l.w=true):(useV M p n r).m.c.ls[j]?=some l:=by
 obtain⟨h1,h2,h3,h4,N,e⟩:=useO_parts h;have V:=mev_MEV.1 h1;obtain⟨_,hV,_⟩:=useO_some h1 h2 h3 h4 e;rw[hV];exact tch_wired (useN_tch V e h2 h3).1 (use_wired V e hl hlw) hlw
theorem tak_nuse{m:Ma}{s p:Int}(h:takO m s p=true):nuse (takV m s p)+1=nuse m:=by
 unfold nuse;rw[takV_at h];unfold takO at h;rw[Bool.and_eq_true]at h;exact unm_count h.2
theorem use_nuse{M N:Me}(V:MEV M){p r:Int}(e:useN M p r=some N):(misM M p=false∧nuse N.m=nuse M.m)∨(misM M p=true∧(ffr M.m.t.fs≠none→nuse N.m=nuse M.m+1)∧(ffr M.m.t.fs=none→nuse N.m=nuse M.m)):=by
 rcases useN_cases V e with⟨h,rfl⟩ | ⟨h,k,hk,hp,rfl⟩ | ⟨h,hk,mk,_,a,f,_,ef,hu,hw,ht,hp,rfl⟩
 ·exact .inl ⟨h,rfl⟩
 ·exact .inr ⟨h,fun _=>put_nuse hp,fun hn=>by rw[hk]at hn;cases hn⟩
 ·refine .inr ⟨h,fun hn=>absurd hk hn,fun _=> ?_⟩;have h1:=put_nuse hp;have h2:=tak_nuse ht;show nuse (putV (takV M.m f.s f.p) (keyI M.m.sp p) p a r)=_;omega
theorem use_keys{M:Me}{p n r:Int}(h:useO M p n r=true):(kys M.m.t).length≤(kys (useV M p n r).m.t).length:=by
 obtain⟨h1,h2,h3,h4,N,e⟩:=useO_parts h;have V:=mev_MEV.1 h1;obtain⟨_,hV,_⟩:=useO_some h1 h2 h3 h4 e;have ht:=(useN_tch V e h2 h3).1;have hN:=(useN_at V e).1;rw[hV];show _≤(kys (tchV N.m p n).t).length;rw[(tchV_len ht).1,kys_count (mav_parts hN).1,kys_count (mav_parts (mav_MV.2 V.m)).1];have:=use_nuse V e;unfold nuse at this
 rcases this with⟨_,h⟩ | ⟨_,ha,hb⟩
 ·omega
 ·by_cases hf:ffr M.m.t.fs=none
  ·have:=hb hf;omega
  ·have:=ha hf;omega
end Go.Proofs.YtfbnokjdkhcgoaaGreatDoor
namespace Go.Proofs.YtfbnokjdkhcgoaaGreatDoor.lUseWired
open Go.RowKit
theorem walk (a0:Option Addr) (len0 cap0:Nat) (z0:List Int) (w:World) (w0:IsRow .u8 w a0 len0 cap0 z0) (hfree:Free w):
    Calls Tryz.prog 4 #[.slice a0 len0 cap0] w fun e w'=>e=.returned (.bool true)∧Below w.heap.size w w':=by
  by_cases hbig:1048576<len0
  · go_enter Tryz.func4,Tryz.ntmps4
    go_wp2;go_ret;exact⟨rfl,by repeat first | exact bR | refine bA ?_⟩
  have hcap:=row_cap w0;have hby:=Hd (row_bytes w0);have HF:=Hd hfree;clear w0 hfree
  go_enter Tryz.func4,Tryz.ntmps4
  go_wp2_with fail
  refine(DrawUsePage_g a0 len0 cap0 w hby.o hcap (by omega)).mono ?_;rintro e w1 ⟨_,rfl,M,v1,v2,v3,v4,v5,p,n,r,rfl,hM,hz,hsp,hsn,hsr,hb1⟩;obtain⟨A1,c1,rfl,_⟩:=hM.m.t.b;obtain⟨A2,c2,rfl,_⟩:=hM.m.t.f;obtain⟨A3,c3,rfl,_⟩:=hM.m.l;obtain⟨A4,c4,rfl,_⟩:=hM.m.o;obtain⟨A5,c5,rfl,_⟩:=id hM.k;obtain⟨w2,hW2,hx,hb2,hs2⟩:=box1 w1 #[.slice A1 M.m.t.bs.length c1,.slice A2 M.m.t.fs.length c2,.slice A3 M.m.c.ls.length c3,.int .i64 M.m.c.hand,.int .i64 M.m.g.count,.int .i64 M.m.g.next,.int .i64 M.m.g.round,.slice A4 M.m.g.os.length c4,.int .i64 M.m.sp,.slice A5 M.mk.length c5,.int .i64 M.h] 37;have HM:=Hd (hM.now hb2);have HX:=Hd hx;have HB:=Hd (bT hb1 hb2);have HZM:=Hd hz;have hs1:=hb1.size;clear hM hx hb1 hb2 hz;generalize hmb:w1.heap.size=mb at*
  obtain⟨V,hV⟩:∃V,useV M p n r=V:=⟨_,rfl⟩
  obtain⟨F,hFq⟩:∃F,useF M p n r=F:=⟨_,rfl⟩
  obtain⟨R,hR⟩:∃R,useR M p n r=R:=⟨_,rfl⟩
  obtain⟨O,hO⟩:∃O,useO M p n r=O:=⟨_,rfl⟩
  have KI:Hi (∀W,Below w2.heap.size w2 W→Calls Tryz.prog 12 #[.agg #[.slice A1 M.m.t.bs.length c1,.slice A2 M.m.t.fs.length c2,.slice A3 M.m.c.ls.length c3,.int .i64 M.m.c.hand,.int .i64 M.m.g.count,.int .i64 M.m.g.next,.int .i64 M.m.g.round,.slice A4 M.m.g.os.length c4,.int .i64 M.m.sp,.slice A5 M.mk.length c5,.int .i64 M.h],.int .i64 p,.int .i64 n,.int .i64 r] W (Post2 fun v w'=>∃v1 v2 v3 v4 v5,v=.tuple #[.agg #[v1,v2,v3,.int .i64 V.m.c.hand,.int .i64 V.m.g.count,.int .i64 V.m.g.next,.int .i64 V.m.g.round,v4,.int .i64 V.m.sp,v5,.int .i64 V.h],.int .i64 F,.int .i64 R,.bool O]∧MeM W.heap.size w' v1 v2 v3 v4 v5 V∧Below W.heap.size W w')):=by
    intro W hb;have hMr:=(HM.o.now hb).r;subst hV hFq hR hO;exact UsePage_any _ _ _ _ _ M p n r W hMr (HF.o.now (bT HB.o hb))
  have KS:Hi (∀W,Below w2.heap.size w2 W→Calls Tryz.prog 14 #[.agg #[.slice A1 M.m.t.bs.length c1,.slice A2 M.m.t.fs.length c2,.slice A3 M.m.c.ls.length c3,.int .i64 M.m.c.hand,.int .i64 M.m.g.count,.int .i64 M.m.g.next,.int .i64 M.m.g.round,.slice A4 M.m.g.os.length c4,.int .i64 M.m.sp,.slice A5 M.mk.length c5,.int .i64 M.h],.int .i64 p,.int .i64 n,.int .i64 r] W (Post2 fun v w'=>∃v1 v2 v3 v4 v5,v=.tuple #[.agg #[v1,v2,v3,.int .i64 V.m.c.hand,.int .i64 V.m.g.count,.int .i64 V.m.g.next,.int .i64 V.m.g.round,v4,.int .i64 V.m.sp,v5,.int .i64 V.h],.int .i64 F,.int .i64 R,.bool O]∧MeM W.heap.size w' v1 v2 v3 v4 v5 V∧Below W.heap.size W w')):=by
    intro W hb;have hMr:=(HM.o.now hb).r;subst hV hFq hR hO;exact sUsePage_any _ _ _ _ _ M p n r W hMr
  obtain⟨q0a,q1a,q2a,q3a,q4a,q5a,q6a,q7a,q8a,q9a,q10a⟩:=c11 HX.o;go_wp2_with fail
  try rw[hW2]
  refine(KI.o w2 bR).mono ?_;rintro e w3 ⟨_,rfl,u1,u2,u3,u4,u5,rfl,hM3,hb3⟩;clear hW2 KI;clear q0a q1a q2a q3a q4a q5a q6a q7a q8a q9a q10a;obtain⟨B1,d1,rfl,_⟩:=hM3.m.t.b;obtain⟨B2,d2,rfl,_⟩:=hM3.m.t.f;obtain⟨B3,d3,rfl,_⟩:=hM3.m.l;obtain⟨B4,d4,rfl,_⟩:=hM3.m.o;obtain⟨B5,d5,rfl,_⟩:=id hM3.k;obtain⟨w4,hW4,hy,hb4,hs4⟩:=box1 w3 #[.slice B1 V.m.t.bs.length d1,.slice B2 V.m.t.fs.length d2,.slice B3 V.m.c.ls.length d3,.int .i64 V.m.c.hand,.int .i64 V.m.g.count,.int .i64 V.m.g.next,.int .i64 V.m.g.round,.slice B4 V.m.g.os.length d4,.int .i64 V.m.sp,.slice B5 V.mk.length d5,.int .i64 V.h] 37;have hbx:=bT hb3 hb4;try replace HM:=Hd (HM.o.now hbx)
  try replace HX:=Hd (HX.o.below hbx)
  try replace HK:=Hd (HK.o.below hbx)
  try replace HV:=Hd (HV.o.now hbx)
  try replace HY:=Hd (HY.o.below hbx)
  try replace HU:=Hd (HU.o.now hbx)
  try replace HZ:=Hd (HZ.o.below hbx)
  try replace HL:=Hd (HL.o.now hbx)
  try replace HE:=Hd (HE.o.now hbx)
  replace HB:=Hd (bT HB.o hbx);have HV:=Hd (hM3.now hb4);have HY:=Hd hy;have hs3:=hb3.size;clear hM3 hy hb4;obtain⟨q0a,q1a,q2a,q3a,q4a,q5a,q6a,q7a,q8a,q9a,q10a⟩:=c11 HX.o;go_wp2_with fail
  try rw[hW4]
  refine(KS.o w4 hbx).mono ?_;rintro e w5 ⟨_,rfl,u1,u2,u3,u4,u5,rfl,hM5,hb5⟩;clear hbx hW4 KS hb3;clear q0a q1a q2a q3a q4a q5a q6a q7a q8a q9a q10a;obtain⟨C1,e1,rfl,_⟩:=hM5.m.t.b;obtain⟨C2,e2,rfl,_⟩:=hM5.m.t.f;obtain⟨C3,e3,rfl,_⟩:=hM5.m.l;obtain⟨C4,e4,rfl,_⟩:=hM5.m.o;obtain⟨C5,e5,rfl,_⟩:=id hM5.k;obtain⟨w6,hW6,hy,hb6,hs6⟩:=box1 w5 #[.slice C1 V.m.t.bs.length e1,.slice C2 V.m.t.fs.length e2,.slice C3 V.m.c.ls.length e3,.int .i64 V.m.c.hand,.int .i64 V.m.g.count,.int .i64 V.m.g.next,.int .i64 V.m.g.round,.slice C4 V.m.g.os.length e4,.int .i64 V.m.sp,.slice C5 V.mk.length e5,.int .i64 V.h] 37;have hbx:=bT hb5 hb6;try replace HM:=Hd (HM.o.now hbx)
  try replace HX:=Hd (HX.o.below hbx)
  try replace HK:=Hd (HK.o.below hbx)
  try replace HV:=Hd (HV.o.now hbx)
  try replace HY:=Hd (HY.o.below hbx)
  try replace HU:=Hd (HU.o.now hbx)
  try replace HZ:=Hd (HZ.o.below hbx)
  try replace HL:=Hd (HL.o.now hbx)
  try replace HE:=Hd (HE.o.now hbx)
  replace HB:=Hd (bT HB.o hbx);have HU:=Hd (hM5.now hb6);have HZ:=Hd hy;have hs5:=hb5.size;clear hM5 hy hb6;obtain⟨q0a,q1a,q2a,q3a,q4a,q5a,q6a,q7a,q8a,q9a,q10a⟩:=c11 HY.o;obtain⟨q0b,q1b,q2b,q3b,q4b,q5b,q6b,q7b,q8b,q9b,q10b⟩:=c11 HZ.o;clear hb5 hbx;go_wp2_with fail
  try rw[hW6]
  refine(MemorySame_same _ _ _ _ _ _ _ _ _ _ V w6 HV.o.r HU.o.r).mono ?_;rintro e w7 ⟨rfl,hb7⟩;clear hW6;clear q0a q1a q2a q3a q4a q5a q6a q7a q8a q9a q10a;clear q0b q1b q2b q3b q4b q5b q6b q7b q8b q9b q10b;try replace HM:=Hd (HM.o.now hb7)
  try replace HX:=Hd (HX.o.below hb7)
  try replace HK:=Hd (HK.o.below hb7)
  try replace HV:=Hd (HV.o.now hb7)
  try replace HY:=Hd (HY.o.below hb7)
  try replace HU:=Hd (HU.o.now hb7)
  try replace HZ:=Hd (HZ.o.below hb7)
  try replace HL:=Hd (HL.o.now hb7)
  try replace HE:=Hd (HE.o.now hb7)
  replace HB:=Hd (bT HB.o hb7);clear hb7
  cases O with
  | false=>
    obtain⟨q0a,q1a,q2a,q3a,q4a,q5a,q6a,q7a,q8a,q9a,q10a⟩:=c11 HY.o;obtain⟨q0b,q1b,q2b,q3b,q4b,q5b,q6b,q7b,q8b,q9b,q10b⟩:=c11 HZ.o;go_wp2_with fail
    refine(MemorySame_same _ _ _ _ _ _ _ _ _ _ V _ HV.o.r HU.o.r).mono ?_;rintro e w8 ⟨rfl,hb8⟩;try replace HM:=Hd (HM.o.now hb8)
    try replace HX:=Hd (HX.o.below hb8)
    try replace HK:=Hd (HK.o.below hb8)
    try replace HV:=Hd (HV.o.now hb8)
    try replace HY:=Hd (HY.o.below hb8)
    try replace HU:=Hd (HU.o.now hb8)
    try replace HZ:=Hd (HZ.o.below hb8)
    try replace HL:=Hd (HL.o.now hb8)
    try replace HE:=Hd (HE.o.now hb8)
    replace HB:=Hd (bT HB.o hb8);go_wp2;go_ret;exact⟨rfl,HB.o⟩
  | true=>
    have HWR:Hi (∀(j:Nat) (l:Ln),M.m.c.ls[j]?=some l→l.w=true→V.m.c.ls[j]?=some l):=by
      show∀(j:Nat) (l:Ln),M.m.c.ls[j]?=some l→l.w=true→V.m.c.ls[j]?=some l;intro j l h1 h2;rw[←hV];exact use_wired_all hO h1 h2
    have HKY:Hi ((kys M.m.t).length≤(kys V.m.t).length):=by
      show(kys M.m.t).length≤(kys V.m.t).length;rw[←hV];exact use_keys hO
    have hl23:M.m.c.ls.length≤23:=HZM.o.1.l;clear hV hFq hR hO;go_wp2;go_loopw [15] (fun u wr=>∃k:Nat,k≤M.m.c.ls.length∧u=.int .i64 k∧Below w7.heap.size w7 wr) (fun u _=>M.m.c.ls.length-(intOf u).toNat)
    case atStart=>exact⟨0,by omega,rfl,bR⟩
    case round=>
      obtain⟨k,hk,rfl,hbr⟩:=hrel;try replace HM:=Hd (HM.o.now hbr)
      try replace HX:=Hd (HX.o.below hbr)
      try replace HK:=Hd (HK.o.below hbr)
      try replace HV:=Hd (HV.o.now hbr)
      try replace HY:=Hd (HY.o.below hbr)
      try replace HU:=Hd (HU.o.now hbr)
      try replace HZ:=Hd (HZ.o.below hbr)
      try replace HL:=Hd (HL.o.now hbr)
      try replace HE:=Hd (HE.o.now hbr)
      replace HB:=Hd (bT HB.o hbr);have x2:=HX.c 2 (.slice A3 M.m.c.ls.length c3) rfl;by_cases hlt:k<M.m.c.ls.length
      · obtain⟨l,el⟩:∃l,M.m.c.ls[k]?=some l:=⟨_,List.getElem?_eq_getElem hlt⟩
        obtain⟨b1,o1,rfl,hbl1,f0,f1,f2,f3,f4,f5⟩:=HM.o.m.l.mine.is.ln el;obtain⟨wX,hWX,hoX,hbX,_⟩:=box1 wr #[.bool l.v,.int .i64 l.t,.int .i64 l.p,.int .i64 l.f,.int .i64 l.r,.bool l.w] 50;have HEL:=Hd el;have HOX:=Hd hoX;clear el hoX;have hbrx:=Hd (bT hbr hbX);go_upto_region 12 with fail
        try rw[hWX]
        try replace HM:=Hd (HM.o.now hbX)
        try replace HX:=Hd (HX.o.below hbX)
        try replace HK:=Hd (HK.o.below hbX)
        try replace HV:=Hd (HV.o.now hbX)
        try replace HY:=Hd (HY.o.below hbX)
        try replace HU:=Hd (HU.o.now hbX)
        try replace HZ:=Hd (HZ.o.below hbX)
        try replace HL:=Hd (HL.o.now hbX)
        try replace HE:=Hd (HE.o.now hbX)
        replace HB:=Hd (bT HB.o hbX);clear hWX f0 f1 f2 f3 f4 f5 x2 hbX;have g0:=HOX.c 0 (.bool l.v) rfl;have g1:=HOX.c 1 (.int .i64 l.t) rfl;have g2:=HOX.c 2 (.int .i64 l.p) rfl;have g3:=HOX.c 3 (.int .i64 l.f) rfl;have g4:=HOX.c 4 (.int .i64 l.r) rfl;have g5:=HOX.c 5 (.bool l.w) rfl
        cases hlv:l.v with
        | false=>
          rw[hlv]at g0;clear hlv;go_quiet (fail)
          go_wp2;go_roundw;case rel=>exact⟨k+1,by omega,by go_num,bDN hbrx.o⟩
          case measure=>simp[intOf];omega
        | true=>
        cases hlw:l.w with
        | false=>
          rw[hlv]at g0;rw[hlw]at g5;clear hlv hlw;go_quiet (fail)
          go_wp2;go_roundw;case rel=>exact⟨k+1,by omega,by go_num,bDN hbrx.o⟩
          case measure=>simp[intOf];omega
        | true=>
          have ev:=HWR.o k l HEL.o hlw;have hkv:k<V.m.c.ls.length:=(List.getElem?_eq_some_iff.1 ev).1;have y2:=HY.c 2 (.slice B3 V.m.c.ls.length d3) rfl;obtain⟨b2,o2,rfl,hbl2,q0,q1,q2,q3,q4,q5⟩:=HV.o.m.l.mine.is.ln ev
          have hne:∀W:World,(binOp .neq 50 (.agg #[.bool true,.int .i64 l.t,.int .i64 l.p,.int .i64 l.f,.int .i64 l.r,.bool true]) (.agg #[.bool true,.int .i64 l.t,.int .i64 l.p,.int .i64 l.f,.int .i64 l.r,.bool true])).run Tryz.prog W=.ok (.bool false) W:=by
            intro W;have h:=neq_ln ⟨true,l.t,l.p,l.f,l.r,true⟩ ⟨true,l.t,l.p,l.f,l.r,true⟩ W;simpa using h
          rw[hlv]at g0 q0;rw[hlw]at g5 q5;clear ev hlv hlw;go_quiet (fail)
          go_wp2;go_roundw;case rel=>exact⟨k+1,by omega,by go_num,bDN hbrx.o⟩
          case measure=>simp[intOf];omega
      · obtain rfl:k=M.m.c.ls.length:=by omega
        clear hbr;have KK1:=Hd (fun W (hb:Below wr.heap.size wr W)=>KeysOf_imp _ _ V.m.t W (HV.o.now hb).r.m.t (HF.o.now (bT HB.o hb)));have KK2:=Hd (fun W (hb:Below wr.heap.size wr W)=>KeysOf_imp _ _ M.m.t W (HM.o.now hb).r.m.t (HF.o.now (bT HB.o hb)));have hky:=HKY.o;generalize (kys V.m.t).length=lv at*;generalize (kys M.m.t).length=lm at*;have hkyi:(lm:Int)≤(lv:Int):=by omega
        have s0_0:=HY.c 0 (.slice B1 V.m.t.bs.length d1) rfl;have s0_1:=HY.c 1 (.slice B2 V.m.t.fs.length d2) rfl;have s1_0:=HX.c 0 (.slice A1 M.m.t.bs.length c1) rfl;have s1_1:=HX.c 1 (.slice A2 M.m.t.fs.length c2) rfl;go_wp2_with fail
        go_region_held_law (fun w'=>w'.cell? ⟨w3.heap.size,0,none⟩=some (.slice B1 V.m.t.bs.length d1)∧w'.cell? ⟨w3.heap.size,1,none⟩=some (.slice B2 V.m.t.fs.length d2)∧w'.cell? ⟨mb,0,none⟩=some (.slice A1 M.m.t.bs.length c1)∧w'.cell? ⟨mb,1,none⟩=some (.slice A2 M.m.t.fs.length c2)) (go_keep) (first
          | (go_at_call 11
             refine(KK2.o _ HH0.o).mono ?_;rintro _ wh1 ⟨_,rfl,Kb,kb',rfl,hkb,_,hbwh1⟩;have HH1:=Hd (bT HH0.o hbwh1);have h0_1:=HY.o.below HH1.o;have s0_1_0:=h0_1.cell_ 0 (v:=.slice B1 V.m.t.bs.length d1) rfl;have s0_1_1:=h0_1.cell_ 1 (v:=.slice B2 V.m.t.fs.length d2) rfl;have h1_1:=HX.o.below HH1.o;have s1_1_0:=h1_1.cell_ 0 (v:=.slice A1 M.m.t.bs.length c1) rfl;have s1_1_1:=h1_1.cell_ 1 (v:=.slice A2 M.m.t.fs.length c2) rfl
             clear hbwh1 h0_1 h1_1)
          | (go_at_call 11
             refine(KK1.o _ (bD (bR (w:=wr)))).mono ?_;rintro _ wh0 ⟨_,rfl,Ka,ka,rfl,hka,_,hbwh0⟩;have HH0:=Hd (bT (bD (bR (w:=wr))) hbwh0);have h0_0:=HY.o.below HH0.o;have s0_0_0:=h0_0.cell_ 0 (v:=.slice B1 V.m.t.bs.length d1) rfl;have s0_0_1:=h0_0.cell_ 1 (v:=.slice B2 V.m.t.fs.length d2) rfl;have h1_0:=HX.o.below HH0.o;have s1_0_0:=h1_0.cell_ 0 (v:=.slice A1 M.m.t.bs.length c1) rfl;have s1_0_1:=h1_0.cell_ 1 (v:=.slice A2 M.m.t.fs.length c2) rfl
             clear hbwh0 h0_0 h1_0))
        all_goals
          go_wp2;go_ret;exact⟨rfl,bT HB.o HH1.o⟩
end Go.Proofs.YtfbnokjdkhcgoaaGreatDoor.lUseWired
namespace Go.Proofs.YtfbnokjdkhcgoaaGreatDoor.lUseWired
open Go.ChangeShapes Go.WideShapes Go.ChangeAt Go.RowKit Go.Joins
set_option maxRecDepth 100000 in
theorem lifted(os:Os)(started:os.Started)(H:Type)(enc:TypeId×Value→H):
  ReturnsInHanded {} Tryz.checked os 4 .any (fun w args=>(Rows.fnUseWiredSpec.pre enc Tryz.prog Tryz.f4 Rows.fnUseWiredRow.domain false w args∧laidMet Tryz.prog [("loop.example/invertedpages/impl.free",Rows.laid_loop_example_invertedpages_impl_free)] w)∧sizedMet enc Tryz.prog Tryz.f4 (OpenSpec.ofChange Rows.fnUseWiredSpec) false w args)
   (Rows.fnUseWiredSpec.post enc Tryz.prog Tryz.f4 false true false false):=by
 refine returnsInHanded_of_change_and (C:=Tryz.checked) (X:=fun w _=>laidMet Tryz.prog [("loop.example/invertedpages/impl.free",Rows.laid_loop_example_invertedpages_impl_free)] w) (fun _ _ _ hh h=>h.of_heap hh) own_ started (by kernel_rfl) Tryz.func4
  (ChangeSpec.witness_at (enc:=enc) (C:=Tryz.checked) (os:=os) (X:=fun w _=>laidMet Tryz.prog [("loop.example/invertedpages/impl.free",Rows.laid_loop_example_invertedpages_impl_free)] w) false (laidWorld os) #[.slice none 0 0] 8 rfl (by kernel_rfl) (by kernel_rfl) (by kernel_rfl) (by kernel_rfl) (by kernel_rfl) (laid_met os _)) ?_
 intro W base args ds gs before hval0 hW hcnd _ hL _;have hval:∀(j:Nat) t v,Tryz.f4.params[j]?=some t→args[j]?=some v→Value.okWide Tryz.prog W .any base t v:=hval0;have hW':=hW;obtain⟨p,q,hA0,hV0,rfl,hfz,hnd⟩:=hW;have hA:DataW.TrodAll enc Tryz.prog W 0 (fun _=>true) true Tryz.f4.params.toList args.toList ds p:=hA0;have hV:DataW.TrodVars enc Tryz.prog W (fun _=>true) ["loop.example/invertedpages/impl.free"] gs q:=hV0;rw[Tryz.params4]at hA hval;obtain⟨v0,vs0,d0,ds0,p0,q0,hargs,rfl,rfl,h0,r0⟩:=trodAll_cons hA;obtain⟨rfl,rfl,rfl⟩:=trodAll_nil r0;obtain rfl:args=#[v0]:=by cases args;simp_all
 obtain⟨hvar0,hfree⟩:=free_of_laid hL;obtain⟨g,t,cs,fuel,d,p',rfl,hg,ht,hvar,hd,rfl⟩:=trodVars_one hV;obtain rfl:=Option.some.inj (free_named.symm.trans hg);obtain rfl:=Option.some.inj (free_type.symm.trans ht);obtain rfl:cs=freeCells:=Option.some.inj (hvar.symm.trans hvar0);have k0:=h0;have lt0:∀x∈p0,x.block<W.heap.size:=by obtain⟨m,hm⟩:=k0;exact DataW.trod_lt m _ _ _ hm
 have kd:DataW.Trod enc Tryz.prog W 0 (fun _=>true) true 80 (.agg freeCells) d p':=⟨fuel,hd⟩
 have ltd:∀x∈p',x.block<W.heap.size:=DataW.trod_lt fuel _ _ _ hd;obtain⟨a0,len0,cap0,rfl⟩:=okWide_slice Tryz.underlying22 (hval 0 22 v0 rfl rfl)
 obtain⟨z0,w0⟩:∃zs,IsRow .u8 W a0 len0 cap0 zs:=by
  obtain⟨fuel,hf⟩:=h0
  rcases open_ints Tryz.underlying22 Tryz.underlying5 (by kernel_rfl) hf with⟨hcs,_⟩ | ⟨x,l,c,zs,hcs,_,hl,hm,hz,_,hcell,hwz⟩
  ·simp[Value.cells]at hcs;obtain⟨rfl,rfl,rfl⟩:=hcs;exact⟨[],.inl ⟨rfl,rfl,rfl,rfl⟩⟩
  ·simp[Value.cells]at hcs;obtain⟨rfl,rfl,rfl⟩:=hcs;exact⟨zs,.inr ⟨_,rfl,hl,hm,by simpa using hz,hcell,hwz⟩⟩
 clear hA0 hV0 hval0;refine(walk a0 len0 cap0 z0 W w0 hfree).mono fun e W' ⟨he,bel⟩=> ?_
 subst he;have hvar':=var_stays hg hvar bel (Nat.le_refl _);obtain⟨fuel',hd'⟩:=Below.trod laidOut (by kernel_rfl) (of_decide_eq_true (by kernel_rfl)) kd bel ltd;exact⟨_,rfl,_,_,_,[],_,_,hW',trodAll_mk1 (shut_bool Tryz.underlying4 _),(trodAll_cons_mk (Below.trod laidOut (by kernel_rfl) (of_decide_eq_true (by kernel_rfl)) k0 bel lt0) trodAll_mk0),⟨0,80,freeCells,fuel',_,_,hg,ht,hvar',hd',rfl,rfl⟩,bel.frame _,fun h=>by cases h⟩
theorem over:Rows.fnUseWiredRow.holds Tryz.pinned (OpenSpec.ofChange Rows.fnUseWiredSpec):=
 OpenClaim.holds_of_wide 4 Tryz.f4 rfl rfl rfl rfl rfl rfl rfl ⟨rfl,rfl,rfl,rfl,rfl⟩ rfl rfl rfl rfl rfl (by kernel_rfl) Tryz.func4 closed
  (of_decide_eq_true (by kernel_rfl)) (by unfold Func.isWrapper;rw[if_neg (of_decide_eq_false (by kernel_rfl))];exact⟨rfl,rfl⟩)
  (fun os started H enc _=>lifted os started H enc)
end Go.Proofs.YtfbnokjdkhcgoaaGreatDoor.lUseWired
