/- A part of the proofs of this seat. -/
import Derived.Test.YtfbnokjdkhcgoaaGreatDoorCEntP
set_option linter.unusedVariables false
set_option linter.unusedSimpArgs false
set_option maxRecDepth 1000000
set_option maxHeartbeats 16000000
namespace Go.Proofs.YtfbnokjdkhcgoaaGreatDoor
open Go.RowKit
def rl1(i n x:Int):Int:=if x=i then n else x
def unmF(t:Tab)(i:Nat):Tab:=⟨t.bs.map (rl1 i (t.fs.getD i frz).n),(t.fs.map (relink i (t.fs.getD i frz).n)).set i frz⟩
theorem TV.bk1{t:Tab}(T:TV t){b i:Nat}{ch:List Nat}{f:Fr}(hb:b<t.bs.length)(e:bch t b=some ch)(hi:i∈ch)(ef:t.fs[i]?=some f)(hk:kval (f.s,f.p)=true):b=bkt t f.s f.p:=by
 obtain⟨ch2,e2,hc2⟩:=T.ch b hb;rw[e]at e2;injection e2 with e2;subst e2;obtain⟨g,eg,hh⟩:=hok_parts (hc2 i hi);rw[ef]at eg;injection eg with eg;subst eg;obtain⟨_,he⟩:=bkt_in hk T.sz.2.2.1;omega
theorem TV.bk{t:Tab}(T:TV t){i:Nat}{f:Fr}(ef:t.fs[i]?=some f)(hu:f.used=true)(hk:kval (f.s,f.p)=true):∃ch,bch t (bkt t f.s f.p)=some ch∧i∈ch:=by
 obtain⟨b,ch,hb,e,hi⟩:=T.cov i f ef hu;have:=T.bk1 hb e hi ef hk;subst this;exact⟨ch,e,hi⟩
theorem TV.head{t:Tab}(T:TV t){b i:Nat}{f:Fr}(eb:t.bs[b]?=some (i:Int))(ef:t.fs[i]?=some f)(hk:kval (f.s,f.p)=true):b=bkt t f.s f.p∧∃ch,bch t b=some ch∧∃r,ch=i::r:=by
 have hb:=(List.getElem?_eq_some_iff.1 eb).1;obtain⟨ch,e,_⟩:=T.ch b hb;obtain⟨x,ex,ec⟩:=bch_some e;rw[eb]at ex;injection ex with ex;subst ex;obtain⟨j,k',g,r,h1,_,_,_,_,h6⟩:=chn_cons ec (by omega);have:j=i:=by omega
 subst this;exact⟨T.bk1 hb e (by rw[h6];simp) ef hk,ch,e,r,h6⟩
theorem unm_form{t:Tab}(T:TV t){s p:Int}{i:Nat}{f:Fr}(ef:t.fs[i]?=some f)(hu:f.used=true)(hkk:(f.s,f.p)=(s,p))(hk:kval (s,p)=true):unmT t s p=unmF t i:=by
 have hi:=fndI_some (T.fnd ef hu hkk);have hil:=(List.getElem?_eq_some_iff.1 ef).1;injection hkk with h1 h2;subst h1 h2;obtain⟨ch,ech,hin⟩:=T.bk ef hu hk
 have hbs:∀c x,t.bs[c]?=some x→x=(i:Int)→c=bkt t f.s f.p:=fun c x e hx=>by
  subst hx;exact(T.head e ef hk).1
 unfold unmT unmF;simp only[hi,Int.toNat_natCast,getD_at ef];split
 ·rename_i hh;have hb:=(bkt_in hk T.sz.2.2.1).1
  have eb:t.bs[bkt t f.s f.p]?=some (i:Int):=by
   rw[List.getD_eq_getElem?_getD,List.getElem?_eq_getElem hb]at hh;rw[List.getElem?_eq_getElem hb];exact congrArg some hh
  obtain⟨_,ch2,ech2,r,hr⟩:=T.head eb ef hk;rw[ech]at ech2;injection ech2 with ech2;subst ech2
  congr 1
  ·refine List.ext_getElem? fun c=> ?_
   rw[List.getElem?_map];by_cases hc:bkt t f.s f.p=c
   ·subst hc;rw[set_eq hb,eb];simp[rl1]
   ·rw[set_ne hc]
    cases ec:t.bs[c]? with
    | none=>rfl
    | some x=>
     have:¬x=(i:Int):=fun hx=>hc (hbs c x ec hx).symm
     simp[rl1,this]
  ·refine List.ext_getElem? fun j=> ?_
   by_cases hj:i=j
   ·subst hj;rw[set_eq hil,set_eq (by rw[List.length_map];exact hil)]
   ·rw [set_ne hj,set_ne hj,List.getElem?_map]
    cases eg:t.fs[j]? with
    | none=>rfl
    | some g=>
     have hne:¬(g.used=true∧g.n=(i:Int)):=by
      rintro⟨gu,gn⟩;obtain⟨b,ch3,hb3,e3,hj3⟩:=T.cov j g eg gu;obtain⟨x,ex,ec⟩:=bch_some e3;obtain⟨hi3,a,r3,h3⟩:=chn_next ec hj3 eg gn;have hbb:=T.bk1 hb3 e3 hi3 ef hk;subst hbb;rw[ech]at e3;injection e3 with e3;subst e3;have hnd:=chn_nodup ec;rw[hr]at h3 hnd
      cases a with
      | nil=>
       simp only[List.nil_append]at h3;injection h3 with h3 _;exact hj h3
      | cons y a=>
       simp only[List.cons_append]at h3;injection h3 with h3 h4;rw[h4]at hnd;simp at hnd
     show some g=some (relink i f.n g);unfold relink;rw[if_neg hne]
 ·rename_i hh
  congr 1
  refine List.ext_getElem? fun c=> ?_
  rw[List.getElem?_map]
  cases ec:t.bs[c]? with
  | none=>rfl
  | some x=>
   have:¬x=(i:Int):=fun hx=>by
    have hc:=hbs c x ec hx;subst hc;rw[List.getD_eq_getElem?_getD,ec]at hh;exact hh hx
   simp[rl1,this]
theorem takV_at{m:Ma}{s p:Int}(h:takO m s p=true):takV m s p=drpM m (unmT m.t s p) s p:=by
 unfold takV unmV;rw[if_pos h,if_pos (takO_iff.1 h).2]
theorem unm_at{t:Tab}{s p:Int}(h:fOK t s p=true){i:Nat}{f:Fr}(e:t.fs[i]?=some f)(T:TV t):∃y,(unmT t s p).fs[i]?=some y∧(f.used=true→f.s=s→f.p=p→y=frz)∧(¬(f.used=true∧f.s=s∧f.p=p)→y.used=f.used∧y.s=f.s∧y.p=f.p∧y.r=f.r):=by
 obtain⟨k,g,a1,a2,a3,a4,a5,a6⟩:=fOK_at h;rw[unm_form T a3 a4 a5 a6];have hkl:=(List.getElem?_eq_some_iff.1 a3).1;injection a5 with c1 c2;unfold unmF;simp only[getD_at a3];by_cases hik:k=i
 ·subst hik;rw[a3]at e;injection e with e;subst e;exact⟨frz,set_eq (by rw[List.length_map];exact hkl),fun _ _ _=>rfl,fun hn=>absurd ⟨a4,c1,c2⟩ hn⟩
 ·refine⟨relink k g.n f,by rw[set_ne hik,List.getElem?_map,e];rfl,fun hu hs hp=> ?_,fun _=> ?_⟩
  ·exact absurd (T.key k i g f a3 e a4 hu (by rw[c1,c2,hs,hp])) hik
  ·unfold relink;split<;>exact⟨rfl,rfl,rfl,rfl⟩
theorem unm_len{t:Tab}{s p:Int}:(unmT t s p).fs.length=t.fs.length:=by
 unfold unmT;simp only;split<;>simp
theorem keys_takO{m:Ma}(hm:mav m=true){s p:Int}(h:(s,p)∈keysL m.t.fs):takO m s p=true:=by
 have M:=mav_MV.1 hm;obtain⟨i,y,e1,e2,e3⟩:=keysL_mem.1 h;have htv:=(mav_parts hm).1;refine takO_iff.2 ⟨hm,fOK_iff.2 ⟨htv, ?_,by rw[fndI_some (M.t.fnd e1 e2 e3)];omega⟩⟩;have h1:=M.t.ok i y e1;unfold frok at h1;rw[if_pos e2,Bool.and_eq_true,e3]at h1;exact h1.1
structure Me where
 of::
 m:Ma
 mk:List Bool
 h:Int
def mez:Me:=⟨maz,[],0⟩
def mkk(fs:List Fr)(mk:List Bool):Nat→Bool
 | 0=>true
 | i+1=>mkk fs mk i && (!(mk.getD i false) || usedAt fs i)
def mev(M:Me):Bool:=mav M.m && decide (M.mk.length=M.m.t.fs.length) && inR M.h M.m.t.fs.length && mkk M.m.t.fs M.mk M.mk.length
theorem mkk_iff {fs:List Fr} {mk:List Bool}:∀{n:Nat},mkk fs mk n=true↔∀i,i<n→mk.getD i false=true→usedAt fs i=true
  | 0=>⟨fun _ i h=>absurd h (by omega),fun _=>rfl⟩
  | n + 1=>by
    unfold mkk;rw[Bool.and_eq_true,mkk_iff,Bool.or_eq_true,Bool.not_eq_true'];constructor
    · rintro⟨h1,h2⟩ i hi hm
      rcases Nat.lt_or_ge i n with h | h
      · exact h1 i h hm
      · obtain rfl:i=n:=by omega
        rcases h2 with h2 | h2
        · rw[h2]at hm;cases hm
        · exact h2
    · intro h
      refine⟨fun i hi=>h i (by omega), ?_⟩
      cases e:mk.getD n false with
      | false=>exact .inl rfl
      | true=>exact .inr (h n (by omega) e)
theorem mkk_step{fs:List Fr}{mk:List Bool}{k:Nat}(h:mkk fs mk k=true)(h2:mk.getD k false=true→usedAt fs k=true):mkk fs mk (k+1)=true:=
 mkk_iff.2 fun i hi hm=>by
  rcases Nat.lt_or_ge i k with h1 | h1
  ·exact mkk_iff.1 h i h1 hm
  ·obtain rfl:i=k:=by omega
   exact h2 hm
theorem getDb{mk:List Bool}{i:Nat}{b:Bool}(e:mk[i]?=some b):mk.getD i false=b:=by rw[List.getD_eq_getElem?_getD,e];rfl
theorem getDb_iff{mk:List Bool}{i:Nat}:mk.getD i false=true↔mk[i]?=some true:=by
 rw[List.getD_eq_getElem?_getD]
 cases h:mk[i]? with
 | none=>simp
 | some b=>simp
theorem usedAt_iff{fs:List Fr}{i:Nat}:usedAt fs i=true↔∃f,fs[i]?=some f∧f.used=true:=by
 unfold usedAt
 cases h:fs[i]? with
 | none=>simp
 | some f=>simp
theorem usedAt_of{fs:List Fr}{i:Nat}{f:Fr}(e:fs[i]?=some f):usedAt fs i=f.used:=by unfold usedAt;rw[e]
structure MEV(M:Me):Prop where
 m:MV M.m
 ln:M.mk.length=M.m.t.fs.length
 h:inR M.h M.m.t.fs.length=true
 k:∀i:Nat,M.mk[i]?=some true→usedAt M.m.t.fs i=true
theorem mev_MEV{M:Me}:mev M=true↔MEV M:=by
 unfold mev;simp only[Bool.and_eq_true,decide_eq_true_eq];constructor
 ·rintro⟨⟨⟨h1,h2⟩,h3⟩,h4⟩;refine⟨mav_MV.1 h1,h2,h3,fun i hi=> ?_⟩;exact mkk_iff.1 h4 i (List.getElem?_eq_some_iff.1 hi).1 (getDb_iff.2 hi)
 ·intro h;exact⟨⟨⟨mav_MV.2 h.m,h.ln⟩,h.h⟩,mkk_iff.2 fun i _ hm=>h.k i (getDb_iff.1 hm)⟩
theorem mev_m{M:Me}(h:mav M.m=false):mev M=false:=by unfold mev;rw[h];rfl
theorem mev_ln{M:Me}(h:M.mk.length≠M.m.t.fs.length):mev M=false:=by unfold mev;rw[decide_eq_false h];simp
theorem mev_h{M:Me}(h:inR M.h M.m.t.fs.length=false):mev M=false:=by unfold mev;rw[h];simp
theorem mev_k{M:Me}{k:Nat}(hm:M.mk[k]?=some true)(h:usedAt M.m.t.fs k=false):mev M=false:=by
 refine bool_ff fun hv=> ?_
 have:=(mev_MEV.1 hv).k k hm;rw[h]at this;cases this
theorem mev_yes{M:Me}(h1:mav M.m=true)(h2:M.mk.length=M.m.t.fs.length)(h3:inR M.h M.m.t.fs.length=true)(h4:mkk M.m.t.fs M.mk M.mk.length=true):mev M=true:=by
 unfold mev;rw[h1,decide_eq_true h2,h3,h4];rfl
theorem mav_fslen{m:Ma}(h:mav m=true):1≤m.t.fs.length∧m.t.fs.length≤16:=by
 have:=(tv_parts (mav_parts h).1).1;omega
def ffr(fs:List Fr):Option Nat:=fs.findIdx? (fun f=>!f.used)
def ffI(fs:List Fr):Int:=match ffr fs with | some i=>i | none=>-1
def ffO(M:Me):Bool:=mev M && decide (0≤ffI M.m.t.fs)
def ffV(M:Me):Int:=if ffO M=true then ffI M.m.t.fs else 0
theorem ffr_at{fs:List Fr}{k:Nat}{f:Fr}(e:fs[k]?=some f)(hu:f.used=false)(hb:∀(j:Nat) (g:Fr),j<k→fs[j]?=some g→g.used=true):ffr fs=some k:=by
 unfold ffr;obtain⟨hk,he⟩:=List.getElem?_eq_some_iff.1 e;refine List.findIdx?_eq_some_iff_getElem.2 ⟨hk,by rw[he,hu];rfl,fun j hj=> ?_⟩;have:=hb j fs[j] hj (List.getElem?_eq_getElem (by omega));rw[this];decide
theorem ffr_none{fs:List Fr}(hb:∀(j:Nat) (g:Fr),fs[j]?=some g→g.used=true):ffr fs=none:=by
 unfold ffr;refine List.findIdx?_eq_none_iff.2 fun g hg=> ?_
 obtain⟨j,hj,e⟩:=List.getElem_of_mem hg;rw[hb j g (by rw[List.getElem?_eq_getElem hj,e])];rfl
theorem ffr_some{fs:List Fr}{k:Nat}(h:ffr fs=some k):∃f,fs[k]?=some f∧f.used=false∧∀(j:Nat) (g:Fr),j<k→fs[j]?=some g→g.used=true:=by
 unfold ffr at h;obtain⟨hk,h1,h2⟩:=List.findIdx?_eq_some_iff_getElem.1 h;refine⟨fs[k],List.getElem?_eq_getElem hk,by simpa using h1,fun j g hj e=> ?_⟩;obtain⟨hj2,e2⟩:=List.getElem?_eq_some_iff.1 e;have:=h2 j hj;rw[e2]at this;simpa using this
theorem ffI_some{fs:List Fr}{k:Nat}(h:ffr fs=some k):ffI fs=(k:Int):=by unfold ffI;rw[h]
theorem ffI_none{fs:List Fr}(h:ffr fs=none):ffI fs=-1:=by unfold ffI;rw[h]
theorem ffI_lt{fs:List Fr}(h:0≤ffI fs):∃k:Nat,ffI fs=(k:Int)∧ffr fs=some k∧k<fs.length:=by
 cases e:ffr fs with
 | none=>rw[ffI_none e]at h;omega
 | some k=>
  obtain⟨f,ef,_⟩:=ffr_some e;exact⟨k,ffI_some e,rfl,(List.getElem?_eq_some_iff.1 ef).1⟩
theorem ffO_no{M:Me}(h:ffO M=false):ffV M=0:=by unfold ffV;rw[h];rfl
def wirA(ls:List Ln)(i:Int):Bool:=ls.any (fun x=>x.w && decide (x.f=i))
def clk(fs:List Fr)(ls:List Ln):Nat→List Bool→Nat→Option (List Bool×Nat×Nat)
 | 0,_,_=>none
 | k+1,mk,h=>
  if usedAt fs h=true∧wirA ls h=false then
   if mk.getD h false=true then clk fs ls k (mk.set h false) ((h+1) % mk.length)else some (mk,(h+1) % mk.length,h)
  else clk fs ls k mk ((h+1) % mk.length)
theorem clk_skip{fs:List Fr}{ls:List Ln}{k h:Nat}{mk:List Bool}(hs:¬(usedAt fs h=true∧wirA ls h=false)):clk fs ls (k+1) mk h=clk fs ls k mk ((h+1) % mk.length):=by
 rw[clk,if_neg hs]
theorem clk_mark{fs:List Fr}{ls:List Ln}{k h:Nat}{mk:List Bool}(hu:usedAt fs h=true)(hw:wirA ls h=false)(hm:mk[h]?=some true):clk fs ls (k+1) mk h=clk fs ls k (mk.set h false) ((h+1) % mk.length):=by
 rw[clk,if_pos ⟨hu,hw⟩,if_pos (getDb_iff.2 hm)]
theorem clk_hit{fs:List Fr}{ls:List Ln}{k h:Nat}{mk:List Bool}(hu:usedAt fs h=true)(hw:wirA ls h=false)(hm:mk[h]?=some false):clk fs ls (k+1) mk h=some (mk,(h+1) % mk.length,h):=by
 rw[clk,if_pos ⟨hu,hw⟩,if_neg (by rw[getDb hm];decide)]
structure Clk(fs:List Fr)(ls:List Ln)(mk:List Bool)(r:List Bool×Nat×Nat):Prop where
 ln:r.1.length=mk.length
 hd:r.2.1<mk.length
 at_:r.2.2<mk.length
 us:usedAt fs r.2.2=true
 wi:wirA ls r.2.2=false
 no:r.1[r.2.2]?=some false
 sub:∀i:Nat,r.1[i]?=some true→mk[i]?=some true
theorem clk_some {fs:List Fr} {ls:List Ln} {r:List Bool×Nat×Nat}:∀{k:Nat} {mk:List Bool} {h:Nat},h<mk.length→clk fs ls k mk h=some r→Clk fs ls mk r
  | 0,mk,h,_,e=>by rw[clk]at e;cases e
  | k + 1,mk,h,hh,e=>by
    have hn:(h+1) % mk.length<mk.length:=Nat.mod_lt _ (by omega);by_cases hs:usedAt fs h=true∧wirA ls h=false
    · cases hm:mk[h]? with
      | none=>rw[List.getElem?_eq_none_iff]at hm;omega
      | some b=>
        cases b with
        | true=>
          rw[clk_mark hs.1 hs.2 hm]at e;have c:=clk_some (mk:=mk.set h false) (by rw[List.length_set];exact hn) e;refine⟨by rw[c.ln,List.length_set],by have:=c.hd;rwa [List.length_set]at this,by have:=c.at_;rwa [List.length_set]at this,c.us,c.wi,c.no,fun i hi=> ?_⟩;have:=c.sub i hi;rw[List.getElem?_set]at this;split at this
          · first | (split at this<;>cases this) | cases this
          · exact this
        | false=>
          rw[clk_hit hs.1 hs.2 hm]at e;injection e with e;subst e;exact⟨rfl,hn,hh,hs.1,hs.2,hm,fun i hi=>hi⟩
    · rw[clk_skip hs]at e
      exact clk_some hn e
def clR(M:Me):Option (List Bool×Nat×Nat):=clk M.m.t.fs M.m.c.ls (2*M.mk.length) M.mk M.h.toNat
def clO(M:Me):Bool:=mev M && (clR M).isSome
def clM(M:Me):Me:=if clO M=true then⟨M.m,((clR M).getD ([],0,0)).1,((clR M).getD ([],0,0)).2.1⟩else mez
def clA(M:Me):Int:=if clO M=true then((clR M).getD ([],0,0)).2.2 else 0
theorem MEV.clk{M:Me}(h:MEV M){r:List Bool×Nat×Nat}(e:clR M=some r):Clk M.m.t.fs M.m.c.ls M.mk r:=by
 obtain⟨h1,h2⟩:=inR_iff.1 h.h;refine clk_some ?_ e;rw[h.ln];omega
theorem clO_no{M:Me}(h:clO M=false):clM M=mez∧clA M=0:=by unfold clM clA;rw[h];exact⟨rfl,rfl⟩
theorem clO_at{M:Me}(h:mev M=true){mk:List Bool}{n a:Nat}(e:clR M=some (mk,n,a)):clO M=true∧clM M=⟨M.m,mk,n⟩∧clA M=(a:Int):=by
 have h1:clO M=true:=by unfold clO;rw[h,e];rfl
 refine⟨h1, ?_, ?_⟩
 ·unfold clM;rw[if_pos h1,e];rfl
 ·unfold clA;rw[if_pos h1,e];rfl
def misM(M:Me)(p:Int):Bool:=decide (fndI M.m.t.fs (keyI M.m.sp p) p<0)
def brN(M:Me):Option (Me×Nat):=
 match ffr M.m.t.fs with
 | some k=>some (M,k)
 | none=>match clR M with
  | none=>none
  | some (mk,h,a)=>some (⟨takV M.m (M.m.t.fs.getD a frz).s (M.m.t.fs.getD a frz).p,mk,h⟩,a)
def brP(M:Me)(p r:Int)(x:Me×Nat):Option Me:=if putOK x.1.m (keyI M.m.sp p) p x.2 r=true then some ⟨putV x.1.m (keyI M.m.sp p) p x.2 r,x.1.mk,x.1.h⟩else none
def brO(M:Me)(p r:Int):Option Me:=match brN M with
 | none=>none
 | some x=>brP M p r x
def useN(M:Me)(p r:Int):Option Me:=if misM M p=true then brO M p r else some M
def useO(M:Me)(p n r:Int):Bool:=mev M && inR p 256 && inR n 8 && inR r 8 && (useN M p r).isSome
def useX(M:Me)(p r:Int):Me:=(useN M p r).getD mez
def useV(M:Me)(p n r:Int):Me:=if useO M p n r=true then⟨tchV (useX M p r).m p n,(useX M p r).mk.set (tchF (useX M p r).m p n).toNat true,(useX M p r).h⟩else mez
def useF(M:Me)(p n r:Int):Int:=if useO M p n r=true then tchF (useX M p r).m p n else 0
def useR(M:Me)(p n r:Int):Int:=if useO M p n r=true then(if misM M p=true∧tchR (useX M p r).m p n=2 then 3 else tchR (useX M p r).m p n)else 0
theorem useO_no{M:Me}{p n r:Int}(h:useO M p n r=false):useV M p n r=mez∧useF M p n r=0∧useR M p n r=0:=by
 unfold useV useF useR;rw[h];exact⟨rfl,rfl,rfl⟩
theorem useO_v{M:Me}{p n r:Int}(h:mev M=false):useO M p n r=false:=by unfold useO;rw[h];rfl
theorem useO_p{M:Me}{p n r:Int}(h:inR p 256=false):useO M p n r=false:=by unfold useO;rw[h];simp
theorem useO_n{M:Me}{p n r:Int}(h:inR n 8=false):useO M p n r=false:=by unfold useO;rw[h];simp
theorem useO_r{M:Me}{p n r:Int}(h:inR r 8=false):useO M p n r=false:=by unfold useO;rw[h];simp
theorem useO_none{M:Me}{p n r:Int}(h:useN M p r=none):useO M p n r=false:=by unfold useO;rw[h];simp
theorem useO_some{M N:Me}{p n r:Int}(h1:mev M=true)(h2:inR p 256=true)(h3:inR n 8=true)(h4:inR r 8=true)(e:useN M p r=some N):
  useO M p n r=true∧useV M p n r=⟨tchV N.m p n,N.mk.set (tchF N.m p n).toNat true,N.h⟩∧useF M p n r=tchF N.m p n∧useR M p n r=(if misM M p=true∧tchR N.m p n=2 then 3 else tchR N.m p n):=by
 have h:useO M p n r=true:=by unfold useO;rw[h1,h2,h3,h4,e];rfl
 have hx:useX M p r=N:=by unfold useX;rw[e];rfl
 refine⟨h, ?_, ?_, ?_⟩
 ·unfold useV;rw[if_pos h,hx]
 ·unfold useF;rw[if_pos h,hx]
 ·unfold useR;rw[if_pos h,hx]
theorem useO_parts{M:Me}{p n r:Int}(h:useO M p n r=true):mev M=true∧inR p 256=true∧inR n 8=true∧inR r 8=true∧∃N,useN M p r=some N:=by
 unfold useO at h;simp only[Bool.and_eq_true]at h;obtain⟨⟨⟨⟨h1,h2⟩,h3⟩,h4⟩,h5⟩:=h;exact⟨h1,h2,h3,h4,Option.isSome_iff_exists.1 h5⟩
theorem MV.takO{m:Ma}(M:MV m){k:Nat}{f:Fr}(e:m.t.fs[k]?=some f)(hu:f.used=true):takO m f.s f.p=true:=
 keys_takO (mav_MV.2 M) (keysL_mem.2 ⟨k,f,e,hu,rfl⟩)
theorem putV_len{m:Ma}{s p fr r:Int}(h:putOK m s p fr r=true):(putV m s p fr r).t.fs.length=m.t.fs.length:=by
 unfold putV;rw[if_pos h];unfold putOK at h;simp only[Bool.and_eq_true]at h;show(mapV m.t s p fr r).fs.length=_;unfold mapV;rw[if_pos h.2];show(m.t.fs.set _ _).length=_;rw[List.length_set]
theorem takV_len{m:Ma}{s p:Int}(h:takO m s p=true):(takV m s p).t.fs.length=m.t.fs.length:=by
 rw[takV_at h];exact unm_len
theorem tchV_len{m:Ma}{p n:Int}(h:tchO m p n=true):(tchV m p n).t=m.t∧(tchV m p n).sp=m.sp∧(tchV m p n).g=m.g:=by
 unfold tchV;rw[if_pos h];split
 ·exact⟨rfl,rfl,rfl⟩
 ·split<;>exact⟨rfl,rfl,rfl⟩
theorem tchFr_lt{m:Ma}(M:MV m)(p:Int):∃k:Nat,tchFr m p=(k:Int)∧k<m.t.fs.length:=by
 by_cases h:0≤tchH m p
 ·obtain⟨k,i,x,f,_,_,_,ef,_,_,hti,_⟩:=M.hit h;exact⟨i,hti,(List.getElem?_eq_some_iff.1 ef).1⟩
 ·by_cases h2:0≤tchK m p
  ·obtain⟨k,hk,hf⟩:=fndI_fnd (show 0≤fndI m.t.fs (keyI m.sp p) p from h2);obtain⟨f,ef,_⟩:=fnd_some hf;exact⟨k,by unfold tchFr;rw[if_neg h,if_pos h2];exact hk,(List.getElem?_eq_some_iff.1 ef).1⟩
  ·refine⟨0,by unfold tchFr;rw[if_neg h,if_neg h2];rfl, ?_⟩;have:=M.t.sz;omega
theorem tchR_rng(m:Ma)(p n:Int):0≤tchR m p n∧tchR m p n≤4:=by
 unfold tchR;split
 ·split
  ·split<;>omega
  ·split
   ·split<;>omega
   ·omega
 ·omega
theorem useR_rng(M:Me)(p n r:Int):0≤useR M p n r∧useR M p n r≤4:=by
 unfold useR;have:=tchR_rng (useX M p r).m p n;split
 ·split<;>omega
 ·omega
theorem brN_at{M:Me}(V:MEV M){x:Me×Nat}(e:brN M=some x):mav x.1.m=true∧x.1.mk.length=M.mk.length∧x.1.m.t.fs.length=M.m.t.fs.length∧x.1.m.sp=M.m.sp∧x.2<M.m.t.fs.length∧inR x.1.h M.m.t.fs.length=true:=by
 unfold brN at e
 cases hf:ffr M.m.t.fs with
 | some k=>
  rw[hf]at e;injection e with e;subst e;obtain⟨f,ef,_⟩:=ffr_some hf;exact⟨mav_MV.2 V.m,rfl,rfl,rfl,(List.getElem?_eq_some_iff.1 ef).1,V.h⟩
 | none=>
  rw[hf]at e
  cases hc:clR M with
  | none=>rw[hc]at e;cases e
  | some r=>
   obtain⟨mk,h,a⟩:=r;rw[hc]at e;injection e with e;subst e;have c:=V.clk hc;obtain⟨f,ef,hu⟩:=usedAt_iff.1 c.us;have ht:=V.m.takO ef hu;have hl:=V.ln;have h1:=c.hd;have h2:=c.at_;simp only at h1 h2 ef;show mav (takV M.m (M.m.t.fs.getD a frz).s (M.m.t.fs.getD a frz).p)=true∧mk.length=_∧(takV M.m (M.m.t.fs.getD a frz).s (M.m.t.fs.getD a frz).p).t.fs.length=_∧(takV M.m (M.m.t.fs.getD a frz).s (M.m.t.fs.getD a frz).p).sp=_∧a<_∧inR (h:Int) _=true;rw[getD_at ef];exact⟨mav_tak ht,c.ln,takV_len ht,(takV_c ht).2.2,by omega,inR_iff.2 (by omega)⟩
theorem useN_at{M N:Me}(V:MEV M){p r:Int}(e:useN M p r=some N):mav N.m=true∧N.mk.length=M.mk.length∧N.m.t.fs.length=M.m.t.fs.length∧N.m.sp=M.m.sp∧inR N.h M.m.t.fs.length=true:=by
 unfold useN at e;split at e
 ·unfold brO at e
  cases hx:brN M with
  | none=>rw[hx]at e;cases e
  | some x=>
   rw[hx]at e;obtain⟨h1,h2,h3,h4,h5,h6⟩:=brN_at V hx;simp only[brP]at e;split at e
   ·rename_i hp;injection e with e;subst e;refine⟨mav_put hp,h2,(putV_len hp).trans h3, ?_,h6⟩;show(putV x.1.m (keyI M.m.sp p) p x.2 r).sp=_;unfold putV;rw[if_pos hp];exact h4
   ·cases e
 ·injection e with e;subst e;exact⟨mav_MV.2 V.m,rfl,rfl,rfl,V.h⟩
theorem useN_tch{M N:Me}(V:MEV M){p n r:Int}(e:useN M p r=some N)(hp:inR p 256=true)(hn:inR n 8=true):tchO N.m p n=true∧∃k:Nat,tchF N.m p n=(k:Int)∧k<N.mk.length:=by
 obtain⟨h1,h2,h3,_⟩:=useN_at V e;have ht:tchO N.m p n=true:=by unfold tchO;rw[h1,hp,hn];rfl
 obtain⟨k,hk,hlt⟩:=tchFr_lt (mav_MV.1 h1) p;have hl:=V.ln;exact⟨ht,k,by unfold tchF;rw[if_pos ht,hk],by omega⟩
def bmp(cs:List Int)(i:Nat):List Int:=cs.set i (cs.getD i 0+1)
def usL(M:Me)(ps:List Int):Nat→Option (Me×List Int)
 | 0=>some (M,[0,0,0,0,0])
 | k+1=>match usL M ps k with
  | none=>none
  | some x=>match ps[k]? with
   | none=>none
   | some p=>if useO x.1 p 1 1=true then some (useV x.1 p 1 1,bmp x.2 (useR x.1 p 1 1).toNat)else none
def usA(M:Me)(ps:List Int):Option (Me×List Int):=if mev M=true∧ps.length≤64 then usL M ps ps.length else none
def usV(M:Me)(ps:List Int):Me:=match usA M ps with | some x=>x.1 | none=>mez
def usC(M:Me)(ps:List Int):List Int:=match usA M ps with | some x=>x.2 | none=>[]
def usO(M:Me)(ps:List Int):Bool:=(usA M ps).isSome
theorem usL_len {M:Me} {ps:List Int}:∀{k:Nat} {x:Me×List Int},usL M ps k=some x→x.2.length=5
  | 0,x,e=>by rw[usL]at e;injection e with e;subst e;rfl
  | k + 1,x,e=>by
    rw[usL]at e
    cases h:usL M ps k with
    | none=>rw[h]at e;cases e
    | some y=>
      rw[h]at e;have hy:=usL_len h
      cases h2:ps[k]? with
      | none=>rw[h2]at e;cases e
      | some p=>
        rw[h2]at e;simp only at e;split at e
        · injection e with e
          subst e;show(bmp y.2 _).length=5;unfold bmp;rw[List.length_set];exact hy
        · cases e
theorem usL_step{M:Me}{ps:List Int}{k:Nat}{x:Me×List Int}{p:Int}(h:usL M ps k=some x)(e:ps[k]?=some p):usL M ps (k+1)=if useO x.1 p 1 1=true then some (useV x.1 p 1 1,bmp x.2 (useR x.1 p 1 1).toNat)else none:=by
 rw[usL,h];simp only;rw[e]
theorem usL_bad {M:Me} {ps:List Int} {k:Nat} (h:usL M ps k=none):∀{n:Nat},k≤n→usL M ps n=none
  | 0, hn => by obtain rfl:k=0:=by omega
                exact h
  | n +1,hn=>by
    rcases Nat.lt_or_ge k (n+1)with h1 | h1
    · rw[usL,usL_bad h (show k≤n by omega)]
    · obtain rfl:k=n+1:=by omega
      exact h
theorem usA_no{M:Me}{ps:List Int}(h:usA M ps=none):usO M ps=false∧usV M ps=mez∧usC M ps=[]:=by
 unfold usO usV usC;rw[h];exact⟨rfl,rfl,rfl⟩
theorem usA_yes{M:Me}{ps:List Int}{x:Me×List Int}(h:usA M ps=some x):usO M ps=true∧usV M ps=x.1∧usC M ps=x.2:=by
 unfold usO usV usC;rw[h];exact⟨rfl,rfl,rfl⟩
theorem TakePage_any(vb vf vl vo:Value)(m:Ma)(s p:Int)(w:World)(hM:MaR w vb vf vl vo m)(hfree:Free w):
  Calls Tryz.prog 43 #[.agg #[vb,vf,vl,.int .i64 m.c.hand,.int .i64 m.g.count,.int .i64 m.g.next,.int .i64 m.g.round,vo,.int .i64 m.sp],.agg #[.int .i64 s,.int .i64 p]] w (Post2 fun v w'=>∃v1 v2 v3 v4,v=.tuple #[.agg #[v1,v2,v3,.int .i64 (takV m s p).c.hand,.int .i64 (takV m s p).g.count,.int .i64 (takV m s p).g.next,.int .i64 (takV m s p).g.round,v4,.int .i64 (takV m s p).sp],.bool (takO m s p)]∧MaM w.heap.size w' v1 v2 v3 v4 (takV m s p)∧Below w.heap.size w w'):=by
 obtain⟨W0,hW,hbx,hbk,hbo,hb0,hs0⟩:=box3 w #[vb,vf,vl,.int .i64 m.c.hand,.int .i64 m.g.count,.int .i64 m.g.next,.int .i64 m.g.round,vo,.int .i64 m.sp] 34 #[.int .i64 s,.int .i64 p] 54 #[.slice none 0 0,.slice none 0 0,.slice none 0 0,.int .i64 0,.int .i64 0,.int .i64 0,.int .i64 0,.slice none 0 0,.int .i64 0] 34;have HX0:=Hd hbx;have HK0:=Hd hbk;have HR0:=Hd hbo;have HB0:=Hd hb0;have HS0:Hi (w.heap.size+3≤W0.heap.size):=Nat.le_of_eq hs0.symm;clear hbx hbk hbo hb0;have HM:=Hd hM;have HF:=Hd hfree;clear hM hfree;obtain⟨m00,m10,m20,m30,m40,m50,m60,m70,m80⟩:=cells9 HX0.o
 go_enter Tryz.func43,Tryz.ntmps43
 go_wp2_with fail
 refine(MachineValid_any vb vf vl vo m _ (HM.o.now HB0.o) (HF.o.now HB0.o)).mono ?_;rintro e w1 ⟨rfl,hb1⟩;have HX1:=Hd (HX0.o.below hb1);have HK1:=Hd (HK0.o.below hb1);have HR1:=Hd (HR0.o.below hb1);have HB1:=Hd (bT HB0.o hb1);have HS1:=Hd (Nat.le_trans HS0.o hb1.size);clear hb1;clear m00 m10 m20 m30 m40 m50 m60 m70 m80
 cases h1:mav m with
 | false=>
  have HA:Hi (takO m s p=false):=by show _=_;unfold takO;rw[h1];rfl
  have HV:=Hd (takO_false HA.o);obtain⟨r0x,r1x,r2x,r3x,r4x,r5x,r6x,r7x,r8x⟩:=cells9 HR1.o;obtain⟨z0x,z1x,z2x,z3x,z4x,z5x,z6x,z7x,z8x⟩:=free9 HR1.o;go_wp2;obtain⟨t0,t1,t2,t3,t4,t5,t6,t7,t8⟩:=cells9 (set9z HR1.o);refine bodyPost_ret (v:=.tuple #[.agg #[.slice none 0 0,.slice none 0 0,.slice none 0 0,.int .i64 0,.int .i64 0,.int .i64 0,.int .i64 0,.slice none 0 0,.int .i64 0],.bool false]) (by simp[results,Tryz.results43,go_sem,t0,t1,t2,t3,t4,t5,t6,t7,t8]) rfl ⟨_,rfl,_,_,_,_,by rw[HA.o,HV.o];rfl,by rw[HV.o];exact mam_z, ?_⟩;repeat (refine bS ?_ (by simp<;>omega))
  exact HB1.o
 | true=>
  obtain⟨a1,a2,a3,a4⟩:=mav_len h1;obtain⟨m01,m11,m21,m31,m41,m51,m61,m71,m81⟩:=cells9 HX1.o;have k01:=HK1.c 0 (.int .i64 s) rfl;have k11:=HK1.c 1 (.int .i64 p) rfl;go_wp2_with fail
  refine(UnmapPage_any vb vf m.t s p _ (HM.o.t.now HB1.o) (HF.o.now HB1.o)).mono ?_;rintro e w2 ⟨_,rfl,v1,v2,rfl,hT2,hb2⟩;obtain⟨A1,c1,rfl,_⟩:=hT2.b;obtain⟨A2,c2,rfl,_⟩:=hT2.f;have hs1:=HS1.o;have HX2:=Hd (HX1.o.below hb2);have HK2:=Hd (HK1.o.below hb2);have HR2:=Hd (HR1.o.below hb2);have HB2:=Hd (bT HB1.o hb2);have HS2:=Hd (Nat.le_trans HS1.o hb2.size);clear hb2;clear m01 m11 m21 m31 m41 m51 m61 m71 m81;clear k01 k11;have ho5:=Own.new_ w2 26 #[.slice A1 (unmV m.t s p).bs.length c1,.slice A2 (unmV m.t s p).fs.length c2];have hb5:Below w2.heap.size w2 (w2.alloc (.cells #[.slice A1 (unmV m.t s p).bs.length c1,.slice A2 (unmV m.t s p).fs.length c2] 26)):=bA bR;generalize hW5:w2.alloc (.cells #[.slice A1 (unmV m.t s p).bs.length c1,.slice A2 (unmV m.t s p).fs.length c2] 26)=w5 at ho5 hb5;have HT5:=Hd ((hT2.now hb5).mono hs1);clear hT2;have HX5:=Hd (HX2.o.below hb5);have HK5:=Hd (HK2.o.below hb5);have HR5:=Hd (HR2.o.below hb5);have HB5:=Hd (bT HB2.o hb5);have HS5:=Hd (Nat.le_trans HS2.o hb5.size);clear hb5
  cases h3:fOK m.t s p with
  | false=>
   have HA:Hi (takO m s p=false):=by show _=_;unfold takO;rw[h3,Bool.and_false]
   have HV:=Hd (takO_false HA.o);clear ho5;obtain⟨r0x,r1x,r2x,r3x,r4x,r5x,r6x,r7x,r8x⟩:=cells9 HR5.o;obtain⟨z0x,z1x,z2x,z3x,z4x,z5x,z6x,z7x,z8x⟩:=free9 HR5.o;go_wp2;obtain⟨t0,t1,t2,t3,t4,t5,t6,t7,t8⟩:=cells9 (set9z HR5.o);refine bodyPost_ret (v:=.tuple #[.agg #[.slice none 0 0,.slice none 0 0,.slice none 0 0,.int .i64 0,.int .i64 0,.int .i64 0,.int .i64 0,.slice none 0 0,.int .i64 0],.bool false]) (by simp[results,Tryz.results43,go_sem,t0,t1,t2,t3,t4,t5,t6,t7,t8]) rfl ⟨_,rfl,_,_,_,_,by rw[HA.o,HV.o];rfl,by rw[HV.o];exact mam_z, ?_⟩;repeat (refine bS ?_ (by simp<;>omega))
   exact HB5.o
  | true=>
   have HA:Hi (takO m s p=true):=by show _=_;unfold takO;rw[h1,h3];rfl
   have HV:Hi (takV m s p=drpM m (unmV m.t s p) s p):=by show _=_;unfold takV;rw[HA.o];rfl
   obtain⟨m05,m15,m25,m35,m45,m55,m65,m75,m85⟩:=cells9 HX5.o;have k05:=HK5.c 0 (.int .i64 s) rfl;have k15:=HK5.c 1 (.int .i64 p) rfl;have u0:=ho5.cell_ 0 (v:=.slice A1 (unmV m.t s p).bs.length c1) rfl;have u1:=ho5.cell_ 1 (v:=.slice A2 (unmV m.t s p).fs.length c2) rfl;have hs5:=HS5.o;clear ho5;go_wp2_with fail
   refine(dropped_any vb vf vl vo _ _ m (unmV m.t s p) s p (w.heap.size+3) _ (HM.o.now HB5.o) hs5 HT5.o a1 a2 a3 a4).mono ?_;rintro e w3 ⟨_,rfl,q1,q2,q3,q4,rfl,hM3,hb3⟩;have HX3:=Hd (HX5.o.below hb3);have HK3:=Hd (HK5.o.below hb3);have HR3:=Hd (HR5.o.below hb3);have HB3:=Hd (bT HB5.o hb3);have HS3:=Hd (Nat.le_trans HS5.o hb3.size);clear hb3;clear m05 m15 m25 m35 m45 m55 m65 m75 m85;clear k05 k15 u0 u1;obtain⟨r0x,r1x,r2x,r3x,r4x,r5x,r6x,r7x,r8x⟩:=cells9 HR3.o;obtain⟨z0x,z1x,z2x,z3x,z4x,z5x,z6x,z7x,z8x⟩:=free9 HR3.o;have HM3:=Hd hM3;obtain⟨B1,d1,rfl,_⟩:=hM3.t.b;obtain⟨B2,d2,rfl,_⟩:=hM3.t.f;obtain⟨B3,d3,rfl,_⟩:=hM3.l;obtain⟨B4,d4,rfl,_⟩:=hM3.o;clear hM3;have hl3:=HR3.o.lt;go_wp2;have o3:=HR3.o.set9 (.slice B1 (drpM m (unmV m.t s p) s p).t.bs.length d1) (.slice B2 (drpM m (unmV m.t s p) s p).t.fs.length d2) (.slice B3 (drpM m (unmV m.t s p) s p).c.ls.length d3) (.int .i64 (drpM m (unmV m.t s p) s p).c.hand) (.int .i64 (drpM m (unmV m.t s p) s p).g.count) (.int .i64 (drpM m (unmV m.t s p) s p).g.next) (.int .i64 (drpM m (unmV m.t s p) s p).g.round) (.slice B4 (drpM m (unmV m.t s p) s p).g.os.length d4) (.int .i64 (drpM m (unmV m.t s p) s p).sp);obtain⟨p0t,p1t,p2t,p3t,p4t,p5t,p6t,p7t,p8t⟩:=cells9 o3;refine bodyPost_ret (v:=.tuple #[.agg #[.slice B1 (drpM m (unmV m.t s p) s p).t.bs.length d1,.slice B2 (drpM m (unmV m.t s p) s p).t.fs.length d2,.slice B3 (drpM m (unmV m.t s p) s p).c.ls.length d3,.int .i64 (drpM m (unmV m.t s p) s p).c.hand,.int .i64 (drpM m (unmV m.t s p) s p).g.count,.int .i64 (drpM m (unmV m.t s p) s p).g.next,.int .i64 (drpM m (unmV m.t s p) s p).g.round,.slice B4 (drpM m (unmV m.t s p) s p).g.os.length d4,.int .i64 (drpM m (unmV m.t s p) s p).sp],.bool true]) (by simp[results,Tryz.results43,go_sem,p0t,p1t,p2t,p3t,p4t,p5t,p6t,p7t,p8t]) rfl ⟨_,rfl,_,_,_,_,by rw[HA.o,HV.o], ?_, ?_⟩
   ·rw[HV.o];exact(HM3.o.far9 HR3.o _ _ _ _ _ _ _ _ _).mono (by omega)
   ·repeat (refine bS ?_ (by simp<;>omega))
    exact HB3.o
end Go.Proofs.YtfbnokjdkhcgoaaGreatDoor
