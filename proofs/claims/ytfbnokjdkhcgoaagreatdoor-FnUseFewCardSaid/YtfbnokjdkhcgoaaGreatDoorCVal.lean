/- A part of the proofs of this seat. -/
import Derived.Deep.LoopGhost
import Derived.Test.YtfbnokjdkhcgoaaGreatDoorCKeep
import Derived.Test.YtfbnokjdkhcgoaaGreatDoorCDrpS
set_option linter.unusedVariables false
set_option linter.unusedSimpArgs false
set_option maxRecDepth 1000000
set_option maxHeartbeats 16000000
namespace Go.Proofs.YtfbnokjdkhcgoaaGreatDoor
open Go.RowKit
structure CV(c:Ca):Prop where
 sz:1≤c.ls.length∧c.ls.length≤8
 hand:inR c.hand c.ls.length=true
 ok:∀(i:Nat) (x:Ln),c.ls[i]?=some x→lnok x=true
 cl:∀(i j:Nat) (x y:Ln),i≠j→c.ls[i]?=some x→c.ls[j]?=some y→clash x y=false
 loose:∃(i:Nat) (x:Ln),c.ls[i]?=some x∧x.w=false
theorem clash_symm(x y:Ln):clash x y=clash y x:=by
 unfold clash;rw[Bool.eq_iff_iff];simp only[Bool.and_eq_true,Bool.or_eq_true,decide_eq_true_eq];constructor
 ·rintro⟨⟨⟨a,b⟩,c⟩,d⟩;refine⟨⟨⟨b,a⟩,c.symm⟩, ?_⟩;rcases d with(d | d) | d
  ·exact .inl (.inl d.symm)
  ·exact .inr d
  ·exact .inl (.inr d)
 ·rintro⟨⟨⟨a,b⟩,c⟩,d⟩;refine⟨⟨⟨b,a⟩,c.symm⟩, ?_⟩;rcases d with(d | d) | d
  ·exact .inl (.inl d.symm)
  ·exact .inr d
  ·exact .inl (.inr d)
theorem lok_of{ls:List Ln}(h1:∀(i:Nat) (x:Ln),ls[i]?=some x→lnok x=true)(h2:∀(i j:Nat) (x y:Ln),i≠j→ls[i]?=some x→ls[j]?=some y→clash x y=false):∀k,k≤ls.length→lok ls k=true
  | 0,_=>rfl
  | k+1,hk=>by
    obtain⟨x,e⟩:∃x,ls[k]?=some x:=⟨_,List.getElem?_eq_getElem (by omega)⟩
    exact lok_step (lok_of h1 h2 k (by omega)) e (h1 k x e) (fun r y hr er=>h2 k r x y (by omega) e er)
theorem cav_CV{c:Ca}:cav c=true↔CV c:=by
 constructor
 ·intro h;obtain⟨a,b,d,e,f⟩:=cav_parts h;refine⟨⟨a,b⟩,d,fun i x hi=> ?_,fun i j x y hij hi hj=> ?_, ?_⟩
  ·obtain⟨x',e1,e2,_⟩:=lok_at e (List.getElem?_eq_some_iff.1 hi).1;rw[hi]at e1;injection e1 with e1;rw[e1];exact e2
  ·rcases Nat.lt_or_gt_of_ne hij with hlt | hlt
   ·obtain⟨y',e1,_,e3⟩:=lok_at e (List.getElem?_eq_some_iff.1 hj).1;rw[hj]at e1;injection e1 with e1;subst e1;rw[clash_symm];exact e3 i x hlt hi
   ·obtain⟨x',e1,_,e3⟩:=lok_at e (List.getElem?_eq_some_iff.1 hi).1;rw[hi]at e1;injection e1 with e1;subst e1;exact e3 j y hlt hj
  ·rw[List.any_eq_true]at f;obtain⟨x,hx,hw⟩:=f;obtain⟨i,hi,e1⟩:=List.getElem_of_mem hx;exact⟨i,x,by rw[List.getElem?_eq_getElem hi,e1],by simpa using hw⟩
 ·intro h;rw[cav_end h.sz.1 h.sz.2 h.hand (lok_of h.ok h.cl _ (Nat.le_refl _)),List.any_eq_true];obtain⟨i,x,e,hw⟩:=h.loose;exact⟨x,List.mem_of_getElem? e,by rw[hw];rfl⟩
theorem lnok_z:lnok lnz=true:=by decide
theorem clash_z(y:Ln):clash lnz y=false:=by unfold clash;rfl
theorem CV.drop{c:Ca}(h:CV c)(k:Nat):CV ⟨c.ls.set k lnz,c.hand⟩:=by
 refine⟨by simpa using h.sz,by simpa using h.hand,fun i x hi=> ?_,fun i j x y hij hi hj=> ?_, ?_⟩
 ·simp only at hi;rw[List.getElem?_set]at hi;split at hi
  ·split at hi
   ·injection hi with hi;rw[←hi];exact lnok_z
   ·cases hi
  ·exact h.ok i x hi
 ·simp only at hi hj;rw[List.getElem?_set]at hi hj;split at hi
  ·split at hi
   ·injection hi with hi;rw[←hi];exact clash_z y
   ·cases hi
  ·split at hj
   ·split at hj
    ·injection hj with hj;rw[←hj,clash_symm];exact clash_z x
    ·cases hj
   ·exact h.cl i j x y hij hi hj
 ·obtain⟨i,x,e,hw⟩:=h.loose;by_cases hk:k=i
  ·subst hk;exact⟨k,lnz,by simp only;rw[List.getElem?_set,if_pos rfl,if_pos (List.getElem?_eq_some_iff.1 e).1],rfl⟩
  ·exact⟨i,x,by simp only;rw[List.getElem?_set,if_neg hk];exact e,hw⟩
theorem fits_iff{t p:Int}{x:Ln}:fits t p x=true↔x.v=true∧x.p=p∧(x.t=t∨x.t=-1):=by
 unfold fits;simp only[Bool.and_eq_true,Bool.or_eq_true,decide_eq_true_eq,and_assoc]
theorem plcI_none{ls:List Ln}{t p:Int}(h:¬0≤plcI ls t p){i:Nat}{x:Ln}(e:ls[i]?=some x):fits t p x=false:=by
 unfold plcI plc at h
 cases e2:ls.findIdx? (fits t p)with
 | some j=>rw[e2]at h;simp at h
 | none=>
  rw[List.findIdx?_eq_none_iff]at e2;exact e2 x (List.mem_of_getElem? e)
theorem CV.once{c:Ca}(h:CV c){t p:Int}{i j:Nat}{x y:Ln}(hi:c.ls[i]?=some x)(hj:c.ls[j]?=some y)(hx:fits t p x=true)(hy:fits t p y=true):i=j:=by
 by_cases hij:i=j
 ·exact hij
 ·have h1:=h.cl i j x y hij hi hj;obtain⟨a1,a2,a3⟩:=fits_iff.1 hx;obtain⟨b1,b2,b3⟩:=fits_iff.1 hy;exfalso
  have:clash x y=true:=by
   unfold clash;simp only[Bool.and_eq_true,Bool.or_eq_true,decide_eq_true_eq];refine⟨⟨⟨a1,b1⟩,by rw[a2,b2]⟩, ?_⟩;rcases a3 with a3 | a3
   ·rcases b3 with b3 | b3
    ·exact .inl (.inl (by rw[a3,b3]))
    ·exact .inr b3
   ·exact .inl (.inr a3)
  rw[h1]at this;cases this
theorem lnM_some{m:Ma}{x:Ln}(hv:x.v=true)(h:lnM m x=true):∃(s:Int) (i:Nat),lnSp m x=some s∧fnd m.t.fs (keyI s x.p) x.p=some i∧(i:Int)=x.f∧(m.t.fs.getD i frz).r=x.r∧((128≤x.p)↔x.t=-1)∧(x.w=true→128≤x.p):=by
 rw[lnM_def,if_pos hv]at h;simp only[Bool.and_eq_true,Bool.or_eq_true,decide_eq_true_eq]at h;obtain⟨⟨h1,h2⟩,h3⟩:=h
 have hw:x.w=true→128≤x.p:=fun hw=>by
  rcases h2 with h2 | h2
  ·rw[hw]at h2;cases h2
  ·exact h2
 cases hs:lnSp m x with
 | none=>rw[hs]at h3;cases h3
 | some s=>
  rw[hs]at h3;simp only at h3
  cases e:fnd m.t.fs (keyI s x.p) x.p with
  | none=>rw[e]at h3;cases h3
  | some i=>
   rw[e]at h3;simp only[Bool.and_eq_true,decide_eq_true_eq]at h3;exact⟨s,i,rfl,e,h3.1,h3.2,h1,hw⟩
theorem lnM_mk{m:Ma}{x:Ln}{s:Int}{i:Nat}(hs:lnSp m x=some s)(hf:fnd m.t.fs (keyI s x.p) x.p=some i)(hi:(i:Int)=x.f)(hr:(m.t.fs.getD i frz).r=x.r)(h1:(128≤x.p)↔x.t=-1)(hw:x.w=true→128≤x.p):lnM m x=true:=by
 rw[lnM_def];split
 ·rw[hs];simp only;rw[hf];simp only[Bool.and_eq_true,Bool.or_eq_true,decide_eq_true_eq];refine⟨⟨h1, ?_⟩,hi,hr⟩
  cases hx:x.w with
  | false=>exact .inl rfl
  | true=>exact .inr (hw hx)
 ·rfl
theorem lnM_keep{m m':Ma}{x:Ln}(hg:m'.g=m.g)(hf:∀(s:Int) (i:Nat),lnSp m x=some s→fnd m.t.fs (keyI s x.p) x.p=some i→fnd m'.t.fs (keyI s x.p) x.p=some i∧(m'.t.fs.getD i frz).r=(m.t.fs.getD i frz).r)(h:lnM m x=true):lnM m' x=true:=by
 cases hv:x.v with
 | false=>exact lnM_inv hv
 | true=>
  obtain⟨s,i,a1,a2,a3,a4,a5,a6⟩:=lnM_some hv h;obtain⟨b1,b2⟩:=hf s i a1 a2;exact lnM_mk (by unfold lnSp at a1⊢;rw[hg];exact a1) b1 a3 (by rw[b2];exact a4) a5 a6
structure MV(m:Ma):Prop where
 t:TV m.t
 c:CV m.c
 g:tgv m.g=true
 o:0≤ownI m.g.os m.sp
 f:∀(i:Nat) (f:Fr),m.t.fs[i]?=some f→frM f=true
 l:∀(i:Nat) (x:Ln),m.c.ls[i]?=some x→lnM m x=true
theorem mav_MV{m:Ma}:mav m=true↔MV m:=by
 constructor
 ·intro h;obtain⟨a,b,c,d,e,f⟩:=mav_parts h;exact⟨tv_TV.1 a,cav_CV.1 b,c,d,fun i x hi=>e x (List.mem_of_getElem? hi),fun i x hi=>f x (List.mem_of_getElem? hi)⟩
 ·intro h;refine mav_end (tv_TV.2 h.t) (cav_CV.2 h.c) h.g h.o (fun f hf=> ?_) (fun x hx=> ?_)
  ·obtain⟨i,hi,e⟩:=List.getElem_of_mem hf;exact h.f i f (by rw[List.getElem?_eq_getElem hi,e])
  ·obtain⟨i,hi,e⟩:=List.getElem_of_mem hx;exact h.l i x (by rw[List.getElem?_eq_getElem hi,e])
theorem TV.fnd{t:Tab}(h:TV t){s p:Int}{i:Nat}{f:Fr}(e:t.fs[i]?=some f)(hu:f.used=true)(hk:(f.s,f.p)=(s,p)):fnd t.fs s p=some i:=fnd_of (tv_parts (tv_TV.2 h)).2.1 e hu hk
theorem getD_at{fs:List Fr}{i:Nat}{f:Fr}(e:fs[i]?=some f):fs.getD i frz=f:=by rw[List.getD_eq_getElem?_getD,e];rfl
theorem mav_put{m:Ma}{s p fr r:Int}(h:putOK m s p fr r=true):mav (putV m s p fr r)=true:=by
 have hV:putV m s p fr r={m with t:=mapV m.t s p fr r}:=by unfold putV;rw[if_pos h]
 unfold putOK at h;simp only[Bool.and_eq_true,decide_eq_true_eq]at h;obtain⟨⟨hm,hk⟩,hok⟩:=h;have hT:mapV m.t s p fr r=mapT m.t s p fr r:=by unfold mapV;rw[if_pos hok]
 unfold mapOK at hok;simp only[Bool.and_eq_true]at hok;obtain⟨⟨⟨⟨⟨htv,hkv⟩,hnf⟩,hin⟩,hu⟩,hr⟩:=hok;have M:=mav_MV.1 hm
 have hnf':fnd m.t.fs s p=none:=by
  cases e:fnd m.t.fs s p with
  | none=>rfl
  | some i=>unfold fndI at hnf;rw[e]at hnf;simp at hnf
 obtain⟨hi0,hi1⟩:=inR_iff.1 hin;obtain⟨k,rfl⟩:=Int.eq_ofNat_of_zero_le hi0;rw[Int.toNat_natCast]at hu
 cases ef:m.t.fs[k]? with
 | none=>rw[ef]at hu;cases hu
 | some f0=>
 rw[ef]at hu;have hu0:f0.used=false:=by simpa using hu
 have hTV:=M.t.map hkv hnf' ef hu0 hr;have hmt:mapT m.t s p (k:Int) r=⟨m.t.bs.set (bkt m.t s p) k,m.t.fs.set k ⟨true,s,p,r,m.t.bs.getD (bkt m.t s p) 0⟩⟩:=by unfold mapT;rw[Int.toNat_natCast]
 rw[hV,hT,hmt];have hkl:=(List.getElem?_eq_some_iff.1 ef).1;refine mav_MV.2 ⟨hTV,M.c,M.g,M.o,fun i f hi=> ?_,fun i x hi=> ?_⟩
 ·simp only at hi;rw[List.getElem?_set]at hi;split at hi
  ·injection hi with hi;rw[←hi];unfold frM;unfold keyI at hk;by_cases h128:128≤p
   ·rw[if_pos h128]at hk;simp[←hk]
   ·simp[h128]
  ·exact M.f i f hi
 ·refine lnM_keep (m:=m) rfl (fun s' j hs' hj=> ?_) (M.l i x hi);obtain⟨f,e1,e2,e3⟩:=fnd_some hj;have hne:k≠j:=by rintro rfl;rw[ef]at e1;injection e1 with e1;rw[e1,e2]at hu0;cases hu0
  have e4:(m.t.fs.set k ⟨true,s,p,r,m.t.bs.getD (bkt m.t s p) 0⟩)[j]?=some f:=by rw[List.getElem?_set,if_neg hne];exact e1
  exact⟨hTV.fnd e4 e2 e3,by rw[getD_at e4,getD_at e1]⟩
theorem MV.apart{m:Ma}(M:MV m){s p:Int}{i:Nat}{x:Ln}(hi:(drpC m s p).ls[i]?=some x)(hv:x.v=true):
  m.c.ls[i]?=some x∧∀s',lnSp m x=some s'→¬(keyI s' x.p,x.p)=(s,p):=by
 have key:∀(y:Ln),m.c.ls[i]?=some y→y.v=true→∀s',lnSp m y=some s'→(keyI s' y.p,y.p)=(s,p)→tagO m s p=true∧fits (tagT m s p) p y=true:=by
  intro y hy hyv s' hs' hkk;obtain⟨_,_,a1,a2,a3,a4,a5,a6⟩:=lnM_some hyv (M.l i y hy);injection hkk with hk1 hk2;by_cases h128:128≤p
  ·have ht:y.t=-1:=a5.1 (by rw[hk2];exact h128);exact⟨if_pos h128,fits_iff.2 ⟨hyv,hk2,.inr ht⟩⟩
  ·unfold lnSp at hs';rw[if_neg (by rw[hk2];exact h128)]at hs'
   cases es:spc m.g.os y.t with
   | none=>rw[es]at hs';cases hs'
   | some j=>
    rw[es]at hs';injection hs' with hs';unfold spc at es;obtain⟨hj,hj1,_⟩:=List.findIdx?_eq_some_iff_getElem.1 es;have ej:m.g.os[j]?=some m.g.os[j]:=List.getElem?_eq_getElem hj;rw[List.getD_eq_getElem?_getD,ej]at hs';simp only[Option.getD_some]at hs';have hj1:m.g.os[j].2=y.t:=by simpa using hj1
    have hks:keyI s' y.p=s':=by unfold keyI;rw[if_neg (by rw[hk2];exact h128)]
    rw[hks]at hk1;have hos:m.g.os[j].1=s:=by rw[hs',hk1]
    obtain⟨k,o,hk3,ek,hk4⟩:∃(k:Nat) (o:Int×Int),ownI m.g.os s=(k:Int)∧m.g.os[k]?=some o∧o.1=s:=by
     refine ownI_lt ?_;unfold ownI
     cases eo:own m.g.os s with
     | some _=>simp
     | none=>
      unfold own at eo;rw[List.findIdx?_eq_none_iff]at eo;have:=eo _ (List.mem_of_getElem? ej);rw[hos]at this;simp at this
    have hkj:k=j:=by
     obtain⟨_,ht⟩:=tgv_parts M.g;rcases Nat.lt_trichotomy k j with hlt | heq | hlt
     ·obtain⟨q,eq,_,_,_,_,hq⟩:=tok_at ht hj;rw[ej]at eq;injection eq with eq;exact absurd (by rw[←eq,hos,hk4]) (hq k o hlt ek)
     ·exact heq
     ·obtain⟨q,eq,_,_,_,_,hq⟩:=tok_at ht (List.getElem?_eq_some_iff.1 ek).1;rw[ek]at eq;injection eq with eq;exact absurd (by rw[←eq,hos,hk4]) (hq j _ hlt ej)
    subst hkj;obtain⟨b1,b2⟩:=tgO_yes M.g hk3 ek;rw[ej]at ek;injection ek with ek;refine⟨by unfold tagO;rw[if_neg h128];exact b1,fits_iff.2 ⟨hyv,hk2,.inl ?_⟩⟩;unfold tagT;rw[if_neg h128,b2,←ek,hj1]
 unfold drpC at hi;split at hi
 ·rename_i hh;simp only at hi;rw[List.getElem?_set]at hi;split at hi
  ·split at hi
   ·injection hi with hi;rw[←hi]at hv;cases hv
   ·cases hi
  ·rename_i hne;refine⟨hi,fun s' hs' hkk=> ?_⟩;obtain⟨_,hf⟩:=key x hi hv s' hs' hkk;obtain⟨k,y,e1,e2,e3⟩:=plcI_lt hh.2;have:=M.c.once hi e2 hf e3;rw[e1,Int.toNat_natCast]at hne;exact hne this.symm
 ·rename_i hh;refine⟨hi,fun s' hs' hkk=> ?_⟩;obtain⟨h1,hf⟩:=key x hi hv s' hs' hkk;by_cases hp:0≤plcI m.c.ls (tagT m s p) p
  ·exact hh ⟨h1,hp⟩
  ·rw[plcI_none hp hi]at hf;cases hf
theorem MV.drp{m:Ma}(M:MV m)(s p:Int):CV (drpC m s p):=by
 unfold drpC;split
 ·exact M.c.drop _
 ·exact M.c
theorem fOK_at{t:Tab}{s p:Int}(h:fOK t s p=true):∃(k:Nat) (f:Fr),fndI t.fs s p=(k:Int)∧fnd t.fs s p=some k∧t.fs[k]?=some f∧f.used=true∧(f.s,f.p)=(s,p)∧kval (s,p)=true:=by
 unfold fOK at h;simp only[Bool.and_eq_true,decide_eq_true_eq]at h;obtain⟨⟨_,hk⟩,h3⟩:=h;unfold fndI at h3⊢
 cases e:fnd t.fs s p with
 | none=>rw[e]at h3;simp at h3
 | some i=>
  obtain⟨f,a,b,c⟩:=fnd_some e;exact⟨i,f,rfl,rfl,a,b,c,hk⟩
theorem mav_tak{m:Ma}{s p:Int}(h:takO m s p=true):mav (takV m s p)=true:=by
 have hV:takV m s p=drpM m (unmV m.t s p) s p:=by unfold takV;rw[if_pos h]
 unfold takO at h;rw[Bool.and_eq_true]at h;obtain⟨hm,hf⟩:=h;have hT:unmV m.t s p=unmT m.t s p:=by unfold unmV;rw[if_pos hf]
 have M:=mav_MV.1 hm;obtain⟨k,f,hk,hk',ef,hu,hkk,hkv⟩:=fOK_at hf;injection hkk with hk1 hk2;have hTV:=M.t.unmap ef hu (by rw[hk1,hk2];exact hkv)
 have hut:unmT m.t s p=(if m.t.bs.getD (bkt m.t f.s f.p) 0=(k:Int)then⟨m.t.bs.set (bkt m.t f.s f.p) f.n,m.t.fs.set k frz⟩else⟨m.t.bs,(m.t.fs.map (relink k f.n)).set k frz⟩):=by
  unfold unmT;simp only[hk,Int.toNat_natCast,getD_at ef,hk1,hk2]
 rw[←hut]at hTV;have hkl:=(List.getElem?_eq_some_iff.1 ef).1
 /- what the table's frames are now -/
 have hfr:∀j,(unmT m.t s p).fs[j]?=if k=j then some frz else(m.t.fs[j]?).map (fun g=>if(m.t.bs.getD (bkt m.t f.s f.p) 0=(k:Int))then g else relink k f.n g):=by
  intro j;rw[hut];split
  ·simp only;rw[List.getElem?_set];split
   ·rfl
   ·simp
  ·simp only;rw[List.getElem?_set];split
   ·rw[if_pos (by simpa using hkl)]
   ·rw[List.getElem?_map]
 have hre:∀g:Fr,(relink k f.n g).used=g.used∧(relink k f.n g).s=g.s∧(relink k f.n g).p=g.p∧(relink k f.n g).r=g.r:=by
  intro g;unfold relink;split<;>exact⟨rfl,rfl,rfl,rfl⟩
 have hsame:∀(j:Nat) (g:Fr),k≠j→m.t.fs[j]?=some g→∃g',(unmT m.t s p).fs[j]?=some g'∧g'.used=g.used∧g'.s=g.s∧g'.p=g.p∧g'.r=g.r:=by
  intro j g hj eg;refine⟨_,by rw[hfr,if_neg hj,eg];rfl, ?_⟩;split
  ·exact⟨rfl,rfl,rfl,rfl⟩
  ·exact hre g
 rw[hV,hT];refine mav_MV.2 ⟨hTV,M.drp s p,M.g,M.o,fun i g hi=> ?_,fun i x hi=> ?_⟩
 ·simp only[drpM]at hi;rw[hfr]at hi;split at hi
  ·injection hi with hi;rw[←hi];rfl
  ·cases e:m.t.fs[i]? with
   | none=>rw[e]at hi;cases hi
   | some g0=>
    rw[e]at hi;injection hi with hi;have h0:=M.f i g0 e;rw[←hi];split
    ·exact h0
    ·obtain⟨r1,r2,r3,_⟩:=hre g0;unfold frM at h0⊢;rw[r1,r2,r3];exact h0
 ·cases hv:x.v with
  | false=>exact lnM_inv hv
  | true=>
   obtain⟨e0,hne⟩:=M.apart hi hv;refine lnM_keep (m:=m) rfl (fun s' j hs' hj=> ?_) (M.l i x e0);obtain⟨g,e1,e2,e3⟩:=fnd_some hj
   have hkj:k≠j:=by
    rintro rfl;rw[ef]at e1;injection e1 with e1;subst e1;exact hne s' hs' (by rw[←e3,hk1,hk2])
   obtain⟨g',b1,b2,b3,b4,b5⟩:=hsame j g hkj e1;exact⟨hTV.fnd b1 (by rw[b2,e2]) (by rw[b3,b4];exact e3),by simp only[drpM];rw[getD_at b1,getD_at e1,b5]⟩
theorem vf_step{ls:List Ln}{k a:Nat}{x:Ln}(e:ls[a]?=some x)(h:x.w=true):vicFrom ls (k+1) a=vicFrom ls k ((a+1) % ls.length):=by
 rw[vicFrom,e];simp only[h,if_true]
theorem vf_stop{ls:List Ln}{k a:Nat}{x:Ln}(e:ls[a]?=some x)(h:x.w=false):vicFrom ls (k+1) a=a:=by
 rw[vicFrom,e];simp[h]
def VSt(c:Ca)(j a:Nat):Prop:=a=(c.hand.toNat+j) % c.ls.length∧j≤c.ls.length∧vicFrom c.ls c.ls.length c.hand.toNat=vicFrom c.ls (c.ls.length-j) a∧∀i,i<j→∃x:Ln,c.ls[(c.hand.toNat+i) % c.ls.length]?=some x∧x.w=true
theorem vst_zero{c:Ca}(h:CV c):VSt c 0 c.hand.toNat:=by
 obtain⟨h1,h2⟩:=inR_iff.1 h.hand;exact⟨by rw[Nat.add_zero,Nat.mod_eq_of_lt (by omega)],Nat.zero_le _,rfl,fun i hi=>absurd hi (by omega)⟩
theorem vst_lt{c:Ca}(h:CV c){j a:Nat}(hs:VSt c j a):j<c.ls.length:=by
 obtain⟨_,h2,_,h4⟩:=hs;rcases Nat.lt_or_ge j c.ls.length with hlt | hge
 ·exact hlt
 ·exfalso;obtain⟨i,x,e,hw⟩:=h.loose;have hi:=(List.getElem?_eq_some_iff.1 e).1;have hn:0<c.ls.length:=by omega
  let q:=(i+c.ls.length*(c.hand.toNat+1)-c.hand.toNat) % c.ls.length
  have hle:c.hand.toNat≤c.ls.length*(c.hand.toNat+1):=Nat.le_trans (Nat.le_succ _) (Nat.le_mul_of_pos_left _ hn);have hq:q<c.ls.length:=Nat.mod_lt _ hn
  have hqi:(c.hand.toNat+q) % c.ls.length=i:=by
   show(c.hand.toNat+(i+c.ls.length*(c.hand.toNat+1)-c.hand.toNat) % c.ls.length) % c.ls.length=i;rw[Nat.add_mod_mod,show c.hand.toNat+(i+c.ls.length*(c.hand.toNat+1)-c.hand.toNat)=i+c.ls.length*(c.hand.toNat+1)by omega,Nat.add_mul_mod_self_left,Nat.mod_eq_of_lt hi]
  obtain⟨y,e2,hy⟩:=h4 q (by omega);rw[hqi,e]at e2;injection e2 with e2;rw[←e2,hw]at hy;cases hy
theorem vst_in{c:Ca}(h:CV c){j a:Nat}(hs:VSt c j a):a<c.ls.length:=by
 rw[hs.1];exact Nat.mod_lt _ (by have:=h.sz;omega)
theorem vst_step{c:Ca}(h:CV c){j a:Nat}{x:Ln}(hs:VSt c j a)(e:c.ls[a]?=some x)(hw:x.w=true):VSt c (j+1) ((a+1) % c.ls.length):=by
 have hj:=vst_lt h hs;obtain⟨h1,h2,h3,h4⟩:=hs;refine⟨by rw[h1,Nat.mod_add_mod,Nat.add_assoc],hj, ?_,fun i hi=> ?_⟩
 ·rw[h3,show c.ls.length-j=(c.ls.length-(j+1))+1 by omega];exact vf_step e hw
 ·rcases Nat.lt_or_ge i j with hlt | hge
  ·exact h4 i hlt
  ·obtain rfl:i=j:=by omega
   exact⟨x,by rw[←h1];exact e,hw⟩
theorem vst_stop{c:Ca}(h:CV c){j a:Nat}{x:Ln}(hs:VSt c j a)(e:c.ls[a]?=some x)(hw:x.w=false):vicFrom c.ls c.ls.length c.hand.toNat=a:=by
 have hj:=vst_lt h hs;rw[hs.2.2.1,show c.ls.length-j=(c.ls.length-(j+1))+1 by omega];exact vf_stop e hw
theorem vic_free{c:Ca}{k:Nat}{x:Ln}(e:c.ls[k]?=some x)(h:∀(j:Nat) (y:Ln),j<k→c.ls[j]?=some y→y.v=true)(hx:x.v=false):vic c=k:=by
 have:c.ls.findIdx? (fun x=>!x.v)=some k:=by
  rw[List.findIdx?_eq_some_iff_getElem];obtain⟨hlt,he⟩:=List.getElem?_eq_some_iff.1 e;refine⟨hlt,by rw[he,hx];rfl,fun j hj=> ?_⟩;rw[h j c.ls[j] hj (List.getElem?_eq_getElem (by omega))];decide
 unfold vic;rw[this]
theorem vic_full{c:Ca}(h:∀(j:Nat) (y:Ln),j<c.ls.length→c.ls[j]?=some y→y.v=true):vic c=vicFrom c.ls c.ls.length c.hand.toNat:=by
 have:c.ls.findIdx? (fun x=>!x.v)=none:=by
  rw[List.findIdx?_eq_none_iff];intro x hx;obtain⟨j,hj,e⟩:=List.getElem_of_mem hx;rw[h j x hj (by rw[List.getElem?_eq_getElem hj,e])];rfl
 unfold vic;rw[this]
theorem vf_in{ls:List Ln}(hn:0<ls.length):∀{k a:Nat},a<ls.length→vicFrom ls k a<ls.length
  | 0,a,h=>h
  | k +1,a,h=>by
    cases e:ls[a]? with
    | none=>rw[vicFrom,e];exact h
    | some x=>
      cases hw:x.w with
      | true=>rw[vf_step e hw];exact vf_in hn (Nat.mod_lt _ hn)
      | false=>rw[vf_stop e hw];exact h
theorem vic_in{c:Ca}(h:CV c):vic c<c.ls.length:=by
 unfold vic
 cases e:c.ls.findIdx? (fun x=>!x.v)with
 | some i=>exact(List.findIdx?_eq_some_iff_getElem.1 e).1
 | none=>
  obtain⟨h1,h2⟩:=inR_iff.1 h.hand;exact vf_in (by have:=h.sz;omega) (by omega)
theorem CV.fill{c:Ca}(h:CV c){x:Ln}(hx:lnok x=true)(hw:x.w=false)(hc:∀(i:Nat) (y:Ln),c.ls[i]?=some y→clash x y=false):CV (filC c x):=by
 have hv:=vic_in h;have hn:=h.sz;refine⟨by simpa[filC]using hn, ?_,fun i y hi=> ?_,fun i j y z hij hi hj=> ?_,⟨vic c,x,by simp only[filC];rw[List.getElem?_set,if_pos rfl,if_pos hv],hw⟩⟩
 ·simp only[filC,List.length_set]
  cases e:c.ls[vic c]? with
  | none=>exact h.hand
  | some y=>
   simp only;split
   ·exact inR_iff.2 ⟨Int.emod_nonneg _ (by omega),Int.emod_lt_of_pos _ (by omega)⟩
   ·exact h.hand
 ·simp only[filC]at hi;rw[List.getElem?_set]at hi;split at hi
  ·injection hi with hi;rw[←hi];exact hx
  ·exact h.ok i y hi
 ·simp only[filC]at hi hj;rw[List.getElem?_set]at hi hj;split at hi
  ·rename_i h1;injection hi with hi;rw[if_neg (by omega)]at hj;rw[←hi];exact hc j z hj
  ·split at hj
   ·injection hj with hj;rw[←hj,clash_symm];exact hc i y hi
   ·exact h.cl i j y z hij hi hj
def alw(r n:Int):Bool:=inR r 8 && inR n 8 && decide (r.toNat &&& n.toNat=n.toNat)
theorem bits_and{r n:Int}(h1:inR r 8=true)(h2:inR n 8=true):bits BinOp.and IntKind.i64 r n=((r.toNat &&& n.toNat:Nat):Int):=by
 obtain⟨a0,a1⟩:=inR_iff.1 h1;obtain⟨b0,b1⟩:=inR_iff.1 h2;have hr:r=0∨r=1∨r=2∨r=3∨r=4∨r=5∨r=6∨r=7:=by omega
 have hn:n=0∨n=1∨n=2∨n=3∨n=4∨n=5∨n=6∨n=7:=by omega
 rcases hr with rfl | rfl | rfl | rfl | rfl | rfl | rfl | rfl<;>rcases hn with rfl | rfl | rfl | rfl | rfl | rfl | rfl | rfl<;>rfl
theorem bits_andNot{r n:Int}(h1:inR r 8=true)(h2:inR n 8=true):(bits BinOp.andNot IntKind.i64 n r == 0)=decide (r.toNat &&& n.toNat=n.toNat):=by
 obtain⟨a0,a1⟩:=inR_iff.1 h1;obtain⟨b0,b1⟩:=inR_iff.1 h2;have hr:r=0∨r=1∨r=2∨r=3∨r=4∨r=5∨r=6∨r=7:=by omega
 have hn:n=0∨n=1∨n=2∨n=3∨n=4∨n=5∨n=6∨n=7:=by omega
 rcases hr with rfl | rfl | rfl | rfl | rfl | rfl | rfl | rfl<;>rcases hn with rfl | rfl | rfl | rfl | rfl | rfl | rfl | rfl<;>rfl
theorem sAllows_any(r n:Int)(w:World):Calls Tryz.prog 101 #[.int .i64 r,.int .i64 n] w fun e w'=>e=.returned (.bool (alw r n))∧w=w':=by
 cases h1:inR r 8 with
 | false=>
  have H:Hi (alw r n=false):=by show _=_;unfold alw;rw[h1];rfl
  go_enter Tryz.func101,Tryz.ntmps101
  go_wp2_with fail
  refine(sRightsValid_any _ _).mono ?_;rintro e w' ⟨rfl,rfl⟩;rw[h1];go_wp2;go_ret;exact⟨by rw[H.o];rfl,rfl⟩
 | true=>
  cases h2:inR n 8 with
  | false=>
   have H:Hi (alw r n=false):=by show _=_;unfold alw;rw[h2,Bool.and_false];rfl
   go_enter Tryz.func101,Tryz.ntmps101
   go_wp2_with fail
   refine(sRightsValid_any _ _).mono ?_;rintro e w' ⟨rfl,rfl⟩;rw[h1];go_wp2_with fail
   refine(sRightsValid_any _ _).mono ?_;rintro e w' ⟨rfl,rfl⟩;rw[h2];go_wp2;go_ret;exact⟨by rw[H.o];rfl,rfl⟩
  | true=>
   have H:Hi (alw r n=decide (r.toNat &&& n.toNat=n.toNat)):=by show _=_;unfold alw;rw[h1,h2];rfl
   go_enter Tryz.func101,Tryz.ntmps101
   go_wp2_with fail
   refine(sRightsValid_any _ _).mono ?_;rintro e w' ⟨rfl,rfl⟩;rw[h1];go_wp2_with fail
   refine(sRightsValid_any _ _).mono ?_;rintro e w' ⟨rfl,rfl⟩;rw[h2];have HBT:=Hd (bits_and h1 h2);go_wp2;go_ret;refine⟨?_,rfl⟩;rw[H.o];show Ending.returned (.bool (bits BinOp.and IntKind.i64 r n == n))=_;rw[HBT.o]
   congr 2
   obtain⟨a0,a1⟩:=inR_iff.1 h2;rw[Bool.eq_iff_iff,beq_iff_eq,decide_eq_true_eq];constructor
   ·intro h;omega
   ·intro h;omega
theorem l4Victim_any(vl:Value)(c:Ca)(w:World)(hT:SlR lnE w vl c.ls)(hv:cav c=true):
  Calls Tryz.prog 214 #[.agg #[vl,.int .i64 c.hand]] w fun r w'=>r=.returned (.int .i64 (vic c))∧Below w.heap.size w w':=by
 have hcv:=cav_CV.1 hv;obtain⟨A,cc,rfl,hbc,hbm,hL⟩:=hT;have hfm2:c.ls.length≤8:=hcv.sz.2;have HL:=Hd hL;have hbx:=Own.new_ w 29 #[.slice A c.ls.length cc,.int .i64 c.hand];have hbz:Below w.heap.size w (w.alloc (.cells #[.slice A c.ls.length cc,.int .i64 c.hand] 29)):=bA bR;generalize hW:w.alloc (.cells #[.slice A c.ls.length cc,.int .i64 c.hand] 29)=W0 at hbx hbz;have q0:=hbx.cell_ 0 (v:=.slice A c.ls.length cc) rfl;have q1:=hbx.cell_ 1 (v:=.int .i64 c.hand) rfl;have HBX:=Hd hbx;clear hL hbx;clear q0 q1
 go_enter Tryz.func214,Tryz.ntmps214
 go_wp2;go_loopw [3] (fun u wr=>∃k:Nat,k≤c.ls.length∧u=.int .i64 k∧Hi (∀(j:Nat) (q:Ln),j<k→c.ls[j]?=some q→q.v=true)∧Own wr w.heap.size 29 #[.slice A c.ls.length cc,.int .i64 c.hand]∧Below w.heap.size w wr) (fun u _=>c.ls.length-(intOf u).toNat)
 case atStart=>exact⟨0,by omega,rfl,(fun j q h=>absurd h (by omega)),HBX.o,hbz⟩
 case round=>
  obtain⟨k,hk,rfl,hacc,hbox,hbi⟩:=hrel;have q0:=hbox.cell_ 0 (v:=.slice A c.ls.length cc) rfl;have q1:=hbox.cell_ 1 (v:=.int .i64 c.hand) rfl;by_cases hlt:k<c.ls.length
  ·obtain⟨o,eo⟩:∃o,c.ls[k]?=some o:=⟨_,List.getElem?_eq_getElem hlt⟩
   obtain⟨b,ob,rfl,hbb,d0,d1,d2,d3,d4,d5⟩:=(HL.o.below hbi).ln eo;have HBOX:=Hd hbox;have EO:=Hd eo;clear hbox eo d1 d2 d3 d4 d5
   cases ht:o.v with
   | false=>
    rw[ht]at d0;have H:=Hd (vic_free EO.o hacc.o ht);go_wp2;go_ret;exact⟨by rw[H.o];rfl,hbi⟩
   | true=>
    rw[ht]at d0
    have HACC:Hi (∀(j:Nat) (q:Ln),j<k+1→c.ls[j]?=some q→q.v=true):=by
     intro j q hj e;rcases Nat.lt_or_ge j k with h | h
     ·exact hacc.o j q h e
     ·obtain rfl:j=k:=by omega
      have:=EO.o;rw[e]at this;injection this with this;rw[this];exact ht
    go_wp2;go_roundw;case rel=>exact⟨k+1,by omega,by go_num,HACC,HBOX.o,hbi⟩
    case measure=>simp[intOf];omega
  ·obtain rfl:k=c.ls.length:=by omega
   have HVI:=Hd (vic_full hacc.o);have HBOX:=Hd hbox;have HBI:=Hd hbi;have HCV:=Hd hcv;clear hacc;have hwr:=hbi
   obtain⟨w6,rfl⟩:∃w6,w6=wr:=⟨_,rfl⟩
   obtain⟨hh0,hh1⟩:=inR_iff.1 hcv.hand;have hhn:(c.hand.toNat:Int)=c.hand:=Int.toNat_of_nonneg hh0;go_wp2;clear q0 q1 hbox hbi
   go_loopg [4] (c.ls.length+1) (fun g u wi=>∃(j a:Nat),g=c.ls.length+1-j∧u=.int .i64 a∧Hi (VSt c j a)∧Own wi w.heap.size 29 #[.slice A c.ls.length cc,.int .i64 c.hand]∧Below w.heap.size w wi)
   case atStart=>exact⟨0,c.hand.toNat,by simp,by rw[hhn],vst_zero HCV.o,HBOX.o,HBI.o⟩
   case round=>
    obtain⟨j,a,rfl,rfl,hst,hbox,hbi⟩:=hrel;have hj:=vst_lt HCV.o hst.o;have ha:=vst_in HCV.o hst.o
    obtain⟨x,ex⟩:∃x,c.ls[a]?=some x:=⟨_,List.getElem?_eq_getElem ha⟩
    obtain⟨b,ob,rfl,hbb,d0,d1,d2,d3,d4,d5⟩:=(HL.o.below hbi).ln ex;have q0:=hbox.cell_ 0 (v:=.slice (some ⟨b,ob,none⟩) c.ls.length cc) rfl;have HBOXI:=Hd hbox;have EX:=Hd ex;clear hbox d0 d1 d2 d3 d4 ex hwr
    cases hw:x.w with
    | false=>
     rw[hw]at d5;have H:Hi (vic c=a):=by show _=_;rw[HVI.o];exact vst_stop HCV.o hst.o EX.o hw
     go_wp2;go_ret;exact⟨by rw[H.o];rfl,hbi⟩
    | true=>
     rw[hw]at d5;have HST:=Hd (vst_step HCV.o hst.o EX.o hw);clear hst;go_wp2
     go_roundg (c.ls.length+1-(j+1))
     case measure=>omega
     case rel=>exact⟨j+1,(a+1) % c.ls.length,rfl,by simp,HST,HBOXI.o,hbi⟩
end Go.Proofs.YtfbnokjdkhcgoaaGreatDoor
