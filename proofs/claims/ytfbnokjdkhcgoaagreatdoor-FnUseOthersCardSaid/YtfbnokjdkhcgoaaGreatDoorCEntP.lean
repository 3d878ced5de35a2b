/- A part of the proofs of this seat. -/
import Derived.Test.YtfbnokjdkhcgoaaGreatDoorCards
import Derived.Test.YtfbnokjdkhcgoaaGreatDoorCClosed
set_option linter.unusedVariables false
set_option linter.unusedSimpArgs false
set_option maxRecDepth 1000000
set_option maxHeartbeats 16000000
namespace Go.Proofs.YtfbnokjdkhcgoaaGreatDoor
open Go.RowKit
def keepS(x:Ln):Ln:=if x.t=-1 then x else lnz
def freC(c:Ca):Ca:=⟨c.ls.map keepS,c.hand⟩
def entO(m:Ma)(s:Int):Bool:=mav m && (takG m.g s).2.2.2
def entV(m:Ma)(s:Int):Ma:=if entO m s=true then⟨m.t,if(takG m.g s).2.2.1=true then freC m.c else m.c,(takG m.g s).1,s⟩else maz
theorem keepS_or(x:Ln):keepS x=x∨keepS x=lnz:=by unfold keepS;split;exact .inl rfl;exact .inr rfl
theorem freC_at{c:Ca}{i:Nat}{y:Ln}(h:(freC c).ls[i]?=some y):∃x,c.ls[i]?=some x∧y=keepS x:=by
 unfold freC at h;simp only[List.getElem?_map,Option.map_eq_some_iff]at h;obtain⟨x,e,h⟩:=h;exact⟨x,e,h.symm⟩
theorem CV.fre{c:Ca}(h:CV c):CV (freC c):=by
 have hl:(freC c).ls.length=c.ls.length:=by simp[freC]
 refine⟨by rw[hl];exact h.sz,by rw[hl];exact h.hand,fun i y hi=> ?_,fun i j y z hij hi hj=> ?_, ?_⟩
 ·obtain⟨x,e,rfl⟩:=freC_at hi;rcases keepS_or x with k | k<;>rw[k]
  ·exact h.ok i x e
  ·decide
 ·obtain⟨x,e,rfl⟩:=freC_at hi;obtain⟨x2,e2,rfl⟩:=freC_at hj;rcases keepS_or x2 with k2 | k2<;>rw[k2]
  ·rcases keepS_or x with k | k<;>rw[k]
   ·exact h.cl i j x x2 hij e e2
   ·exact clash_z _
  ·rw[clash_symm];exact clash_z _
 ·obtain⟨i,x,e,hw⟩:=h.loose;refine⟨i,keepS x,by simp[freC,e], ?_⟩;rcases keepS_or x with k | k<;>rw[k]
  ·exact hw
  ·rfl
theorem tlast_app{os l:List (Int×Int)}{k:Nat}(hk:k≤os.length):tlast (os++l) k=tlast os k:=by
 cases k with
 | zero=>rfl
 | succ j=>
  have e:os[j]?=some os[j]:=List.getElem?_eq_getElem (by omega);rw[tlast_of e,tlast_of (q:=os[j]) (by rw[List.getElem?_append_left (by omega),e])]
theorem tok_app{os l:List (Int×Int)}{n n':Int}(hn:n≤n'):∀{m:Nat},m≤os.length→tok os n os.length=true→tok (os++l) n' m=true
  | 0,_,_=>rfl
  | m+1,hm,h=>by
    obtain⟨o,e,h1,h2,h3,h4,h5⟩:=tok_at h (show m<os.length by omega);refine tok_step (tok_app hn (by omega) h) (o:=o) (by rw[List.getElem?_append_left (by omega),e]) h1 (by omega) (by rw[tlast_app (by omega)];exact h4) (fun r q hr hq=> ?_);rw[List.getElem?_append_left (by omega)]at hq;exact h5 r q hr hq
theorem tlast_lt{os:List (Int×Int)}{n:Int}(h:tok os n os.length=true)(hn:0≤n):tlast os os.length<n:=by
 cases e:os.length with
 | zero=>show(-1:Int)<n;omega
 | succ j=>
  obtain⟨o,eo,_,_,h3,_⟩:=tok_at h (show j<os.length by omega);rw[tlast_of eo];exact h3
theorem tgv_new{g:Tg}{s:Int}(hg:tgv g=true)(hs:inR s 16=true)(ho:own g.os s=none)(hn:¬g.next=g.count):tgv ⟨g.count,g.next+1,g.round,g.os++[(s,g.next)]⟩=true:=by
 obtain⟨⟨b1,b2,b3,b4,b5,b6⟩,ht⟩:=tgv_parts hg;refine tgv_end (tgb_iff.2 ⟨b1,b2,by show 0≤g.next+1;omega,by show g.next+1≤g.count;omega,b5,b6⟩) ?_;show tok (g.os++[(s,g.next)]) (g.next+1) (g.os++[(s,g.next)]).length=true;rw[List.length_append];refine tok_step (tok_app (by omega) (Nat.le_refl _) ht) (o:=(s,g.next)) (by rw[List.getElem?_append_right (Nat.le_refl _)];simp) hs (by show g.next<g.next+1;omega) (by rw[tlast_app (Nat.le_refl _)];exact tlast_lt ht b3) (fun r q hr hq=> ?_);rw[List.getElem?_append_left hr]at hq;unfold own at ho;rw[List.findIdx?_eq_none_iff]at ho;have:=ho q (List.mem_of_getElem? hq);simpa using this
theorem tgv_fresh{g:Tg}{s:Int}(hg:tgv g=true)(hs:inR s 16=true)(hr:¬g.round=1000000):tgv ⟨g.count,1,g.round+1,[(s,0)]⟩=true:=by
 obtain⟨⟨b1,b2,b3,b4,b5,b6⟩,_⟩:=tgv_parts hg;refine tgv_end (tgb_iff.2 ⟨b1,b2,by show(0:Int)≤1;omega,by show(1:Int)≤g.count;omega,by show 0≤g.round+1;omega,by show g.round+1≤1000000;omega⟩) ?_;show tok [(s,0)] 1 1=true;exact tok_step (k:=0) rfl (o:=(s,0)) rfl hs (by show(0:Int)<1;omega) (by rw[tlast_0];show(-1:Int)<0;omega) (fun r q hr _=>absurd hr (by omega))
theorem fOK_iff{t:Tab}{s p:Int}:fOK t s p=true↔tv t=true∧kval (s,p)=true∧0≤fndI t.fs s p:=by
 unfold fOK;simp only[Bool.and_eq_true,decide_eq_true_eq,and_assoc]
theorem takO_iff{m:Ma}{s p:Int}:takO m s p=true↔mav m=true∧fOK m.t s p=true:=by
 unfold takO;simp only[Bool.and_eq_true]
def kb(a b:Key):Bool:=decide (a.1<b.1) || (decide (a.1=b.1) && decide (a.2<b.2))
theorem kb_iff{a b:Key}:kb a b=true↔a.1<b.1∨(a.1=b.1∧a.2<b.2):=by unfold kb;simp
theorem kb_no{a b:Key}:kb a b=false↔¬(a.1<b.1∨(a.1=b.1∧a.2<b.2)):=by
 rw[←kb_iff];simp
theorem kb_anti{a b:Key}(h1:kb a b=false)(h2:kb b a=false):a=b:=by
 rw[kb_no]at h1 h2;have e1:a.1=b.1:=by omega
 have e2:a.2=b.2:=by omega
 exact Prod.ext e1 e2
theorem kb_asym{a b:Key}(h:kb a b=true):kb b a=false:=by
 rw[kb_iff]at h;rw[kb_no];omega
theorem kb_ntrans{a b c:Key}(h1:kb b a=false)(h2:kb c b=false):kb c a=false:=by
 rw[kb_no]at h1 h2⊢;omega
def KSo(l:List Key):Prop:=l.Pairwise (fun a b=>kb b a=false)
theorem kso_unique{l m:List Key}(hl:KSo l)(hm:KSo m)(hp:l.Perm m):l=m:=by
 induction l generalizing m with
 | nil=>exact(List.nil_perm.1 hp).symm
 | cons x l ih=>
  cases m with
  | nil=>exact absurd hp.length_eq (by simp)
  | cons y m=>
   unfold KSo at hl hm;rw[List.pairwise_cons]at hl hm
   have hxy:x=y:=by
    rcases List.mem_cons.1 (hp.mem_iff.1 (List.mem_cons_self (a:=x) (l:=l)))with h | h
    ·exact h
    ·rcases List.mem_cons.1 (hp.mem_iff.2 (List.mem_cons_self (a:=y) (l:=m)))with h2 | h2
     ·exact h2.symm
     ·exact kb_anti (hm.1 x h) (hl.1 y h2)
   subst hxy;rw[ih hl.2 hm.2 (List.Perm.cons_inv hp)]
def keysL(fs:List Fr):List Key:=fs.filterMap (fun y=>if y.used=true then some (y.s,y.p)else none)
theorem keysL_take{fs:List Fr}{k:Nat}{y:Fr}(h:fs[k]?=some y):keysL (fs.take (k+1))=keysL (fs.take k)++(if y.used=true then [(y.s,y.p)]else []):=by
 unfold keysL;rw[List.take_add_one,h,List.filterMap_append]
 congr 1
 simp only[Option.toList];cases hu:y.used<;>simp[hu]
theorem keysL_mem{fs:List Fr}{x:Key}:x∈keysL fs↔∃(i:Nat) (y:Fr),fs[i]?=some y∧y.used=true∧(y.s,y.p)=x:=by
 unfold keysL;rw[List.mem_filterMap];constructor
 ·rintro⟨y,hy,h⟩;obtain⟨i,hi⟩:=List.mem_iff_getElem?.1 hy
  cases hu:y.used with
  | true=>exact⟨i,y,hi,hu,by simpa[hu]using h⟩
  | false=>simp[hu]at h
 ·rintro⟨i,y,hi,hu,h⟩;exact⟨y,List.mem_of_getElem? hi,by simp[hu,h]⟩
def kins(l:List Key)(x:Key):List Key:=match l with
 | []=>[x]
 | y::l=>if kb x y=true then x::y::l else y::kins l x
theorem kins_perm(l:List Key)(x:Key):(kins l x).Perm (x::l):=by
 induction l with
 | nil=>exact List.Perm.refl _
 | cons y l ih=>
  unfold kins;split
  ·exact List.Perm.refl _
  ·exact(List.Perm.cons y ih).trans (List.Perm.swap x y l)
theorem kins_so{l:List Key}{x:Key}(h:KSo l):KSo (kins l x):=by
 induction l with
 | nil=>simp[kins,KSo]
 | cons y l ih=>
  have h':=h;unfold KSo at h;rw[List.pairwise_cons]at h;unfold kins;split
  ·rename_i hx;refine List.pairwise_cons.2 ⟨fun z hz=> ?_,h'⟩;rcases List.mem_cons.1 hz with e | e
   ·subst e;exact kb_asym hx
   ·exact kb_ntrans (kb_asym hx) (h.1 z e)
  ·rename_i hx;refine List.pairwise_cons.2 ⟨fun z hz=> ?_,ih h.2⟩;rcases List.mem_cons.1 ((kins_perm l x).mem_iff.1 hz)with e | e
   ·subst e;simpa using hx
   ·exact h.1 z e
def ksrt(l:List Key):List Key:=l.foldl kins []
theorem ksrt_gen:∀(l a:List Key),KSo a→KSo (l.foldl kins a)∧(l.foldl kins a).Perm (a++l)
  | [],a,h=>⟨h,by simp⟩
  | x::l,a,h=>by
    obtain⟨h1,h2⟩:=ksrt_gen l (kins a x) (kins_so h);refine⟨h1,h2.trans (((kins_perm a x).append_right l).trans ?_)⟩;exact List.perm_middle.symm
theorem ksrt_so(l:List Key):KSo (ksrt l):=(ksrt_gen l [] List.Pairwise.nil).1
theorem ksrt_perm(l:List Key):(ksrt l).Perm l:=by unfold ksrt;simpa using(ksrt_gen l [] List.Pairwise.nil).2
theorem ksrt_of{l m:List Key}(h:KSo l)(hp:l.Perm m):l=ksrt m:=kso_unique h (ksrt_so m) (hp.trans (ksrt_perm m).symm)
theorem ksrt_length(l:List Key):(ksrt l).length=l.length:=(ksrt_perm l).length_eq
def kys(t:Tab):List Key:=if tv t=true then ksrt (keysL t.fs)else []
theorem kys_no{t:Tab}(h:tv t=false):kys t=[]:=by unfold kys;rw[if_neg (by rw[h];decide)]
theorem put_at{m:Ma}{s p fr r:Int}(h:putOK m s p fr r=true):∃(k:Nat) (f0:Fr),fr=(k:Int)∧m.t.fs[k]?=some f0∧f0.used=false∧mav m=true∧keyI s p=s∧kval (s,p)=true∧fnd m.t.fs s p=none∧
  putV m s p fr r={m with t:=⟨m.t.bs.set (bkt m.t s p) k,m.t.fs.set k ⟨true,s,p,r,m.t.bs.getD (bkt m.t s p) 0⟩⟩}:=by
 have hV:putV m s p fr r={m with t:=mapV m.t s p fr r}:=by unfold putV;rw[if_pos h]
 unfold putOK at h;simp only[Bool.and_eq_true,decide_eq_true_eq]at h;obtain⟨⟨hm,hk⟩,hok⟩:=h;have hT:mapV m.t s p fr r=mapT m.t s p fr r:=by unfold mapV;rw[if_pos hok]
 unfold mapOK at hok;simp only[Bool.and_eq_true]at hok;obtain⟨⟨⟨⟨⟨htv,hkv⟩,hnf⟩,hin⟩,hu⟩,hr⟩:=hok
 have hnf':fnd m.t.fs s p=none:=by
  cases e:fnd m.t.fs s p with
  | none=>rfl
  | some i=>unfold fndI at hnf;rw[e]at hnf;simp at hnf
 obtain⟨hi0,hi1⟩:=inR_iff.1 hin;obtain⟨k,rfl⟩:=Int.eq_ofNat_of_zero_le hi0;rw[Int.toNat_natCast]at hu
 cases ef:m.t.fs[k]? with
 | none=>rw[ef]at hu;cases hu
 | some f0=>
 rw[ef]at hu;refine⟨k,f0,rfl,ef,by simpa using hu,hm,hk,hkv,hnf', ?_⟩;rw[hV,hT];unfold mapT;rw[Int.toNat_natCast]
theorem takV_c{m:Ma}{s p:Int}(h:takO m s p=true):(takV m s p).c=drpC m s p∧(takV m s p).g=m.g∧(takV m s p).sp=m.sp:=by
 unfold takV;rw[if_pos h];exact⟨rfl,rfl,rfl⟩
theorem fndI_some{fs:List Fr}{s p:Int}{i:Nat}(h:fnd fs s p=some i):fndI fs s p=(i:Int):=by unfold fndI;rw[h]
theorem spc_app{os l:List (Int×Int)}{t:Int}{i:Nat}(h:spc os t=some i):spc (os++l) t=some i:=by
 unfold spc at h⊢;rw[List.findIdx?_append,h];rfl
theorem ownI_of{os:List (Int×Int)}{s:Int}{i:Nat}(h:own os s=some i):ownI os s=(i:Int):=by unfold ownI;rw[h]
theorem mav_ent {m:Ma} {s:Int} (h:entO m s=true):mav (entV m s)=true∧(entV m s).t=m.t∧(entV m s).sp=s:=by
 have hV:entV m s=⟨m.t,if(takG m.g s).2.2.1=true then freC m.c else m.c,(takG m.g s).1,s⟩:=by unfold entV;rw[if_pos h]
 unfold entO at h;rw[Bool.and_eq_true]at h;obtain⟨hm,hok⟩:=h;have M:=mav_MV.1 hm;rw[hV];refine⟨?_,rfl,rfl⟩;unfold takG at hok⊢;split at hok
 ·rename_i hc;rw[if_pos hc];rw[Bool.and_eq_true]at hc;obtain⟨_,hs⟩:=hc
  cases ho:own m.g.os s with
  | some i=>
   simp only;refine mav_MV.2 ⟨M.t,M.c,M.g, ?_,M.f,fun j x hx=>lnM_keep (m:=m) rfl (fun s' j hs' hj=>⟨hj,rfl⟩) (M.l j x hx)⟩;show 0≤ownI m.g.os s;rw[ownI_of ho];omega
  | none =>
   rw[ho]at hok;simp only at hok⊢;split at hok
   ·rename_i hn;rw[if_pos hn];split at hok
    ·cases hok
    ·rename_i hr;rw[if_neg hr];show mav ⟨m.t,freC m.c,⟨m.g.count,1,m.g.round+1,[(s,0)]⟩,s⟩=true;refine mav_MV.2 ⟨M.t,M.c.fre,tgv_fresh M.g hs hr, ?_,M.f,fun j y hy=> ?_⟩
     ·show 0≤ownI [(s,0)] s;rw[ownI_of (i:=0) (by unfold own;simp)];omega
     ·obtain⟨x,ex,rfl⟩:=freC_at hy;by_cases ht:x.t=-1
      ·rw[show keepS x=x from if_pos ht]
       cases hv:x.v with
       | false=>exact lnM_inv hv
       | true=>
        obtain⟨s0,i,a1,a2,a3,a4,a5,a6⟩:=lnM_some hv (M.l j x ex);have h128:=a5.2 ht;refine lnM_mk (s:=s0) (i:=i) ?_ a2 a3 a4 a5 a6;rw[lnSp_sh h128]at a1⊢;exact a1
      ·rw[show keepS x=lnz from if_neg ht];exact lnM_inv rfl
   ·rename_i hn;rw[if_neg hn];show mav ⟨m.t,m.c,⟨m.g.count,m.g.next+1,m.g.round,m.g.os++[(s,m.g.next)]⟩,s⟩=true;refine mav_MV.2 ⟨M.t,M.c,tgv_new M.g hs ho hn, ?_,M.f,fun j x ex=> ?_⟩
    ·show 0≤ownI (m.g.os++[(s,m.g.next)]) s
     have:own (m.g.os++[(s,m.g.next)]) s=some m.g.os.length:=by
      unfold own at ho⊢;rw[List.findIdx?_append,ho];simp
     rw[ownI_of this];omega
    ·cases hv:x.v with
     | false=>exact lnM_inv hv
     | true=>
      obtain⟨s0,i,a1,a2,a3,a4,a5,a6⟩:=lnM_some hv (M.l j x ex);refine lnM_mk (s:=s0) (i:=i) ?_ a2 a3 a4 a5 a6;unfold lnSp at a1⊢;split at a1
      ·rename_i h128;rw[if_pos h128];exact a1
      ·rename_i h128;rw[if_neg h128]
       cases hsp:spc m.g.os x.t with
       | none=>rw[hsp]at a1;cases a1
       | some k=>
        rw[hsp]at a1
        have hk:k<m.g.os.length:=by
         unfold spc at hsp;exact(List.findIdx?_eq_some_iff_getElem.1 hsp).1
        show(match spc (m.g.os++[(s,m.g.next)]) x.t with | some i=>some ((m.g.os++[(s,m.g.next)]).getD i (0,0)).1 | none=>none)=some s0;rw[spc_app hsp];simp only at a1⊢;rw[List.getD_eq_getElem?_getD,List.getElem?_append_left hk,←List.getD_eq_getElem?_getD];exact a1
 ·cases hok
def wpC(m:Ma)(p:Int):Ca:=(tchV m p 0).c
def wpI(m:Ma)(p:Int):Int:=plcI (wpC m p).ls (-1) p
def wpO(m:Ma)(p:Int):Bool:=tchO m p 0 && !decide (tchR m p 0=3) && decide (128≤p) && wirOK (wpC m p) (wpI m p) true
def wpV(m:Ma)(p:Int):Ma:=if wpO m p=true then {tchV m p 0 with c:=wirC (wpC m p) (wpI m p) true}else maz
theorem wpO_no{m:Ma}{p:Int}(h:wpO m p=false):wpV m p=maz:=by unfold wpV;rw[h];rfl
theorem mav_wire{m:Ma}{p:Int}(h:wpO m p=true):mav (wpV m p)=true:=by
 have hV:wpV m p={tchV m p 0 with c:=wirC (wpC m p) (wpI m p) true}:=by unfold wpV;rw[if_pos h]
 unfold wpO at h;simp only[Bool.and_eq_true,decide_eq_true_eq]at h;obtain⟨⟨⟨h1,_⟩,h3⟩,h4⟩:=h;have M:=mav_MV.1 (mav_tch h1);unfold wirOK at h4;simp only[Bool.and_eq_true]at h4;obtain⟨⟨⟨_,hin⟩,hvv⟩,hc⟩:=h4;obtain⟨hi0,hi1⟩:=inR_iff.1 hin;obtain⟨k,x,hk,ex,hx⟩:=plcI_lt (show 0≤plcI (wpC m p).ls (-1) p from hi0);have hwi:wpI m p=(k:Int):=hk;obtain⟨hxv,hxp,hxt⟩:=fits_iff.1 hx
 have hwc:wirC (wpC m p) (wpI m p) true=⟨(wpC m p).ls.set k {x with w:=true},(wpC m p).hand⟩:=by
  unfold wirC;rw[hwi,Int.toNat_natCast,List.getD_eq_getElem?_getD,ex];rfl
 rw[hwc]at hc;rw[hV,hwc];refine mav_MV.2 ⟨M.t,cav_CV.1 hc,M.g,M.o,M.f,fun i y hi=> ?_⟩;simp only at hi;rw[List.getElem?_set]at hi;split at hi
 ·split at hi
  ·injection hi with hi;rw[←hi];obtain⟨s,j,b1,b2,b3,b4,b5,b6⟩:=lnM_some hxv (M.l k x ex);exact lnM_mk (m:={tchV m p 0 with c:=⟨(wpC m p).ls.set k {x with w:=true},(wpC m p).hand⟩}) (s:=s) (i:=j) b1 b2 b3 b4 b5 (fun _=>by show 128≤x.p;rw[hxp];exact h3)
  ·cases hi
 ·exact M.l i y hi
structure Sz(k:Nat)(m:Ma):Prop where
 b1:1≤m.t.bs.length
 b:m.t.bs.length≤k
 f:m.t.fs.length≤k
 l:m.c.ls.length≤k
 o:m.g.os.length≤k
theorem Sz.up{k k':Nat}{m:Ma}(h:Sz k m)(hk:k≤k'):Sz k' m:=⟨h.b1,Nat.le_trans h.b hk,Nat.le_trans h.f hk,Nat.le_trans h.l hk,Nat.le_trans h.o hk⟩
theorem Sz.of{m:Ma}(h:mav m=true):Sz 16 m:=by
 obtain⟨h1,h2,h3,_⟩:=mav_parts h;have a:=(tv_parts h1).1;have b:=cav_parts h2;have c:=tgv_parts h3;have d:=tok_len c.2 c.1.2.2.1;exact⟨by omega,by omega,by omega,by omega,by omega⟩
theorem gr_below{w w':World}{g:Nat}(hb:Below w.heap.size w w'):w.grownBy w' (some g):=⟨hb.os,hb.tape,hb.output,hb.size,fun k hk _=>hb.block k hk⟩
theorem rdr_below{B:Nat}{w w':World}{g p:Nat}(h:Rdr B w g p)(hb:Below w.heap.size w w'):Rdr B w' g p:=rdr_grown h ⟨hb.os,hb.tape,hb.output,hb.size,fun k hk _=>hb.block k hk⟩
theorem oth_gr{w w':World}{g:Nat}{ty:TypeId}{cs:Array Value}(hg:w.grownBy w' (some g))(ho:Own w g ty cs):Oth (fun e=>e=ty) w w':=by
 refine⟨hg.size,fun g' e cs' h hne=>(hg.block g' h.lt ?_).trans h⟩;intro hh;injection hh with hh;subst hh;unfold Own at h ho;rw[ho]at h;injection h with h;injection h with _ h2;exact hne h2.symm
theorem MaM.gr{B B':Nat}{w w':World}{g p:Nat}{v1 v2 v3 v4:Value}{m:Ma}(h:MaM B w v1 v2 v3 v4 m)(hr:Rdr B' w g p)(hg:w.grownBy w' (some g)):MaM B w' v1 v2 v3 v4 m:=by
 obtain⟨A,n,c,ho,_⟩:=hr.ok;exact h.oth (oth_gr hg ho) (by decide) (by decide) (by decide) (by decide)
theorem wp_region_rel3 {P:Program} {ops:Array Oper} {Q:Exit→Act→World→Prop} {id:Nat} {a:Act} {w:World} (hm:P.follows .mixedOrders=true) (ds:List Nat) (rds:List (List Nat)) (C:(Nat→Bool)→World→Prop)
    (R:Nat→(Nat→Value)→World→Prop) (T:Nat→World→World→Prop) (hB:relB .any ops ds rds=true) (hC:C (fun _=>false) w.drew)
    (hR:∀j x y v,(∀s∈rds.getD j [],x s=y s)→R j x v→R j y v)
    (hT:∀i j x v v',i≠j→R j x v→T i v v'→R j x v')
    (step:∀i o,ops[i]?=some o→∀D x v,D i=false→(∀j oj,ops[j]?=some oj→D j=true→∀e∈oj.after,Region.binds .any e=true→D e.on=true)→C D v→(∀k,(∃e∈o.after,Region.binds .any e=true∧e.on=k)→R k x v)→∀K:Act→World→Prop,
      (∀u v',T i v v'→C (fun j=>if j=i then true else D j) v'→R i (upd x o.dst u) v'→K ((fillA ds x a).put o.dst u) v')→o.wp P (fillA ds x a) v K Q)
    (fin:∀D x v,(∀i,i<ops.size→D i=true)→C D v→(∀i,i<ops.size→R i x v)→Q .normal (fillA ds x a) v):(Code.region id ops true).wp P Q a w:=by
  refine wp_region_any hm ?_
  refine wpAny_inv (fun L a' v=>∃x,a'=fillA ds x a∧C (fun j=>L.getD j false) v∧L.size=ops.size∧(∀j,L.getD j false=true→R j x v)∧
    ∀j o,ops[j]?=some o→L.getD j false=true→∀e∈o.after,Region.binds .any e=true→L.getD e.on false=true) ?_ ?_ _ _ _ _ (left_le _ _) ?_
  · rintro L a' v ⟨x,rfl,hCv,hsz,hL,hcl⟩ i hi
    obtain⟨h0,o,ho,hdep⟩:=mem_ready.1 hi;obtain⟨b1,b2,b3,b4⟩:=relB_at hB ho;have hisz:=(Array.getElem?_eq_some_iff.1 ho).1;have h0':L.getD i false=false:=by rw[←getD_both_ (by omega)];exact h0
    unfold wpOp;rw[ho];simp only[Region.wanted,b1,if_true];refine .inl (step i o ho _ x v h0' (fun j oj hoj hj e he hb=>hcl j oj hoj hj e he hb) hCv (fun k ⟨e,he,hb,hk⟩=>hk▸hL _ (hdep e he hb)) _ (fun u v' hTv hCv' hRi=> ?_));refine⟨upd x o.dst u,fill_put b2, ?_,by simpa using hsz,fun j hj=> ?_,fun j oj hoj hj e he hb=> ?_⟩
    · have e:(fun j=>(L.setIfInBounds i true).getD j false)=(fun j=>if j=i then true else L.getD j false):=funext fun j=>by
        by_cases hij:j=i
        · subst hij;simp[hsz,hisz]
        · rw[if_neg hij,getD_set_ne false (fun h=>hij h.symm)]
      show C (fun j=>(L.setIfInBounds i true).getD j false) v';rw[e];exact hCv'
    · by_cases hij:i=j
      · subst hij;exact hRi
      · rw[getD_set_ne false hij]at hj
        have hj2:j<ops.size:=by
          rcases Nat.lt_or_ge j L.size with h | h
          · omega
          · simp[Array.getElem?_eq_none h]at hj
        obtain⟨oj,hoj⟩:∃oj,ops[j]?=some oj:=⟨_,Array.getElem?_eq_getElem hj2⟩
        refine hR j x _ v' (fun s hs=> ?_) (hT i j x v v' hij (hL j hj) hTv);by_cases hd:o.dst=some s
        · obtain⟨e,he,hb,hon⟩:=(relB_at hB hoj).2.2.2 i o s ho hij hd hs
          have h1:=hcl j oj hoj hj e he hb;rw[hon,←getD_both_ (by omega),h0]at h1;cases h1
        · unfold upd;rw[if_neg (fun h=>hd h.symm)]
    · by_cases hij:i=j
      · subst hij
        rw[ho]at hoj;injection hoj with hoj;subst hoj;exact getD_set_true (hdep e he hb)
      · rw[getD_set_ne false hij]at hj
        exact getD_set_true (hcl j oj hoj hj e he hb)
  · rintro L a' v ⟨x,rfl,hCv,hsz,hL,hcl⟩ hr
    have hall:∀n j,j<n→j<ops.size→L.getD j false=true:=by
      intro n
      induction n with
      | zero=>intro j h;exact absurd h (by omega)
      | succ n ih=>
        intro j hj hjs
        obtain⟨oj,hoj⟩:∃oj,ops[j]?=some oj:=⟨_,Array.getElem?_eq_getElem hjs⟩
        by_cases hd:L.getD j true=true
        · rw[←getD_both_ (by omega)];exact hd
        · have hmem:j∈Region.ready .any ops L:=mem_ready.2 ⟨by simpa using hd,oj,hoj,fun e he hb=>by
            have h1:=(relB_at hB hoj).2.2.1 e he hb
            exact ih e.on (by omega) (by omega)⟩
          rw[hr]at hmem;cases hmem
    exact fin _ x v (fun i hi=>hall (i+1) i (by omega) hi) hCv (fun i hi=>hL i (hall (i+1) i (by omega) hi))
  · refine⟨fun s=>a.tmps.getD s undef,(fill_self ds a).symm, ?_,by simp,fun j hj=> ?_,fun j o ho hj=> ?_⟩
    · refine Eq.mp (congrArg (fun d=>C d w.drew) ?_) hC
      funext j
      rcases Nat.lt_or_ge j ops.size with h | h
      · simp[h]
      · simp[h]
    all_goals
      exfalso;rcases Nat.lt_or_ge j ops.size with h | h
      · simp[h]at hj
      · simp[h]at hj
theorem wp_region_rel2{P:Program}{ops:Array Oper}{Q:Exit→Act→World→Prop}{id:Nat}{a:Act}{w:World}(hm:P.follows .mixedOrders=true)(ds:List Nat)(rds:List (List Nat))(C:(Nat→Bool)→World→Prop)
    (R:Nat→(Nat→Value)→World→Prop) (T:Nat→World→World→Prop) (hB:relB .any ops ds rds=true) (hC:C (fun _=>false) w.drew)
    (hR:∀j x y v,(∀s∈rds.getD j [],x s=y s)→R j x v→R j y v)
    (hT:∀i j x v v',i≠j→R j x v→T i v v'→R j x v')
    (step:∀i o,ops[i]?=some o→∀D x v,D i=false→C D v→(∀k,(∃e∈o.after,Region.binds .any e=true∧e.on=k)→R k x v)→∀K:Act→World→Prop,
      (∀u v',T i v v'→C (fun j=>if j=i then true else D j) v'→R i (upd x o.dst u) v'→K ((fillA ds x a).put o.dst u) v')→o.wp P (fillA ds x a) v K Q)
    (fin:∀D x v,(∀i,i<ops.size→D i=true)→C D v→(∀i,i<ops.size→R i x v)→Q .normal (fillA ds x a) v):(Code.region id ops true).wp P Q a w:=
  wp_region_rel3 hm ds rds C R T hB hC hR hT (fun i o ho D x v hD _ hCv hd K hK=>step i o ho D x v hD hCv hd K hK) fin
theorem own_gr{w w':World}{b g:Nat}{t:TypeId}{cs:Array Value}(h:Own w b t cs)(hg:w.grownBy w' (some g))(hne:b≠g):Own w' b t cs:=(hg.block b h.lt (by simpa using hne)).trans h
def small(n:Int):Prop:=-1000≤n∧n≤1000001
theorem g_set{w0 w:World}{r:Option Nat}{b i:Nat}{u:Value}(hb:w0.heap.size≤b)(h:w0.grownBy w r):w0.grownBy (w.setCell ⟨b,i,none⟩ u) r:=
 ⟨h.os,h.tape,h.output,by simpa using h.size,fun k hk hne=>(Below.heap_setCell w _ u k (by intro e;have e:k=b:=e;omega)).trans (h.block k hk hne)⟩
theorem rdr_set1{B:Nat}{w:World}{g p b i:Nat}{u:Value}(hb:g<b)(h:Rdr B w g p):Rdr B (w.setCell ⟨b,i,none⟩ u) g p:=by
 have hl:=rdr_lt h;exact rdr_grownb h ⟨rfl,rfl,rfl,by simp,fun k hk hne=>Below.heap_setCell w _ u k (by rintro rfl;exact hne rfl)⟩ hb
def cn(D:Nat→Bool):List Nat→Nat
 | []=>0
 | a::l=>(if D a=true then 1 else 0)+cn D l
theorem cn_le(D:Nat→Bool):∀l:List Nat,cn D l≤l.length
  | []=>Nat.le_refl _
  | a::l=>by
    have:=cn_le D l;unfold cn;simp only[List.length_cons];split<;>omega
theorem cn_same{D:Nat→Bool}{i:Nat}:∀{l:List Nat},i∉l→cn (fun j=>if j=i then true else D j) l=cn D l
  | [],_=>rfl
  | a::l,h=>by
    have h1:a≠i:=fun e=>h (by simp[e])
    unfold cn;rw[cn_same (fun h2=>h (by simp[h2])),if_neg h1]
theorem cn_more{D:Nat→Bool}{i:Nat}(hD:D i=false):∀{l:List Nat},i∈l→l.Nodup→cn (fun j=>if j=i then true else D j) l=cn D l+1
  | [],h,_=>by simp at h
  | a ::l,h,hn=>by
    obtain⟨h1,h2⟩:=List.nodup_cons.1 hn;unfold cn;by_cases ha:a=i
    · subst ha
      rw[cn_same h1,if_pos rfl,hD];simp;omega
    · rw[cn_more hD (by simp at h;rcases h with h | h;exact absurd h.symm ha;exact h) h2,if_neg ha]
      omega
theorem cn_zero:∀l:List Nat,cn (fun _=>false) l=0
 | []=>rfl
 | a::l=>by unfold cn;rw[cn_zero l];rfl
theorem cn_all{D:Nat→Bool}:∀{l:List Nat},(∀i∈l,D i=true)→cn D l=l.length
  | [],_=>rfl
  | a::l,h=>by
    unfold cn;rw[cn_all (fun i hi=>h i (by simp[hi])),h a (by simp),if_pos rfl];simp;omega
abbrev othR(v v':World):Prop:=Oth (fun e=>e=139) v v'
def tX(si i:Nat)(v v':World):Prop:=if i=si then stS 34 9 v v' else othR v v'
structure KX(si:Nat) where
 rd:List Nat
 P:Nat→(Nat→Value)→World→Prop
 loc:∀j x y v,(∀s∈rd,x s=y s)→P j x v→P j y v
 kb:∀j x v v',P j x v→othR v v'→P j x v'
 ks:∀j x v v',j≠si→P j x v→stS 34 9 v v'→P j x v'
def kxs{si:Nat}(ks:List (KX si))(j:Nat)(x:Nat→Value)(v:World):Prop:=match ks[j]? with | some k=>k.P j x v | none=>True
theorem kxs_loc{si:Nat}{ks:List (KX si)}:∀j x y v,(∀s∈(ks.map KX.rd).getD j [],x s=y s)→kxs ks j x v→kxs ks j y v:=by
 intro j x y v h hp;unfold kxs at hp⊢
 cases hk:ks[j]? with
 | none=>trivial
 | some k=>
  rw[hk]at hp;refine k.loc j x y v (fun s hs=>h s ?_) hp;rw[List.getD_eq_getElem?_getD,List.getElem?_map,hk];exact hs
theorem kxs_keep{si:Nat}{ks:List (KX si)}:∀i j x v v',i≠j→kxs ks j x v→tX si i v v'→kxs ks j x v':=by
 intro i j x v v' hij hp ht;unfold kxs at hp⊢
 cases hk:ks[j]? with
 | none=>trivial
 | some k=>
  rw[hk]at hp;unfold tX at ht;split at ht
  ·rename_i hi;exact k.ks j x v v' (by omega) hp ht
  ·exact k.kb j x v v' hp ht
theorem tX_oth{si i:Nat}{v v':World}(hi:i≠si)(h:othR v v'):tX si i v v':=by unfold tX;rw[if_neg hi];exact h
theorem tX_below{si i:Nat}{v v':World}(hi:i≠si)(h:Below v.heap.size v v'):tX si i v v':=tX_oth hi (Oth.of_below h)
theorem tX_same{si i:Nat}{v:World}(hi:i≠si):tX si i v v:=tX_below hi bR
theorem tX_store{si:Nat}{v v':World}(h:stS 34 9 v v'):tX si si v v':=by unfold tX;rw[if_pos rfl];exact h
section
variable {si : Nat}
def KX.eq(s:Nat)(u0:Value):KX si where
 rd:=[s]
 P:=fun _ x _=>x s=u0
 loc:=fun _ x y _ h hp=>by rw[←h s (by simp)];exact hp
 kb:=fun _ _ _ _ h _=>h
 ks:=fun _ _ _ _ _ h _=>h
def KX.sat(s:Nat)(q:Value→Prop):KX si where
 rd:=[s]
 P:=fun _ x _=>q (x s)
 loc:=fun _ x y _ h hp=>by rw[←h s (by simp)];exact hp
 kb:=fun _ _ _ _ h _=>h
 ks:=fun _ _ _ _ _ h _=>h
def KX.lit(s:Nat)(cs:Array Value)(n:Nat):KX si where
 rd:=[s]
 P:=fun _ x v=>∃gg:Nat,x s=.slice (some ⟨gg,0,none⟩) n n∧Own v gg 3 cs
 loc:=fun _ x y _ h hp=>by rw[←h s (by simp)];exact hp
 kb:=fun _ _ _ _ ⟨gg,h1,h2⟩ ho=>⟨gg,h1,ho.2 _ _ _ h2 (by decide)⟩
 ks:=fun _ _ _ _ _ ⟨gg,h1,h2⟩ hs=>⟨gg,h1,hs.1.2 _ _ _ h2 (by decide)⟩
def KX.tup(s B:Nat)(f:Ma→Value→Value→Value→Value→Value→Prop):KX si where
 rd:=[s]
 P:=fun _ x v=>∃(m:Ma) (e1 e2 e3 e4:Value),f m e1 e2 e3 e4 (x s)∧MaM B v e1 e2 e3 e4 m
 loc:=fun _ x y _ h hp=>by rw[←h s (by simp)];exact hp
 kb:=fun _ _ _ _ ⟨m,e1,e2,e3,e4,h1,h2⟩ ho=>⟨m,e1,e2,e3,e4,h1,h2.oth ho (by decide) (by decide) (by decide) (by decide)⟩
 ks:=fun _ _ _ _ _ ⟨m,e1,e2,e3,e4,h1,h2⟩ hs=>⟨m,e1,e2,e3,e4,h1,h2.oth hs.1 (by decide) (by decide) (by decide) (by decide)⟩
def KX.part(t s i:Nat):KX si where
 rd:=[t,s]
 P:=fun _ x _=>∃vs:Array Value,x t=.tuple vs∧vs[i]?=some (x s)
 loc:=fun _ x y _ h hp=>by rw[←h s (by simp),←h t (by simp)];exact hp
 kb:=fun _ _ _ _ h _=>h
 ks:=fun _ _ _ _ _ h _=>h
def KX.box(s b:Nat):KX si where
 rd:=[s]
 P:=fun _ x v=>∃(gb:Nat) (cs:Array Value),x s=.pointer (some ⟨gb,0,none⟩)∧b≤gb∧cs.size=9∧Own v gb 34 cs
 loc:=fun _ x y _ h hp=>by rw[←h s (by simp)];exact hp
 kb:=fun _ _ _ _ ⟨gb,cs,h1,h2,h3,h4⟩ ho=>⟨gb,cs,h1,h2,h3,ho.2 _ _ _ h4 (by decide)⟩
 ks:=fun _ _ _ _ _ ⟨gb,cs,h1,h2,h3,h4⟩ hs=>let ⟨cs',e1,e2⟩:=hs.2 gb cs h3 h4;⟨gb,cs',h1,h2,e1,e2⟩
def KX.fst(t s B:Nat)(f:Ma→Value→Value→Value→Value→Value→Prop):KX si where
 rd:=[t,s]
 P:=fun _ x v=>∃(m:Ma) (e1 e2 e3 e4:Value),f m e1 e2 e3 e4 (x t)∧x s=.agg #[e1,e2,e3,.int .i64 m.c.hand,.int .i64 m.g.count,.int .i64 m.g.next,.int .i64 m.g.round,e4,.int .i64 m.sp]∧MaM B v e1 e2 e3 e4 m
 loc:=fun _ x y _ h hp=>by rw[←h s (by simp),←h t (by simp)];exact hp
 kb:=fun _ _ _ _ ⟨m,e1,e2,e3,e4,h1,h2,h3⟩ ho=>⟨m,e1,e2,e3,e4,h1,h2,h3.oth ho (by decide) (by decide) (by decide) (by decide)⟩
 ks:=fun _ _ _ _ _ ⟨m,e1,e2,e3,e4,h1,h2,h3⟩ hs=>⟨m,e1,e2,e3,e4,h1,h2,h3.oth hs.1 (by decide) (by decide) (by decide) (by decide)⟩
def KX.put(t nb B:Nat)(f:Ma→Value→Value→Value→Value→Value→Prop):KX si where
 rd:=[t]
 P:=fun j x v=>j=si∧∃(m:Ma) (e1 e2 e3 e4:Value),f m e1 e2 e3 e4 (x t)∧MaM B v e1 e2 e3 e4 m∧Own v nb 34 #[e1,e2,e3,.int .i64 m.c.hand,.int .i64 m.g.count,.int .i64 m.g.next,.int .i64 m.g.round,e4,.int .i64 m.sp]
 loc:=fun _ x y _ h hp=>by rw[←h t (by simp)];exact hp
 kb:=fun _ _ _ _ ⟨hj,m,e1,e2,e3,e4,h3,h4,h5⟩ ho=>⟨hj,m,e1,e2,e3,e4,h3,h4.oth ho (by decide) (by decide) (by decide) (by decide),ho.2 _ _ _ h5 (by decide)⟩
 ks:=fun _ _ _ _ hne ⟨hj,_⟩ _=>absurd hj hne
end
structure DC(B:Nat)(w:World)(g q:Nat)(F:List (Nat×TypeId×Array Value))(vb vf vl vo:Value)(m:Ma)(v:World):Prop where
 rd:Rdr B v g q
 gr:w.grownBy v (some g)
 mm:MaM B v vb vf vl vo m
 ob:∀e∈F,Own v e.1 e.2.1 e.2.2
 ty:∀e∈F,e.2.1≠139
section
variable {B g q : Nat} {F : List (Nat × TypeId × Array Value)} {w : World} {vb vf vl vo : Value} {m : Ma} {v v' : World}
theorem DC.below(h:DC B w g q F vb vf vl vo m v)(hb:Below v.heap.size v v'):DC B w g q F vb vf vl vo m v':=
 ⟨rdr_below h.rd hb,gT h.gr (gr_below hb),h.mm.now hb,fun e he=>(h.ob e he).below hb,h.ty⟩
theorem DC.oth(h:DC B w g q F vb vf vl vo m v)(hg:v.grownBy v' (some g)):othR v v':=by
 obtain⟨A,n,c,ho,_⟩:=h.rd.ok;exact oth_gr hg ho
theorem DC.read(h:DC B w g q F vb vf vl vo m v){q':Nat}(hr:Rdr B v' g q')(hg:v.grownBy v' (some g)):DC B w g q' F vb vf vl vo m v':=
 ⟨hr,gT h.gr hg,h.mm.gr h.rd hg,fun e he=>(h.oth hg).2 _ _ _ (h.ob e he) (h.ty e he),h.ty⟩
theorem DC.set1(h:DC B w g q F vb vf vl vo m v){b i:Nat}{u:Value}(hw:w.heap.size≤b)(hg:g<w.heap.size)(hm:∀e∈F,e.1≠b){cs:Array Value}(ho:Own v b 34 cs):DC B w g q F vb vf vl vo m (v.setCell ⟨b,i,none⟩ u):=
 ⟨rdr_set1 (by omega) h.rd,g_set hw h.gr,h.mm.farT ho,fun e he=>(h.ob e he).far (hm e he),h.ty⟩
theorem DC.set9(h:DC B w g q F vb vf vl vo m v){b:Nat}(hw:w.heap.size≤b)(hg:g<w.heap.size)(hm:∀e∈F,e.1≠b){cs:Array Value}(ho:Own v b 34 cs)(u0 u1 u2 u3 u4 u5 u6 u7 u8:Value):
  DC B w g q F vb vf vl vo m (((((((((v.setCell ⟨b,0,none⟩ u0).setCell ⟨b,1,none⟩ u1).setCell ⟨b,2,none⟩ u2).setCell ⟨b,3,none⟩ u3).setCell ⟨b,4,none⟩ u4).setCell ⟨b,5,none⟩ u5).setCell ⟨b,6,none⟩ u6).setCell ⟨b,7,none⟩ u7).setCell ⟨b,8,none⟩ u8):=by
 have o1:=ho.set_ 0 u0;have o2:=o1.set_ 1 u1;have o3:=o2.set_ 2 u2;have o4:=o3.set_ 3 u3;have o5:=o4.set_ 4 u4;have o6:=o5.set_ 5 u5;have o7:=o6.set_ 6 u6;have o8:=o7.set_ 7 u7;exact((((((((h.set1 hw hg hm ho).set1 hw hg hm o1).set1 hw hg hm o2).set1 hw hg hm o3).set1 hw hg hm o4).set1 hw hg hm o5).set1 hw hg hm o6).set1 hw hg hm o7).set1 hw hg hm o8
theorem DC.own(h:DC B w g q F vb vf vl vo m v){b:Nat}{t:TypeId}{cs:Array Value}(he:(b,t,cs)∈F):Own v b t cs:=h.ob _ he
end
theorem stS_set9{v:World}{b:Nat}{cs:Array Value}(ho:Own v b 34 cs)(u0 u1 u2 u3 u4 u5 u6 u7 u8:Value):
  stS 34 9 v (((((((((v.setCell ⟨b,0,none⟩ u0).setCell ⟨b,1,none⟩ u1).setCell ⟨b,2,none⟩ u2).setCell ⟨b,3,none⟩ u3).setCell ⟨b,4,none⟩ u4).setCell ⟨b,5,none⟩ u5).setCell ⟨b,6,none⟩ u6).setCell ⟨b,7,none⟩ u7).setCell ⟨b,8,none⟩ u8):=by
 have o1:=ho.set_ 0 u0;have o2:=o1.set_ 1 u1;have o3:=o2.set_ 2 u2;have o4:=o3.set_ 3 u3;have o5:=o4.set_ 4 u4;have o6:=o5.set_ 5 u5;have o7:=o6.set_ 6 u6;have o8:=o7.set_ 7 u7;exact stS_trans (stS_trans (stS_trans (stS_trans (stS_trans (stS_trans (stS_trans (stS_trans (stS_set ho) (stS_set o1)) (stS_set o2)) (stS_set o3)) (stS_set o4)) (stS_set o5)) (stS_set o6)) (stS_set o7)) (stS_set o8)
def isN(u:Value):Prop:=∃z:Int,u=.int .i64 z
def isK(u:Value):Prop:=∃a b:Int,u=.agg #[.int .i64 a,.int .i64 b]
theorem tpl_get{vs ws:Array Value}{i:Nat}{u z:Value}{y:Value}(h1:y=.tuple vs)(h2:vs[i]?=some u)(h3:y=.tuple ws)(h4:ws[i]?=some z):u=z:=by
 rw[h1]at h3;injection h3 with h3;subst h3;rw[h2]at h4;injection h4
def CX(B:Nat)(w:World)(g q:Nat)(F:List (Nat×TypeId×Array Value))(vb vf vl vo:Value)(m:Ma)(l:List Nat)(si:Nat)(nb:Option Nat)(D:Nat→Bool)(v:World):Prop:=
 DC B w g (q+cn D l) F vb vf vl vo m v∧(∀b,nb=some b→D si=false→∃cs:Array Value,cs.size=9∧Own v b 34 cs)
section
variable {B g q si i : Nat} {w v v' : World} {F : List (Nat × TypeId × Array Value)} {vb vf vl vo : Value} {m : Ma} {l : List Nat} {nb : Option Nat} {D : Nat → Bool}
theorem upd_f(hs:i≠si)(h:(fun j=>if j=i then true else D j) si=false):D si=false:=by
 simp only at h;rw[if_neg (fun e=>hs e.symm)]at h;exact h
theorem CX.same(h:CX B w g q F vb vf vl vo m l si nb D v)(hi:i∉l)(hs:i≠si):CX B w g q F vb vf vl vo m l si nb (fun j=>if j=i then true else D j) v:=by
 unfold CX;rw[cn_same hi];exact⟨h.1,fun b hb hd=>h.2 b hb (upd_f hs hd)⟩
theorem CX.below(h:CX B w g q F vb vf vl vo m l si nb D v)(hb:Below v.heap.size v v')(hi:i∉l)(hs:i≠si):CX B w g q F vb vf vl vo m l si nb (fun j=>if j=i then true else D j) v':=by
 unfold CX;rw[cn_same hi];exact⟨h.1.below hb,fun b hn hd=>let ⟨cs,h1,h2⟩:=h.2 b hn (upd_f hs hd);⟨cs,h1,h2.below hb⟩⟩
theorem CX.read(h:CX B w g q F vb vf vl vo m l si nb D v)(hD:D i=false)(hi:i∈l)(hn:l.Nodup)(hs:i≠si)(hr:Rdr B v' g (q+cn D l+1))(hg:v.grownBy v' (some g)):CX B w g q F vb vf vl vo m l si nb (fun j=>if j=i then true else D j) v':=by
 unfold CX;rw[cn_more hD hi hn,←Nat.add_assoc];exact⟨h.1.read hr hg,fun b hb hd=>let ⟨cs,h1,h2⟩:=h.2 b hb (upd_f hs hd);⟨cs,h1,(h.1.oth hg).2 _ _ _ h2 (by decide)⟩⟩
theorem CX.store{b:Nat}(h:CX B w g q F vb vf vl vo m l si nb D v)(hi:si∉l)(hw:w.heap.size≤b)(hg:g<w.heap.size)(hm:∀e∈F,e.1≠b){cs:Array Value}(ho:Own v b 34 cs)(u0 u1 u2 u3 u4 u5 u6 u7 u8:Value):
  CX B w g q F vb vf vl vo m l si nb (fun j=>if j=si then true else D j) (((((((((v.setCell ⟨b,0,none⟩ u0).setCell ⟨b,1,none⟩ u1).setCell ⟨b,2,none⟩ u2).setCell ⟨b,3,none⟩ u3).setCell ⟨b,4,none⟩ u4).setCell ⟨b,5,none⟩ u5).setCell ⟨b,6,none⟩ u6).setCell ⟨b,7,none⟩ u7).setCell ⟨b,8,none⟩ u8):=by
 unfold CX;rw[cn_same hi];exact⟨h.1.set9 hw hg hm ho u0 u1 u2 u3 u4 u5 u6 u7 u8,fun _ _ hd=>by simp at hd⟩
end
theorem len_nine{cs:List Value}(h:cs.length=9):∃c0 c1 c2 c3 c4 c5 c6 c7 c8,cs=[c0,c1,c2,c3,c4,c5,c6,c7,c8]:=by
 match cs,h with
 | [c0,c1,c2,c3,c4,c5,c6,c7,c8],_=>exact⟨c0,c1,c2,c3,c4,c5,c6,c7,c8,rfl⟩
def pgo(p:Int):Prop:=p<40∨60≤p
def Pgs(m:Ma):Prop:=∀f∈m.t.fs,pgo f.p
structure SzP(k:Nat)(m:Ma):Prop where
 z:Sz k m
 p:Pgs m
structure SzG(k:Nat)(m:Ma):Prop where
 z:Sz k m
 v:mav m=true
 p:Pgs m
theorem SzG.sp{k:Nat}{m:Ma}(h:SzG k m):SzP k m:=⟨h.z,h.p⟩
theorem SzG.of{m:Ma}(h:mav m=true)(hp:Pgs m):SzG 17 m:=⟨(Sz.of h).up (by omega),h,hp⟩
theorem SzP.up{k k':Nat}{m:Ma}(h:SzP k m)(hk:k≤k'):SzP k' m:=⟨h.z.up hk,h.p⟩
theorem pgo_z:pgo frz.p:=.inl (by decide)
theorem tv_new{nb nf:Nat}(h1:1≤nf)(h2:nf≤16)(h3:1≤nb)(h4:nb≤16):tv ⟨List.replicate nb (-1),List.replicate nf frz⟩=true:=by
 have hz:∀(i:Nat) (f:Fr),(List.replicate nf frz)[i]?=some f→f=frz:=by
  intro i f e;rw[List.getElem?_replicate]at e;split at e
  ·injection e with e;exact e.symm
  ·cases e
 refine tv_TV.2 ⟨by simp;omega,fun i f e=> ?_,fun i j f g e _ hu _ _=> ?_,fun b hb=>⟨[], ?_,by simp⟩,fun i f e hu=> ?_⟩
 ·rw[hz i f e];decide
 ·rw[hz i f e]at hu;cases hu
 ·simp only[List.length_replicate]at hb;unfold bch;simp only[List.getElem?_replicate,if_pos hb];exact chn_neg _ _
 ·rw[hz i f e]at hu;cases hu
theorem cav_new{n:Nat}(h1:1≤n)(h2:n≤8):cav ⟨List.replicate n lnz,0⟩=true:=by
 have hz:∀(i:Nat) (x:Ln),(List.replicate n lnz)[i]?=some x→x=lnz:=by
  intro i f e;rw[List.getElem?_replicate]at e;split at e
  ·injection e with e;exact e.symm
  ·cases e
 refine cav_CV.2 ⟨by simp;omega,inR_iff.2 (by simp;omega),fun i x e=> ?_,fun i j x y _ e _=> ?_,0,lnz, ?_,rfl⟩
 ·rw[hz i x e];decide
 ·rw[hz i x e];exact clash_z y
 ·simp only[List.getElem?_replicate];rw[if_pos (by omega)]
theorem tgv_begin{n:Nat}(h1:1≤n)(h2:n≤8):tgv (takG ⟨n,0,0,[]⟩ 0).1=true∧0≤ownI (takG ⟨n,0,0,[]⟩ 0).1.os 0:=by
 have hv:tgv ⟨n,0,0,[]⟩=true:=by
  unfold tgv;simp only[Bool.and_eq_true,decide_eq_true_eq];refine⟨⟨⟨⟨⟨⟨?_, ?_⟩, ?_⟩, ?_⟩, ?_⟩, ?_⟩,rfl⟩<;>omega
 have hn:¬(0:Int)=(n:Int):=by omega
 have e:(takG ⟨n,0,0,[]⟩ 0).1=⟨n,1,0,[(0,0)]⟩:=by
  unfold takG;rw[hv,show inR 0 16=true by decide];simp only[Bool.and_self,if_true];rw[show own [] 0=none from rfl];simp only;rw[if_neg hn];rfl
 rw[e];refine⟨?_,show(0:Int)≤ownI [(0,0)] 0 by decide⟩;have:=tgv_new (s:=0) hv (by decide) rfl hn;exact this
theorem mav_begin{T:Tab}{L:List Ln}{G:Tg}(h1:tv T=true)(h2:cav ⟨L,0⟩=true)(h3:tgv G=true)(h4:0≤ownI G.os 0)(h5:∀f∈T.fs,f=frz)(h6:∀x∈L,x=lnz):mav ⟨T,⟨L,0⟩,G,0⟩=true:=
 mav_end h1 h2 h3 h4 (fun f hf=>by rw[h5 f hf];decide) (fun x hx=>by rw[h6 x hx];exact lnM_inv rfl)
theorem pgs_put{m:Ma}{s p fr r:Int}(h:putOK m s p fr r=true)(hm:Pgs m)(hp:pgo p):Pgs (putV m s p fr r):=by
 unfold putV;rw[if_pos h];unfold putOK at h;simp only[Bool.and_eq_true]at h;intro f hf;have hf:f∈(mapV m.t s p fr r).fs:=hf;unfold mapV at hf;rw[if_pos h.2]at hf;rcases List.mem_or_eq_of_mem_set hf with hf | rfl
 ·exact hm f hf
 ·exact hp
theorem pgs_relink{fs:List Fr}{i n:Int}(h:∀f∈fs,pgo f.p):∀f∈fs.map (relink i n),pgo f.p:=by
 intro f hf;obtain⟨g,hg,rfl⟩:=List.mem_map.1 hf;have:=h g hg;unfold relink;split<;>exact this
theorem pgs_tak{m:Ma}{s p:Int}(h:takO m s p=true)(hm:Pgs m):Pgs (takV m s p):=by
 have e:(takV m s p).t=unmT m.t s p:=by
  unfold takV;rw[if_pos h];unfold takO at h;rw[Bool.and_eq_true]at h;show unmV m.t s p=_;unfold unmV;rw[if_pos h.2]
 intro f hf;rw[e]at hf;unfold unmT at hf;simp only at hf;split at hf
 ·rcases List.mem_or_eq_of_mem_set hf with hf | rfl
  ·exact hm f hf
  ·exact pgo_z
 ·rcases List.mem_or_eq_of_mem_set hf with hf | rfl
  ·exact pgs_relink hm f hf
  ·exact pgo_z
end Go.Proofs.YtfbnokjdkhcgoaaGreatDoor
namespace Go.Proofs.YtfbnokjdkhcgoaaGreatDoor
set_option maxRecDepth 100000
theorem main_is:Tryz.prog.mainIs=some (true,("e3cae85953a1e8594c5d088c2f5802389a863d70d580150e0c190df728174340":String).toList):=by
 have h:=chars_of (s:=Tryz.prog.initOrder) rfl;unfold Program.mainIs;rw[h];refine Eq.trans ?_ (Eq.refl _);kernel_rfl
end Go.Proofs.YtfbnokjdkhcgoaaGreatDoor
