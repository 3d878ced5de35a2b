/- A part of the proofs of this seat. -/
import Derived.Test.YtfbnokjdkhcgoaaGreatDoorRows
import Derived.JoinedOf
import Derived.KernelRfl
import Derived.ProofKit
import Derived.OpenShut
import Derived.ChangeOld
import Derived.Deep.SlicePairs
import Derived.Lib.SmallJoins
import Derived.ChangeSame
import Derived.ChangeVars
import Derived.LaidLaws
import Derived.Handed
import Derived.Test.YtfbnokjdkhcgoaaGreatDoorCFilS
set_option linter.unusedVariables false
set_option linter.unusedSimpArgs false
set_option maxRecDepth 1000000
set_option maxHeartbeats 16000000
namespace Go.Proofs.YtfbnokjdkhcgoaaGreatDoor
theorem chars_of{s:String}{l:List Char}(h:s=String.ofList l):s.toList=l:=by rw[h,String.toList_ofList]
theorem head_cons{α:Type}{l:List α}{a:α}(h:l.head?=some a):∃r,l=a::r:=by
 cases l with
 | nil=>cases h
 | cons x r=>exact⟨r,by injection h with h;rw[h]⟩
theorem strip_cut(rest:List (List Char)):stripLifts liftWords ("cut".toList::rest)=([], "cut".toList::rest):=by
 simp only[liftWords,stripLifts];repeat (rw[if_neg (by decide)])
theorem mayEnter_of{P:Program}{rest:List (List Char)}(hW:behindMainWord (wordsSigns P.initOrder.toList)= "cut".toList::rest)
  (l1:P.laysLater=false) (l2:P.bearsReflect=false) (l3:P.doorFits []=true):P.mayEnter=true:=by
 unfold Program.mayEnter;rw[hW];simp only[strip_cut,l1,l2];rw[l3];have e1:("cut".toList == "gc".toList)=false:=by decide
 have e2:("cut".toList == "spec".toList)=false:=by decide
 have e3:("cut".toList == "carried".toList)=false:=by decide
 have e4:(("cut".toList::rest).head? == some "cut".toList)=true:=by rw[List.head?_cons];decide
 rw[e1,e2,e3,e4];rfl
theorem lifts_of{P:Program}{r:List (List Char)}(hr:behindMainWord (wordsSigns P.initOrder.toList)= "cut".toList::r):P.liftsFinal=false:=by
 have e4:(("cut".toList::r).head? == some "cut".toList)=true:=by rw[List.head?_cons];decide
 have e5:(("cut".toList::r).head? == some "carried".toList)=false:=by rw[List.head?_cons];decide
 unfold Program.liftsFinal Program.headLifts;rw[hr];simp only[strip_cut,e4,e5];rfl
theorem make_of{P:Program}{r:List (List Char)}(hr:behindMainWord (wordsSigns P.initOrder.toList)= "cut".toList::r):P.make=some .cut:=by
 have e1:("cut".toList == "gc".toList)=false:=by decide
 have e2:("cut".toList == "spec".toList)=false:=by decide
 have e3:("cut".toList == "cut".toList)=true:=by decide
 unfold Program.make;rw[hr];simp only[e1,e2,e3,Bool.or_self,Bool.true_or,Bool.false_eq_true,if_false,if_true]
set_option maxRecDepth 100000 in
theorem cut_head:∃r,behindMainWord (wordsSigns Tryz.prog.initOrder.toList)= "cut".toList::r:=by
 have h:=chars_of (s:=Tryz.prog.initOrder) rfl
 have hh:(behindMainWord (wordsSigns Tryz.prog.initOrder.toList)).head?=some "cut".toList:=by
  rw[h];refine Eq.trans ?_ (Eq.refl _);kernel_rfl
 exact head_cons hh
theorem may_enter:Tryz.prog.mayEnter=true:=by
 obtain⟨r,hr⟩:=cut_head;exact mayEnter_of hr (by kernel_rfl) (by kernel_rfl) (by kernel_rfl)
theorem lifts_final:Tryz.prog.liftsFinal=false:=by
 obtain⟨r,hr⟩:=cut_head;exact lifts_of hr
theorem make_cut:Tryz.prog.make=some .cut:=by
 obtain⟨r,hr⟩:=cut_head;exact make_of hr
end Go.Proofs.YtfbnokjdkhcgoaaGreatDoor
namespace Go.Proofs.YtfbnokjdkhcgoaaGreatDoor
open Go.ChangeShapes Go.WideShapes Go.ChangeAt Go.RowKit Go.Joins
theorem own_:ownKnob Tryz.prog.godebug=none:=by kernel_rfl
theorem laidOut:laidOutB Tryz.prog=true:=by kernel_rfl
theorem ce_int:Program.cellsOf Tryz.prog 3=1:=by kernel_rfl
theorem ce_bool:Program.cellsOf Tryz.prog 4=1:=by kernel_rfl
section
variable {H : Type} {enc : TypeId × Value → H} {w : World} {base : Nat} {spare : Nat → Bool} {held : Bool}
instance :Inhabited Fr:=⟨frz⟩
instance :Inhabited Ln:=⟨lnz⟩
end
end Go.Proofs.YtfbnokjdkhcgoaaGreatDoor
namespace Go.Proofs.YtfbnokjdkhcgoaaGreatDoor
open Go.ChangeShapes Go.WideShapes Go.ChangeAt Go.RowKit Go.Joins
theorem free_named:Tryz.prog.globalNamed "loop.example/invertedpages/impl.free"=some 0:=by kernel_rfl
theorem free_type:(Tryz.prog.globals[0]?).map (·.type)=some 80:=by kernel_rfl
theorem ce_keyI:Program.cellsOf Tryz.prog 54=2:=by kernel_rfl
theorem ce_frameI:Program.cellsOf Tryz.prog 80=5:=by kernel_rfl
def freeCells:Array Value:=#[.bool false,.int .i64 0,.int .i64 0,.int .i64 0,.int .i64 (-1)]
section
variable {H : Type} {enc : TypeId × Value → H} {w : World} {base : Nat} {spare : Nat → Bool} {held : Bool}
theorem fldx{fs:Array Field}{t:TypeId}{fuel:Nat}{cs:List Value}{x:DataW H×List MemPlace}(ht:Tryz.prog.underlying t=some (.struct fs))(h:DataW.trod enc Tryz.prog w base spare held fuel t cs=some x):
  cs.length=Program.cellsOf Tryz.prog t∧∃(n:Nat) (xs:List (DataW H×List MemPlace)),xs.length=fs.size∧x.1=.agg (xs.map (·.1))∧∀(i:Nat) (f:Field),fs[i]?=some f→∀(ty off k:Nat),f.type=ty→f.offset=off→Program.cellsOf Tryz.prog ty=k→DataW.trod enc Tryz.prog w base spare held n ty ((cs.drop off).take k)=xs[i]?:=by
 obtain⟨xs,n,_,rfl,hl,hxl,hf⟩:=DataW.trod_struct ht h;refine⟨hl,n,xs,hxl,rfl,fun i f hi ty off k e1 e2 e3=> ?_⟩;subst e1 e2 e3;exact hf i f hi
theorem keyd_of{fuel:Nat}{cs:List Value}{x:DataW H×List MemPlace}{a b:Int}(h:DataW.trod enc Tryz.prog w base spare held fuel 54 cs=some x)(hx:x.1=.agg [.lit (.int .i64 a),.lit (.int .i64 b)]):cs=[.int .i64 a,.int .i64 b]:=by
 obtain⟨hl,n,xs,hxl,he,hf⟩:=fldx Tryz.underlying54 h;rw[ce_keyI]at hl
 match cs,hl,xs,hxl with
 | [c0,c1],_,[x0,x1],_=>
  have h0:=hf 0 _ rfl 3 0 1 rfl rfl ce_int;have h1:=hf 1 _ rfl 3 1 1 rfl rfl ce_int;obtain⟨a0,e0,f0,_⟩:=DataW.trod_int (cs:=[c0]) (x:=x0) Tryz.underlying3 h0;obtain⟨a1,e1,f1,_⟩:=DataW.trod_int (cs:=[c1]) (x:=x1) Tryz.underlying3 h1;rw[he]at hx;subst f0 f1;simp at hx e0 e1;obtain⟨rfl,rfl⟩:=hx;rw[e0,e1]
theorem free_of{fuel:Nat}{cs:List Value}{x:DataW H×List MemPlace}(h:DataW.trod enc Tryz.prog w base spare held fuel 80 cs=some x)(hx:x.1=Rows.laid_loop_example_invertedpages_impl_free):cs=freeCells.toList:=by
 obtain⟨hl,n,xs,hxl,he,hf⟩:=fldx Tryz.underlying80 h;rw[ce_frameI]at hl
 match cs,hl,xs,hxl with
 | [c0,c1,c2,c3,c4],_,[x0,x1,x2,x3],_=>
  have h0:=hf 0 _ rfl 4 0 1 rfl rfl ce_bool;have h1:=hf 1 _ rfl 54 1 2 rfl rfl ce_keyI;have h2:=hf 2 _ rfl 3 3 1 rfl rfl ce_int;have h3:=hf 3 _ rfl 3 4 1 rfl rfl ce_int;obtain⟨a0,e0,f0⟩:=DataW.trod_bool (cs:=[c0]) (x:=x0) Tryz.underlying4 h0;obtain⟨a2,e2,f2,_⟩:=DataW.trod_int (cs:=[c3]) (x:=x2) Tryz.underlying3 h2;obtain⟨a3,e3,f3,_⟩:=DataW.trod_int (cs:=[c4]) (x:=x3) Tryz.underlying3 h3;rw[he]at hx;subst f0 f2 f3;simp[Rows.laid_loop_example_invertedpages_impl_free]at hx e0 e2 e3;obtain⟨rfl,hk,rfl,rfl⟩:=hx;have hk2:=keyd_of (cs:=[c1,c2]) (x:=x1) h1 hk;simp at hk2;obtain⟨rfl,rfl⟩:=hk2;rw[e0,e2,e3];rfl
end
theorem free_of_laid{W:World}(h:laidMet Tryz.prog [("loop.example/invertedpages/impl.free",Rows.laid_loop_example_invertedpages_impl_free)] W):W.var? Tryz.prog "loop.example/invertedpages/impl.free"=some freeCells∧Free W:=by
 obtain⟨ps,⟨g,t,cs,fuel,p,q,hg,ht,hvar,hd,_,_⟩,_⟩:=h;obtain rfl:=Option.some.inj (free_named.symm.trans hg);obtain rfl:=Option.some.inj (free_type.symm.trans ht);obtain⟨l⟩:=cs;have hc:=free_of hd rfl;simp only at hc;subst hc;have e:∀i,W.cell? ⟨0,i,none⟩=freeCells[i]?:=fun i=>World.var?_cell hg hvar i
 refine⟨hvar,World.block_lt_of_cell? W _ (e 0),e 0,e 1,e 2,e 3,e 4⟩
noncomputable def laidWorld(os:Os):World:=
 { World.holding Tryz.prog os ⟨#[],#[],[]⟩with heap:=(World.holding Tryz.prog os ⟨#[],#[],[]⟩).heap.modify 0 fun
   | .cells _ t frozen=>.cells freeCells t frozen
   | o=>o}
theorem laid_met(os:Os)(args:Array Value):laidMet Tryz.prog [("loop.example/invertedpages/impl.free",Rows.laid_loop_example_invertedpages_impl_free)] ((laidWorld os).forCall (fun _ _=>0) ⟨#[],args,[]⟩).memory:=
 laidMet_of_run (ps:=[.cell 0 0,.cell 0 1,.cell 0 2,.cell 0 3,.cell 0 4]) 8 (by kernel_rfl) (by kernel_rfl) (by kernel_rfl)
end Go.Proofs.YtfbnokjdkhcgoaaGreatDoor
namespace Go.Proofs.YtfbnokjdkhcgoaaGreatDoor
open Go.RowKit
theorem tlast_top{os:List (Int×Int)}{n:Int}:∀{k:Nat},tok os n k=true→∀(j:Nat) (q:Int×Int),j<k→os[j]?=some q→q.2≤tlast os k
  | 0,_,j,q,hj,_=>absurd hj (by omega)
  | k +1,h,j,q,hj,e=>by
    obtain⟨o,eo,_,_,_,h1,_⟩:=tok_at h (Nat.lt_succ_self k);have h2:tok os n k=true:=by unfold tok at h;rw[Bool.and_eq_true]at h;exact h.1
    rw[tlast_of eo];rcases Nat.lt_or_ge j k with hlt | hge
    · have:=tlast_top h2 j q hlt e
      omega
    · obtain rfl:j=k:=by omega
      rw[eo]at e;injection e with e;rw[e];exact Int.le_refl _
theorem tok_pre{os:List (Int×Int)}{n:Int}{m:Nat}:∀{k:Nat},k≤m→tok os n m=true→tok os n k=true:=by
 induction m with
 | zero=>
  intro k hk h;obtain rfl:k=0:=by omega
  rfl
 | succ m ih=>
  intro k hk h;rcases Nat.lt_or_ge k (m+1)with hlt | hge
  ·exact ih (by omega) (by unfold tok at h;rw[Bool.and_eq_true]at h;exact h.1)
  ·obtain rfl:k=m+1:=by omega
   exact h
theorem spc_own{g:Tg}(hg:tgv g=true){k:Nat}{o:Int×Int}(eo:g.os[k]?=some o):spc g.os o.2=some k:=by
 obtain⟨_,ht⟩:=tgv_parts hg;have hk:=(List.getElem?_eq_some_iff.1 eo).1;refine spc_at eo (fun j q hj e hq=> ?_) rfl;obtain⟨o',eo',_,_,_,h1,_⟩:=tok_at ht hk;rw[eo]at eo';injection eo' with eo';have:=tlast_top (tok_pre (Nat.le_of_lt hk) ht) j q hj e;rw[eo']at hq;omega
def tln(m:Ma)(p fr:Int):Ln:=⟨true,tagT m m.sp p,p,fr,(m.t.fs.getD fr.toNat frz).r,false⟩
theorem MV.tag{m:Ma}(M:MV m)(p:Int):((128≤p)↔tagT m m.sp p=-1)∧(∀x:Ln,x.p=p→x.t=tagT m m.sp p→∃s,lnSp m x=some s∧keyI s p=keyI m.sp p):=by
 obtain⟨k,o,hk,eo,ho⟩:=ownI_lt M.o;obtain⟨b1,b2⟩:=tgO_yes M.g hk eo;obtain⟨_,ht⟩:=tgv_parts M.g;obtain⟨o',eo',_,q1,q2,_⟩:=tok_at ht (List.getElem?_eq_some_iff.1 eo).1;rw[eo]at eo';injection eo' with eo';subst eo';by_cases h:128≤p
 ·have e1:tagT m m.sp p=-1:=if_pos h;refine⟨⟨fun _=>e1,fun _=>h⟩,fun x hx _=>⟨0,lnSp_sh (by rw[hx];exact h), ?_⟩⟩;unfold keyI;rw[if_pos h,if_pos h]
 ·have e1:tagT m m.sp p=o.2:=by unfold tagT;rw[if_neg h,b2]
  refine⟨⟨fun h'=>absurd h' h,fun h'=>by rw[e1]at h';omega⟩,fun x hx hxt=>⟨m.sp, ?_,rfl⟩⟩;unfold lnSp;rw[if_neg (by rw[hx];exact h),hxt,e1,spc_own M.g eo];simp only;rw[List.getD_eq_getElem?_getD,eo];simp only[Option.getD_some];rw[ho]
theorem MV.fill{m:Ma}(M:MV m){p:Int}(hp:inR p 256=true)(hmiss:¬0≤plcI m.c.ls (tagT m m.sp p) p){k:Nat}(hf:fnd m.t.fs (keyI m.sp p) p=some k):
  filOK m.c (tln m p k)=true∧mav {m with c:=filC m.c (tln m p k)}=true:=by
 obtain⟨f,ef,hu,hfk⟩:=fnd_some hf;obtain⟨htag,hsp⟩:=M.tag p;have hkl:=(List.getElem?_eq_some_iff.1 ef).1;have hr:(m.t.fs.getD (k:Int).toNat frz).r=f.r:=by rw[Int.toNat_natCast,getD_at ef]
 have hfr:=M.t.ok k f ef;unfold frok at hfr;rw[hu,if_pos rfl,Bool.and_eq_true]at hfr
 have hl:lnok (tln m p k)=true:=by
  unfold lnok tln;simp only[if_true,Bool.and_eq_true];refine⟨⟨⟨tagT_ok M.g _ _,hp⟩,inR_iff.2 ⟨by omega, ?_⟩⟩,by rw[hr];exact hfr.2⟩;have:=M.t.sz;omega
 have hcl:∀(i:Nat) (y:Ln),m.c.ls[i]?=some y→clash (tln m p k) y=false:=by
  intro i y e;refine bool_ff fun h=> ?_
  unfold clash tln at h;simp only[Bool.and_eq_true,Bool.or_eq_true,decide_eq_true_eq]at h;obtain⟨⟨⟨_,hv⟩,hyp⟩,ht⟩:=h
  have hfit:fits (tagT m m.sp p) p y=true:=by
   refine fits_iff.2 ⟨hv,hyp.symm, ?_⟩;rcases ht with(ht | ht) | ht
   ·exact .inl ht.symm
   ·obtain⟨_,_,_,_,_,_,h5,_⟩:=lnM_some hv (M.l i y e);exact .inr (h5.1 (by rw[←hyp];exact htag.2 ht))
   ·exact .inr ht
  rw[plcI_none hmiss e]at hfit;cases hfit
 have hcv:=M.c.fill hl rfl hcl;refine⟨?_, ?_⟩
 ·unfold filOK;rw[cav_CV.2 M.c,hl,cav_CV.2 hcv,show(tln m p k).t=tagT m m.sp p from rfl,show(tln m p k).p=p from rfl,decide_eq_false hmiss];rfl
 ·refine mav_MV.2 ⟨M.t,hcv,M.g,M.o,M.f,fun i x hi=> ?_⟩;simp only[filC]at hi;rw[List.getElem?_set]at hi;have hvi:=vic_in M.c;split at hi
  ·injection hi with hi;rw[←hi];obtain⟨s,hs1,hs2⟩:=hsp (tln m p k) rfl rfl;exact lnM_mk (m:={m with c:=filC m.c (tln m p k)}) (s:=s) (i:=k) hs1 (by show fnd m.t.fs (keyI s p) p=some k;rw[hs2];exact hf) rfl (by show(m.t.fs.getD k frz).r=(m.t.fs.getD (k:Int).toNat frz).r;rw[Int.toNat_natCast]) htag (fun h=>by cases h)
  ·exact M.l i x hi
def tchO(m:Ma)(p n:Int):Bool:=mav m && inR p 256 && inR n 8
def tchH(m:Ma)(p:Int):Int:=plcI m.c.ls (tagT m m.sp p) p
def tchK(m:Ma)(p:Int):Int:=fndI m.t.fs (keyI m.sp p) p
def tchFr(m:Ma)(p:Int):Int:=if 0≤tchH m p then(m.c.ls.getD (tchH m p).toNat lnz).f else if 0≤tchK m p then tchK m p else 0
def tchV(m:Ma)(p n:Int):Ma:=if tchO m p n=true then(if 0≤tchH m p then m else if 0≤tchK m p then {m with c:=filC m.c (tln m p (tchK m p))}else m)else maz
def tchF(m:Ma)(p n:Int):Int:=if tchO m p n=true then tchFr m p else 0
def tchA(m:Ma)(p n:Int):Bool:=alw (m.t.fs.getD (tchFr m p).toNat frz).r n
def tchR(m:Ma)(p n:Int):Int:=if tchO m p n=true then(if 0≤tchH m p then(if tchA m p n=true then 1 else 4)else if 0≤tchK m p then(if tchA m p n=true then 2 else 4)else 3)else 0
theorem tchO_no{m:Ma}{p n:Int}(h:tchO m p n=false):tchV m p n=maz∧tchF m p n=0∧tchR m p n=0:=by
 unfold tchV tchF tchR;rw[h];exact⟨rfl,rfl,rfl⟩
theorem fndI_fnd{fs:List Fr}{s p:Int}(h:0≤fndI fs s p):∃k:Nat,fndI fs s p=(k:Int)∧fnd fs s p=some k:=by
 unfold fndI at h⊢
 cases e:fnd fs s p with
 | none=>rw[e]at h;simp at h
 | some i=>exact⟨i,rfl,rfl⟩
theorem tchO_parts{m:Ma}{p n:Int}(h:tchO m p n=true):MV m∧inR p 256=true∧inR n 8=true:=by
 unfold tchO at h;simp only[Bool.and_eq_true]at h;exact⟨mav_MV.1 h.1.1,h.1.2,h.2⟩
theorem mav_tch{m:Ma}{p n:Int}(h:tchO m p n=true):mav (tchV m p n)=true:=by
 obtain⟨M,hp,hn⟩:=tchO_parts h;unfold tchV;rw[if_pos h];split
 ·exact mav_MV.2 M
 ·rename_i h1;split
  ·rename_i h2;obtain⟨k,hk,hf⟩:=fndI_fnd (show 0≤fndI m.t.fs (keyI m.sp p) p from h2);have:=(M.fill hp h1 hf).2;rw[show tchK m p=(k:Int)from hk];exact this
  ·exact mav_MV.2 M
theorem MV.hit{m:Ma}(M:MV m){p:Int}(h:0≤tchH m p):∃(k i:Nat) (x:Ln) (f:Fr),tchH m p=(k:Int)∧m.c.ls[k]?=some x∧x.f=(i:Int)∧m.t.fs[i]?=some f∧f.used=true∧f.r=x.r∧tchFr m p=(i:Int)∧fnd m.t.fs (keyI m.sp p) p=some i:=by
 obtain⟨k,x,hk,ex,hx⟩:=plcI_lt (show 0≤plcI m.c.ls (tagT m m.sp p) p from h);obtain⟨h1,h2,h3⟩:=fits_iff.1 hx;obtain⟨s,i,a1,a2,a3,a4,a5,a6⟩:=lnM_some h1 (M.l k x ex);obtain⟨f,ef,hu,hfk⟩:=fnd_some a2;rw[getD_at ef]at a4;have hkk:tchH m p=(k:Int):=hk;refine⟨k,i,x,f,hkk,ex,a3.symm,ef,hu,a4, ?_, ?_⟩
 ·unfold tchFr;rw[if_pos h,hkk,Int.toNat_natCast,List.getD_eq_getElem?_getD,ex];exact a3.symm
 ·rw[←h2]
  have hks:keyI s x.p=keyI m.sp x.p:=by
   by_cases h128:128≤x.p
   ·unfold keyI;rw[if_pos h128,if_pos h128]
   ·rcases h3 with h3 | h3
    ·obtain⟨s',hs1,hs2⟩:=(M.tag p).2 x h2 h3;rw[a1]at hs1;injection hs1 with hs1;rw[hs1,h2];exact hs2
    ·exact absurd (a5.2 h3) h128
  rw[←hks];exact a2
theorem tch_t{m:Ma}{p n:Int}(h:tchO m p n=true):(tchV m p n).t=m.t∧(tchV m p n).g=m.g∧(tchV m p n).sp=m.sp:=by
 unfold tchV;rw[if_pos h];split
 ·exact⟨rfl,rfl,rfl⟩
 ·split<;>exact⟨rfl,rfl,rfl⟩
theorem l6Fill_any(vb vf vl vo:Value)(m:Ma)(p:Int)(k:Nat)(w:World)(hM:MaR w vb vf vl vo m)(hm:mav m=true)(hk:k<m.t.fs.length)(hok:filOK m.c (tln m p k)=true):
  Calls Tryz.prog 100 #[.agg #[vb,vf,vl,.int .i64 m.c.hand,.int .i64 m.g.count,.int .i64 m.g.next,.int .i64 m.g.round,vo,.int .i64 m.sp],.int .i64 p,.int .i64 k,.int .i64 (tagT m m.sp p)] w (Post2 fun v w'=>∃v1 v2 v3 v4,v=.tuple #[.agg #[v1,v2,v3,.int .i64 ({m with c:=filC m.c (tln m p k)}:Ma).c.hand,.int .i64 ({m with c:=filC m.c (tln m p k)}:Ma).g.count,.int .i64 ({m with c:=filC m.c (tln m p k)}:Ma).g.next,.int .i64 ({m with c:=filC m.c (tln m p k)}:Ma).g.round,v4,.int .i64 ({m with c:=filC m.c (tln m p k)}:Ma).sp],.int .i64 (vic m.c)]∧MaM w.heap.size w' v1 v2 v3 v4 {m with c:=filC m.c (tln m p k)}∧Below w.heap.size w w'):=by
 obtain⟨a1,a2,a3,a4⟩:=mav_len hm;obtain⟨W0,hW,hbx,hbo,hb0,hs0⟩:=box2 w #[vb,vf,vl,.int .i64 m.c.hand,.int .i64 m.g.count,.int .i64 m.g.next,.int .i64 m.g.round,vo,.int .i64 m.sp] 34 #[.slice none 0 0,.slice none 0 0,.slice none 0 0,.int .i64 0,.int .i64 0,.int .i64 0,.int .i64 0,.slice none 0 0,.int .i64 0] 34;obtain⟨m0q,m1q,m2q,m3q,m4q,m5q,m6q,m7q,m8q⟩:=cells9 hbx;have HX0:=Hd hbx;have HO0:=Hd hbo;have HB0:=Hd hb0;have HM:=Hd hM;clear hbx hbo hb0 hM;clear m0q m1q m2q m3q m4q m5q m6q m7q m8q
 go_enter Tryz.func100,Tryz.ntmps100
 obtain⟨m00,m10,m20,m30,m40,m50,m60,m70,m80⟩:=cells9 HX0.o;go_wp2_with fail
 refine(l6Copy_any vb vf vl vo m _ (HM.o.now HB0.o) a1 a2 a3 a4).mono ?_;rintro e w3 ⟨_,rfl,q1,q2,q3,q4,rfl,hM3,hb3⟩;have hM3':=hM3.mono (B':=w.heap.size+2) (Nat.le_of_eq hs0.symm);have hs3:w.heap.size+2≤w3.heap.size:=Nat.le_trans (Nat.le_of_eq hs0.symm) hb3.size;obtain⟨B1,d1,rfl,_⟩:=hM3.t.b;obtain⟨B2,d2,rfl,_⟩:=hM3.t.f;obtain⟨B3,d3,rfl,_⟩:=hM3.l;obtain⟨B4,d4,rfl,_⟩:=hM3.o;have HX3:=Hd (HX0.o.below hb3);have HR3:=Hd (HO0.o.below hb3);have HB3:=Hd (bT HB0.o hb3);clear m00 m10 m20 m30 m40 m50 m60 m70 m80;have ho4:=Own.new_ w3 34 #[.slice B1 m.t.bs.length d1,.slice B2 m.t.fs.length d2,.slice B3 m.c.ls.length d3,.int .i64 m.c.hand,.int .i64 m.g.count,.int .i64 m.g.next,.int .i64 m.g.round,.slice B4 m.g.os.length d4,.int .i64 m.sp];have hb4:Below w3.heap.size w3 (w3.alloc (.cells #[.slice B1 m.t.bs.length d1,.slice B2 m.t.fs.length d2,.slice B3 m.c.ls.length d3,.int .i64 m.c.hand,.int .i64 m.g.count,.int .i64 m.g.next,.int .i64 m.g.round,.slice B4 m.g.os.length d4,.int .i64 m.sp] 34)):=bA bR;generalize hW4:w3.alloc (.cells #[.slice B1 m.t.bs.length d1,.slice B2 m.t.fs.length d2,.slice B3 m.c.ls.length d3,.int .i64 m.c.hand,.int .i64 m.g.count,.int .i64 m.g.next,.int .i64 m.g.round,.slice B4 m.g.os.length d4,.int .i64 m.sp] 34)=w4 at ho4 hb4;have HM4:=Hd (hM3'.now hb4);have HO4:=Hd ho4;have HX4:=Hd (HX3.o.below hb4);have HR4:=Hd (HR3.o.below hb4);have HB4:=Hd (bT HB3.o hb4);have hs4:=hb4.size;clear hM3 hM3' ho4 hb3 hb4
 obtain⟨f,ef⟩:∃f,m.t.fs[k]?=some f:=⟨_,List.getElem?_eq_getElem hk⟩
 have HTL:Hi (tln m p k=⟨true,tagT m m.sp p,p,k,f.r,false⟩):=by show _=_;unfold tln;rw[Int.toNat_natCast,getD_at ef]
 obtain⟨Af,cf,rfl,hfc,hfm,hF⟩:=HM.o.t.f;obtain⟨bf,of,rfl,hbf,y0,y1,y2,y3,y4⟩:=(hF.now (Nat.le_refl _) HB4.o).fr ef;have m04:=HX4.c 0 (vb) rfl;have m14:=HX4.c 1 (.slice (some ⟨bf,of,none⟩) m.t.fs.length cf) rfl;have m24:=HX4.c 2 (vl) rfl;have m34:=HX4.c 3 (.int .i64 m.c.hand) rfl;have hlx:=HX4.o.lt;have hlo:=HO4.o.lt;clear y0 y1 y2 y4 ef hF;go_wp2_with fail
 have hox:=Own.new_ w4 50 #[.bool true,.int .i64 (tagT m m.sp p),.int .i64 p,.int .i64 k,.int .i64 f.r,.bool false];have hb5:Below w4.heap.size w4 (w4.alloc (.cells #[.bool true,.int .i64 (tagT m m.sp p),.int .i64 p,.int .i64 k,.int .i64 f.r,.bool false] 50)):=bA bR;generalize hW5:w4.alloc (.cells #[.bool true,.int .i64 (tagT m m.sp p),.int .i64 p,.int .i64 k,.int .i64 f.r,.bool false] 50)=w5 at hox hb5⊢;have HM5:=Hd (HM4.o.now hb5);have HO5:=Hd (HO4.o.below hb5);have HX5:=Hd (HX4.o.below hb5);have HR5:=Hd (HR4.o.below hb5);have HB5:=Hd (bT HB4.o hb5);have hs5:=hb5.size;have HFL:=Hd (sFillLine_any vl m.c (tln m p k) w5 (HM.o.l.now HB5.o));rw[filOK_true hok,hok,show filA m.c (tln m p k)=vic m.c by unfold filA;rw[hok,if_pos rfl]]at HFL;clear hb5 hox;have HFL2:=HFL.o;rw[show lnV (tln m p k)=.agg #[.bool true,.int .i64 (tagT m m.sp p),.int .i64 p,.int .i64 k,.int .i64 f.r,.bool false]by unfold lnV;rw[HTL.o]]at HFL2;have HFL:=Hd HFL2;clear HFL2;generalize hVC:filC m.c (tln m p k)=V at*;refine HFL.o.mono ?_;rintro e w6 ⟨_,rfl,v1,rfl,hL6,hb6⟩;obtain⟨B5,d5,rfl,hx5,hy5,hz5⟩:=hL6;have ho7:=Own.new_ w6 29 #[.slice B5 V.ls.length d5,.int .i64 V.hand];have hb7:Below w6.heap.size w6 (w6.alloc (.cells #[.slice B5 V.ls.length d5,.int .i64 V.hand] 29)):=bA bR
 have HL6:Hi (SlM lnE 50 w5.heap.size w6 (.slice B5 V.ls.length d5) V.ls):=⟨B5,d5,rfl,hx5,hy5,hz5⟩
 generalize hW7:w6.alloc (.cells #[.slice B5 V.ls.length d5,.int .i64 V.hand] 29)=w7 at ho7 hb7;have HM7:=Hd (HM5.o.now (bT hb6 hb7));have HO7:=Hd (HO5.o.below (bT hb6 hb7));have HR7:=Hd (HR5.o.below (bT hb6 hb7));have HB7:=Hd (bT HB5.o (bT hb6 hb7));have HL7:=Hd ((HL6.o.now hb7).mono (show w.heap.size+2≤w5.heap.size by omega));have HC7:=Hd ho7;clear ho7 HL6 hb6 hb7 m04 m14 m24 m34 y3 HFL;have c0:=HC7.c 0 (.slice B5 V.ls.length d5) rfl;have c1:=HC7.c 1 (.int .i64 V.hand) rfl;have hlc:=HC7.o.lt;obtain⟨r0x,r1x,r2x,r3x,r4x,r5x,r6x,r7x,r8x⟩:=cells9 HR7.o;obtain⟨z0x,z1x,z2x,z3x,z4x,z5x,z6x,z7x,z8x⟩:=free9 HR7.o;obtain⟨p0o,p1o,p2o,p3o,p4o,p5o,p6o,p7o,p8o⟩:=cells9 HO7.o;have g2:=HO7.o.free 2;have g3:=HO7.o.free 3;have hlr:=HR7.o.lt;have hlo7:=HO7.o.lt;have hrn:w.heap.size+1≠w3.heap.size:=by omega
 have hrm:w3.heap.size≠w.heap.size+1:=by omega
 have hcn:w6.heap.size≠w3.heap.size:=HC7.o.ne HO7.o (by decide);have hcm:w3.heap.size≠w6.heap.size:=fun h=>hcn h.symm
 go_wp2;have g1:=(HR7.o.far (p:=⟨w3.heap.size,2,none⟩) (u:=.slice B5 V.ls.length d5) hrn).far (p:=⟨w3.heap.size,3,none⟩) (u:=.int .i64 V.hand) hrn
 have hmm:MaM (w.heap.size+2) w7 (.slice B1 m.t.bs.length d1) (.slice B2 m.t.fs.length d2) (.slice B5 V.ls.length d5) (.slice B4 m.g.os.length d4) {m with c:=V}:=⟨HM7.o.t,HL7.o,HM7.o.o⟩
 have hmm2:=(hmm.farT (u:=.slice B5 V.ls.length d5) (i:=2) HO7.o).farT (u:=.int .i64 V.hand) (i:=3) (HO7.o.set_ 2 (.slice B5 V.ls.length d5));have o3:=g1.set9 (.slice B1 m.t.bs.length d1) (.slice B2 m.t.fs.length d2) (.slice B5 V.ls.length d5) (.int .i64 V.hand) (.int .i64 m.g.count) (.int .i64 m.g.next) (.int .i64 m.g.round) (.slice B4 m.g.os.length d4) (.int .i64 m.sp);obtain⟨p0t,p1t,p2t,p3t,p4t,p5t,p6t,p7t,p8t⟩:=cells9 o3;refine bodyPost_ret (v:=.tuple #[.agg #[.slice B1 m.t.bs.length d1,.slice B2 m.t.fs.length d2,.slice B5 V.ls.length d5,.int .i64 ({m with c:=V}:Ma).c.hand,.int .i64 ({m with c:=V}:Ma).g.count,.int .i64 ({m with c:=V}:Ma).g.next,.int .i64 ({m with c:=V}:Ma).g.round,.slice B4 m.g.os.length d4,.int .i64 ({m with c:=V}:Ma).sp],.int .i64 (vic m.c)]) (by simp[results,Tryz.results100,go_sem,p0t,p1t,p2t,p3t,p4t,p5t,p6t,p7t,p8t]) rfl ⟨_,rfl,_,_,_,_,by rw[hVC], ?_, ?_⟩
 ·rw[hVC];exact(hmm2.far9 g1 _ _ _ _ _ _ _ _ _).mono (by omega)
 ·repeat (refine bS ?_ (by simp<;>omega))
  exact HB7.o
theorem fOK_page{t:Tab}{s p:Int}(h:fOK t s p=true):inR p 256=true:=by
 unfold fOK kval at h;simp only[Bool.and_eq_true]at h;exact h.1.2.2
theorem sTakePage_any(vb vf vl vo:Value)(m:Ma)(s p:Int)(w:World)(hM:MaR w vb vf vl vo m):
  Calls Tryz.prog 96 #[.agg #[vb,vf,vl,.int .i64 m.c.hand,.int .i64 m.g.count,.int .i64 m.g.next,.int .i64 m.g.round,vo,.int .i64 m.sp],.agg #[.int .i64 s,.int .i64 p]] w (Post2 fun v w'=>∃v1 v2 v3 v4,v=.tuple #[.agg #[v1,v2,v3,.int .i64 (takV m s p).c.hand,.int .i64 (takV m s p).g.count,.int .i64 (takV m s p).g.next,.int .i64 (takV m s p).g.round,v4,.int .i64 (takV m s p).sp],.bool (takO m s p)]∧MaM w.heap.size w' v1 v2 v3 v4 (takV m s p)∧Below w.heap.size w w'):=by
 obtain⟨W0,hW,hbx,hbk,hbo,hb0,hs0⟩:=box3 w #[vb,vf,vl,.int .i64 m.c.hand,.int .i64 m.g.count,.int .i64 m.g.next,.int .i64 m.g.round,vo,.int .i64 m.sp] 34 #[.int .i64 s,.int .i64 p] 54 #[.slice none 0 0,.slice none 0 0,.slice none 0 0,.int .i64 0,.int .i64 0,.int .i64 0,.int .i64 0,.slice none 0 0,.int .i64 0] 34;have HX0:=Hd hbx;have HK0:=Hd hbk;have HR0:=Hd hbo;have HB0:=Hd hb0;have HS0:Hi (w.heap.size+3≤W0.heap.size):=Nat.le_of_eq hs0.symm;clear hbx hbk hbo hb0;have HM:=Hd hM;clear hM;obtain⟨m00,m10,m20,m30,m40,m50,m60,m70,m80⟩:=cells9 HX0.o
 go_enter Tryz.func96,Tryz.ntmps96
 go_wp2_with fail
 refine(sMachineValid_any vb vf vl vo m _ (HM.o.now HB0.o)).mono ?_;rintro e w1 ⟨rfl,hb1⟩;have HX1:=Hd (HX0.o.below hb1);have HK1:=Hd (HK0.o.below hb1);have HR1:=Hd (HR0.o.below hb1);have HB1:=Hd (bT HB0.o hb1);have HS1:=Hd (Nat.le_trans HS0.o hb1.size);clear hb1;clear m00 m10 m20 m30 m40 m50 m60 m70 m80
 cases h1:mav m with
 | false=>
  have HA:Hi (takO m s p=false):=by show _=_;unfold takO;rw[h1];rfl
  have HV:=Hd (takO_false HA.o);obtain⟨r0x,r1x,r2x,r3x,r4x,r5x,r6x,r7x,r8x⟩:=cells9 HR1.o;obtain⟨z0x,z1x,z2x,z3x,z4x,z5x,z6x,z7x,z8x⟩:=free9 HR1.o;go_wp2;obtain⟨t0,t1,t2,t3,t4,t5,t6,t7,t8⟩:=cells9 (set9z HR1.o);refine bodyPost_ret (v:=.tuple #[.agg #[.slice none 0 0,.slice none 0 0,.slice none 0 0,.int .i64 0,.int .i64 0,.int .i64 0,.int .i64 0,.slice none 0 0,.int .i64 0],.bool false]) (by simp[results,Tryz.results96,go_sem,t0,t1,t2,t3,t4,t5,t6,t7,t8]) rfl ⟨_,rfl,_,_,_,_,by rw[HA.o,HV.o];rfl,by rw[HV.o];exact mam_z, ?_⟩;repeat (refine bS ?_ (by simp<;>omega))
  exact HB1.o
 | true=>
  obtain⟨m01,m11,m21,m31,m41,m51,m61,m71,m81⟩:=cells9 HX1.o;have k01:=HK1.c 0 (.int .i64 s) rfl;have k11:=HK1.c 1 (.int .i64 p) rfl;go_wp2_with fail
  refine(sUnmapPage_any vb vf m.t s p _ (HM.o.t.now HB1.o)).mono ?_;rintro e w2 ⟨_,rfl,v1,v2,rfl,hT2,hb2⟩;obtain⟨A1,c1,rfl,_⟩:=hT2.b;obtain⟨A2,c2,rfl,_⟩:=hT2.f;have hs1:=HS1.o;have HX2:=Hd (HX1.o.below hb2);have HK2:=Hd (HK1.o.below hb2);have HR2:=Hd (HR1.o.below hb2);have HB2:=Hd (bT HB1.o hb2);have HS2:=Hd (Nat.le_trans HS1.o hb2.size);clear hb2;clear m01 m11 m21 m31 m41 m51 m61 m71 m81;clear k01 k11;have ho5:=Own.new_ w2 26 #[.slice A1 (unmV m.t s p).bs.length c1,.slice A2 (unmV m.t s p).fs.length c2];have hb5:Below w2.heap.size w2 (w2.alloc (.cells #[.slice A1 (unmV m.t s p).bs.length c1,.slice A2 (unmV m.t s p).fs.length c2] 26)):=bA bR;generalize hW5:w2.alloc (.cells #[.slice A1 (unmV m.t s p).bs.length c1,.slice A2 (unmV m.t s p).fs.length c2] 26)=w5 at ho5 hb5;have HT5:=Hd ((hT2.now hb5).mono hs1);have HY5:=Hd ho5;clear hT2 ho5;have HX5:=Hd (HX2.o.below hb5);have HK5:=Hd (HK2.o.below hb5);have HR5:=Hd (HR2.o.below hb5);have HB5:=Hd (bT HB2.o hb5);have HS5:=Hd (Nat.le_trans HS2.o hb5.size);clear hb5
  cases h3:fOK m.t s p with
  | false=>
   have HA:Hi (takO m s p=false):=by show _=_;unfold takO;rw[h3,Bool.and_false]
   have HV:=Hd (takO_false HA.o);obtain⟨r0x,r1x,r2x,r3x,r4x,r5x,r6x,r7x,r8x⟩:=cells9 HR5.o;obtain⟨z0x,z1x,z2x,z3x,z4x,z5x,z6x,z7x,z8x⟩:=free9 HR5.o;go_wp2;obtain⟨t0,t1,t2,t3,t4,t5,t6,t7,t8⟩:=cells9 (set9z HR5.o);refine bodyPost_ret (v:=.tuple #[.agg #[.slice none 0 0,.slice none 0 0,.slice none 0 0,.int .i64 0,.int .i64 0,.int .i64 0,.int .i64 0,.slice none 0 0,.int .i64 0],.bool false]) (by simp[results,Tryz.results96,go_sem,t0,t1,t2,t3,t4,t5,t6,t7,t8]) rfl ⟨_,rfl,_,_,_,_,by rw[HA.o,HV.o];rfl,by rw[HV.o];exact mam_z, ?_⟩;repeat (refine bS ?_ (by simp<;>omega))
   exact HB5.o
  | true=>
   have HA:Hi (takO m s p=true):=by show _=_;unfold takO;rw[h1,h3];rfl
   have HV:Hi (takV m s p=drpM m (unmV m.t s p) s p):=by show _=_;unfold takV;rw[HA.o];rfl
   obtain⟨m05,m15,m25,m35,m45,m55,m65,m75,m85⟩:=cells9 HX5.o;have k05:=HK5.c 0 (.int .i64 s) rfl;have k15:=HK5.c 1 (.int .i64 p) rfl;have hs5:=HS5.o;go_wp2_with fail
   refine(l6Forget_any vb vf vl vo m s p _ (HM.o.now HB5.o) h1 (fOK_page h3)).mono ?_;rintro e w3 ⟨_,rfl,q1,q2,q3,q4,rfl,hM3,hb3⟩;have HT3:=Hd (HT5.o.now hb3);have hy3:=HY5.o.below hb3;have u0:=hy3.cell_ 0 (v:=.slice A1 (unmV m.t s p).bs.length c1) rfl;have u1:=hy3.cell_ 1 (v:=.slice A2 (unmV m.t s p).fs.length c2) rfl;have hly:=hy3.lt;have HX3:=Hd (HX5.o.below hb3);have HK3:=Hd (HK5.o.below hb3);have HR3:=Hd (HR5.o.below hb3);have HB3:=Hd (bT HB5.o hb3);have HS3:=Hd (Nat.le_trans HS5.o hb3.size);clear hb3;clear m05 m15 m25 m35 m45 m55 m65 m75 m85;clear k05 k15;obtain⟨r0x,r1x,r2x,r3x,r4x,r5x,r6x,r7x,r8x⟩:=cells9 HR3.o;obtain⟨z0x,z1x,z2x,z3x,z4x,z5x,z6x,z7x,z8x⟩:=free9 HR3.o;have HM3:=Hd (hM3.mono hs5);obtain⟨B1,d1,rfl,_⟩:=hM3.t.b;obtain⟨B2,d2,rfl,_⟩:=hM3.t.f;obtain⟨B3,d3,rfl,_⟩:=hM3.l;obtain⟨B4,d4,rfl,_⟩:=hM3.o;clear hM3;have hl3:=HR3.o.lt;go_wp2;have o3:=(HR3.o.set9 (.slice A1 (unmV m.t s p).bs.length c1) (.slice A2 (unmV m.t s p).fs.length c2) (.slice B3 (drpM m m.t s p).c.ls.length d3) (.int .i64 (drpM m m.t s p).c.hand) (.int .i64 (drpM m m.t s p).g.count) (.int .i64 (drpM m m.t s p).g.next) (.int .i64 (drpM m m.t s p).g.round) (.slice B4 (drpM m m.t s p).g.os.length d4) (.int .i64 (drpM m m.t s p).sp)).alloc (o:=.cells #[.slice A1 (unmV m.t s p).bs.length c1,.slice A2 (unmV m.t s p).fs.length c2,.slice B3 (drpM m m.t s p).c.ls.length d3,.int .i64 (drpM m m.t s p).c.hand,.int .i64 (drpM m m.t s p).g.count,.int .i64 (drpM m m.t s p).g.next,.int .i64 (drpM m m.t s p).g.round,.slice B4 (drpM m m.t s p).g.os.length d4,.int .i64 (drpM m m.t s p).sp] 34);obtain⟨p0t,p1t,p2t,p3t,p4t,p5t,p6t,p7t,p8t⟩:=cells9 o3
   have hmm:MaM (w.heap.size+3) w3 (.slice A1 (unmV m.t s p).bs.length c1) (.slice A2 (unmV m.t s p).fs.length c2) (.slice B3 (drpM m m.t s p).c.ls.length d3) (.slice B4 (drpM m m.t s p).g.os.length d4) (drpM m (unmV m.t s p) s p):=⟨HT3.o,HM3.o.l,HM3.o.o⟩
   refine bodyPost_ret (v:=.tuple #[.agg #[.slice A1 (unmV m.t s p).bs.length c1,.slice A2 (unmV m.t s p).fs.length c2,.slice B3 (drpM m m.t s p).c.ls.length d3,.int .i64 (drpM m m.t s p).c.hand,.int .i64 (drpM m m.t s p).g.count,.int .i64 (drpM m m.t s p).g.next,.int .i64 (drpM m m.t s p).g.round,.slice B4 (drpM m m.t s p).g.os.length d4,.int .i64 (drpM m m.t s p).sp],.bool true]) (by simp[results,Tryz.results96,go_sem,p0t,p1t,p2t,p3t,p4t,p5t,p6t,p7t,p8t]) rfl ⟨_,rfl,_,_,_,_,by rw[HA.o,HV.o];rfl, ?_, ?_⟩
   ·rw[HV.o];exact((hmm.far9 HR3.o _ _ _ _ _ _ _ _ _).now (bA bR)).mono (by omega)
   ·refine bA ?_;repeat (refine bS ?_ (by simp<;>omega))
    exact HB3.o
end Go.Proofs.YtfbnokjdkhcgoaaGreatDoor
