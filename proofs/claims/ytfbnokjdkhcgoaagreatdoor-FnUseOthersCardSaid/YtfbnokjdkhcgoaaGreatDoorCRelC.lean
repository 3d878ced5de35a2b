/- A part of the proofs of this seat. -/
import Derived.ArgAppend
import Derived.Deep.CutRange
import Derived.Test.YtfbnokjdkhcgoaaGreatDoorCMeM
import Derived.Test.YtfbnokjdkhcgoaaGreatDoorCW5
import Derived.Test.YtfbnokjdkhcgoaaGreatDoorCStepG
set_option linter.unusedVariables false
set_option linter.unusedSimpArgs false
set_option maxRecDepth 1000000
set_option maxHeartbeats 16000000
namespace Go.Proofs.YtfbnokjdkhcgoaaGreatDoor
open Go.RowKit
inductive RL where
 | eq (u:Value)
 | ma (m:Ma)
 | tup (m:Ma) (rs:List Value)
 | box
 | boxed (m:Ma)
def RL.at_(b si j:Nat):RL→Value→World→Prop
 | .eq u0,u,_=>u=u0
 | .ma m,u,v=>∃e1 e2 e3 e4,u=.agg #[e1,e2,e3,.int .i64 m.c.hand,.int .i64 m.g.count,.int .i64 m.g.next,.int .i64 m.g.round,e4,.int .i64 m.sp]∧MaM b v e1 e2 e3 e4 m
 | .tup m rs,u,v=>∃e1 e2 e3 e4,u=.tuple (List.toArray (.agg #[e1,e2,e3,.int .i64 m.c.hand,.int .i64 m.g.count,.int .i64 m.g.next,.int .i64 m.g.round,e4,.int .i64 m.sp]::rs))∧MaM b v e1 e2 e3 e4 m
 | .box,u,v=>∃g a0 a1 a2 a3 a4 a5 a6 a7 a8,u=.pointer (some ⟨g,0,none⟩)∧b≤g∧Own v g 34 #[a0,a1,a2,a3,a4,a5,a6,a7,a8]
 | .boxed m,u,v=>j=si∧∃g e1 e2 e3 e4,u=.pointer (some ⟨g,0,none⟩)∧b≤g∧Own v g 34 #[e1,e2,e3,.int .i64 m.c.hand,.int .i64 m.g.count,.int .i64 m.g.next,.int .i64 m.g.round,e4,.int .i64 m.sp]∧MaM b v e1 e2 e3 e4 m
structure tS(t:TypeId)(kp:Nat→Prop)(B:Nat)(v v':World):Prop where
 bel:Below B v v'
 oth:Oth (fun e=>e=t) v v'
 own:∀g cs,kp g→Own v g t cs→Own v' g t cs
 any:∀g (cs:Array Value),Own v g t cs→∃cs':Array Value,cs'.size=cs.size∧Own v' g t cs'
section
variable {t : TypeId} {kp : Nat → Prop} {B : Nat} {v v' : World}
theorem tS.below(h:Below v.heap.size v v')(hB:B≤v.heap.size):tS t kp B v v':=
 ⟨h.mono hB,Oth.of_below h,fun _ _ _ o=>o.below h,fun _ _ o=>⟨_,rfl,o.below h⟩⟩
theorem setA_size:∀(us:List Value) (i:Nat) (cs:Array Value),(setA i us cs).size=cs.size
 | [],_,_=>rfl
 | u::us,i,cs=>by unfold setA;rw[setA_size us];simp
theorem tS.sets{g:Nat}{cs:Array Value}(ho:Own v g t cs)(hB:B≤g)(hk:¬kp g)(i:Nat)(us:List Value):tS t kp B v (Go.Proofs.YtfbnokjdkhcgoaaGreatDoor.sets g i us v):=by
 refine⟨?_,sets_oth ho,fun g' cs' h o=>Own.fars (fun e=>hk (by rw[←e];exact h)) o,fun g' cs' o=> ?_⟩
 ·have:∀(us:List Value) (i:Nat) (w:World),Below B v w→Below B v (Go.Proofs.YtfbnokjdkhcgoaaGreatDoor.sets g i us w):=by
   intro us
   induction us with
   | nil=>intro i w h;exact h
   | cons u us ih=>intro i w h;exact ih (i+1) _ (h.setCell (p:=⟨g,i,none⟩) hB u)
  exact this us i v (Below.refl B v)
 ·by_cases hg:g'=g
  ·subst hg
   have e:cs'=cs:=by
    unfold Own at o ho;rw[o]at ho;injection ho with ho;injection ho with ho _
   subst e;exact⟨_,setA_size us i cs',o.sets⟩
  ·exact⟨cs',rfl,Own.fars hg o⟩
end
def okT(t:TypeId):Prop:=t≠3∧t≠80∧t≠50∧t≠186∧t≠4
theorem okT_me:okT 37:=by unfold okT;decide
theorem okT_ma:okT 34:=by unfold okT;decide
structure KP(t:TypeId)(kp:Nat→Prop)(B:Nat) where
 P:Value→World→Prop
 keep:∀u v v',tS t kp B v v'→P u v→P u v'
section
variable {t : TypeId} {kp : Nat → Prop} {B : Nat} {v v' : World}
theorem MaM.tS{b:Nat}{v1 v2 v3 v4:Value}{m:Ma}(h:MaM b v v1 v2 v3 v4 m)(hk:okT t)(ht:tS t kp B v v'):MaM b v' v1 v2 v3 v4 m:=
 h.oth ht.oth (fun e=>hk.1 e.symm) (fun e=>hk.2.1 e.symm) (fun e=>hk.2.2.1 e.symm) (fun e=>hk.2.2.2.1 e.symm)
theorem MeM.tS{b:Nat}{v1 v2 v3 v4 v5:Value}{M:Me}(h:MeM b v v1 v2 v3 v4 v5 M)(hk:okT t)(ht:tS t kp B v v'):MeM b v' v1 v2 v3 v4 v5 M:=
 h.oth ht.oth (fun e=>hk.1 e.symm) (fun e=>hk.2.1 e.symm) (fun e=>hk.2.2.1 e.symm) (fun e=>hk.2.2.2.1 e.symm) (fun e=>hk.2.2.2.2 e.symm)
def KP.eq(u0:Value):KP t kp B:=⟨fun u _=>u=u0,fun _ _ _ _ h=>h⟩
def KP.tun(x:Int):KP t kp B:=⟨fun u _=>∃n:Int,u=.tuple #[.int .i64 x,.int .i64 n],fun _ _ _ _ h=>h⟩
def KP.int:KP t kp B:=⟨fun u _=>∃n:Int,u=.int .i64 n,fun _ _ _ _ h=>h⟩
def KP.ma(hk:okT t)(b:Nat)(m:Ma):KP t kp B:=⟨fun u v=>∃e1 e2 e3 e4,u=.agg #[e1,e2,e3,.int .i64 m.c.hand,.int .i64 m.g.count,.int .i64 m.g.next,.int .i64 m.g.round,e4,.int .i64 m.sp]∧MaM b v e1 e2 e3 e4 m,fun _ _ _ ht ⟨e1,e2,e3,e4,h,hm⟩=>⟨e1,e2,e3,e4,h,hm.tS hk ht⟩⟩
def KP.me(hk:okT t)(b:Nat)(M:Me):KP t kp B:=⟨fun u v=>∃e1 e2 e3 e4 e5,u=.agg #[e1,e2,e3,.int .i64 M.m.c.hand,.int .i64 M.m.g.count,.int .i64 M.m.g.next,.int .i64 M.m.g.round,e4,.int .i64 M.m.sp,e5,.int .i64 M.h]∧MeM b v e1 e2 e3 e4 e5 M,fun _ _ _ ht ⟨e1,e2,e3,e4,e5,h,hm⟩=>⟨e1,e2,e3,e4,e5,h,hm.tS hk ht⟩⟩
def KP.tup(hk:okT t)(b:Nat)(m:Ma)(rs:List Value):KP t kp B:=⟨fun u v=>∃e1 e2 e3 e4,u=.tuple (List.toArray (.agg #[e1,e2,e3,.int .i64 m.c.hand,.int .i64 m.g.count,.int .i64 m.g.next,.int .i64 m.g.round,e4,.int .i64 m.sp]::rs))∧MaM b v e1 e2 e3 e4 m,fun _ _ _ ht ⟨e1,e2,e3,e4,h,hm⟩=>⟨e1,e2,e3,e4,h,hm.tS hk ht⟩⟩
def KP.tum(hk:okT t)(b:Nat)(M:Me)(rs:List Value):KP t kp B:=⟨fun u v=>∃e1 e2 e3 e4 e5,u=.tuple (List.toArray (.agg #[e1,e2,e3,.int .i64 M.m.c.hand,.int .i64 M.m.g.count,.int .i64 M.m.g.next,.int .i64 M.m.g.round,e4,.int .i64 M.m.sp,e5,.int .i64 M.h]::rs))∧MeM b v e1 e2 e3 e4 e5 M,fun _ _ _ ht ⟨e1,e2,e3,e4,e5,h,hm⟩=>⟨e1,e2,e3,e4,e5,h,hm.tS hk ht⟩⟩
def KP.tul(hk:okT t)(b:Nat)(M:Me)(l:List Int)(rs:List Value):KP t kp B:=⟨fun u v=>∃e1 e2 e3 e4 e5 pl,u=.tuple (List.toArray (.agg #[e1,e2,e3,.int .i64 M.m.c.hand,.int .i64 M.m.g.count,.int .i64 M.m.g.next,.int .i64 M.m.g.round,e4,.int .i64 M.m.sp,e5,.int .i64 M.h]::pl::rs))∧MeM b v e1 e2 e3 e4 e5 M∧SlM intE 3 b v pl l,fun _ _ _ ht ⟨e1,e2,e3,e4,e5,pl,h,hm,hl⟩=>⟨e1,e2,e3,e4,e5,pl,h,hm.tS hk ht,hl.oth ht.oth (fun e=>hk.1 e.symm)⟩⟩
def KP.li(hk:okT t)(b:Nat)(l:List Int):KP t kp B:=⟨fun u v=>SlM intE 3 b v u l,fun _ _ _ ht hl=>hl.oth ht.oth (fun e=>hk.1 e.symm)⟩
def KP.bo(hk:okT t)(b:Nat)(l:List Bool):KP t kp B:=⟨fun u v=>SlM boE 4 b v u l,fun _ _ _ ht hl=>hl.oth ht.oth (fun e=>hk.2.2.2.2 e.symm)⟩
theorem ownsRow_oth{p:TypeId→Prop}{e:TypeId}{sz n:Nat}{x:Value}{xs:List Value}{b:Nat}{v v':World}(h:v.ownsRow b e sz x n xs)(ho:Oth p v v')(hn:¬p e):v'.ownsRow b e sz x n xs:=
 ⟨h.1,h.2.imp id fun⟨g,cap,cs,h1,h2,h3,h4⟩=>⟨g,cap,cs,h1,h2,ho.2 g e cs h3 hn,h4⟩⟩
def KP.bw(hk:okT t)(b:Nat)(l:List Bool):KP t kp B:=⟨fun u v=>SlM boE 4 b v u l∧v.ownsRow b 4 1 u l.length (boE.cells l),fun _ _ _ ht hl=>⟨hl.1.oth ht.oth (fun e=>hk.2.2.2.2 e.symm),ownsRow_oth hl.2 ht.oth (fun e=>hk.2.2.2.2 e.symm)⟩⟩
def KP.mw(hk:okT t)(b:Nat)(M:Me):KP t kp B:=⟨fun u v=>∃e1 e2 e3 e4 e5,u=.agg #[e1,e2,e3,.int .i64 M.m.c.hand,.int .i64 M.m.g.count,.int .i64 M.m.g.next,.int .i64 M.m.g.round,e4,.int .i64 M.m.sp,e5,.int .i64 M.h]∧MeM b v e1 e2 e3 e4 e5 M∧v.ownsRow b 4 1 e5 M.mk.length (boE.cells M.mk),fun _ _ _ ht ⟨e1,e2,e3,e4,e5,h,hm,hw⟩=>⟨e1,e2,e3,e4,e5,h,hm.tS hk ht,ownsRow_oth hw ht.oth (fun e=>hk.2.2.2.2 e.symm)⟩⟩
def KP.lit(hk:okT t)(b:Nat):KP t kp B:=⟨fun u v=>∃g,u=.slice (some ⟨g,0,none⟩) 0 0∧b≤g∧Own v g 4 #[],fun _ _ _ ht ⟨g,h,hb,ho⟩=>⟨g,h,hb,ht.oth.2 _ _ _ ho (fun e=>hk.2.2.2.2 e.symm)⟩⟩
def KP.box(b n:Nat):KP t kp B:=⟨fun u v=>∃g cs,u=.pointer (some ⟨g,0,none⟩)∧b≤g∧cs.size=n∧Own v g t cs,fun _ _ _ ht ⟨g,cs,h,hb,hn,ho⟩=>by
 obtain⟨cs',h1,h2⟩:=ht.any g cs ho
 exact⟨g,cs',h,hb,h1.trans hn,h2⟩⟩
def kps(si:Nat)(ks:List (KP t kp B))(F:Value→World→Prop)(j:Nat)(u:Value)(v:World):Prop:=if j=si then F u v else match ks[j]? with | some k=>k.P u v | none=>True
def kpT(t:TypeId)(kp:Nat→Prop)(B si i:Nat)(v v':World):Prop:=if i=si then tS t kp B v v' else Below v.heap.size v v'
theorem kpT_same{si i:Nat}:kpT t kp B si i v v:=by
 unfold kpT;split
 ·exact⟨Below.refl B v,⟨Nat.le_refl _,fun _ _ _ o _=>o⟩,fun _ _ _ o=>o,fun _ _ o=>⟨_,rfl,o⟩⟩
 ·exact bR
theorem kpT_below{si i:Nat}(hi:i≠si)(h:Below v.heap.size v v'):kpT t kp B si i v v':=by unfold kpT;rw[if_neg hi];exact h
theorem kpT_store{si:Nat}(h:tS t kp B v v'):kpT t kp B si si v v':=by unfold kpT;rw[if_pos rfl];exact h
end
theorem op_run{P:Program}{o:Oper}{a:Act}{w:World}{K:Act→World→Prop}{Q:Exit→Act→World→Prop}(s x:Operand)(t:TypeId)(ho:o.op=.call {callee:=.builtin .append,args:=#[s,x],argTypes:=#[t,t]})(v y v':Value)(w':World)(hv:a.eval s=v)(hx:a.eval x=y)
  (hrun:(Builtin.append_ #[t,t] o.type #[v,y]).run P w=.ok v' w') (h:K (a.put o.dst v') w'):o.wp P a w K Q:=by
 unfold Oper.wp execOp;simp only[ho,resolve,invoke,builtin,Sem.run_bind,Sem.run_pure,Result.andThen_ok,List.map_toArray,List.map_cons,List.map_nil,hv,hx,hrun];exact h
theorem run_copyB(W:World)(gl:Nat)(A:Option Addr)(c:Nat)(l:List Bool)(hr:Rs boE W.heap.size W A l)(h1:1≤l.length)(hl:l.length≤1048576):
  ∃v' w',(Builtin.append_ #[35,35] 35 #[.slice (some ⟨gl,0,none⟩) 0 0,.slice A l.length c]).run Tryz.prog W=.ok v' w'∧SlM boE 4 W.heap.size w' v' l∧w'.ownsRow W.heap.size 4 1 v' l.length (boE.cells l)∧Below W.heap.size W w':=by
 obtain⟨i0,hi0,hz0,hz1,hz2⟩:=info_parts bo_info;obtain⟨b,o,rfl,hb,hc⟩:=hr.at_ (by omega)
 obtain⟨v',w',e1,e2,e3⟩:=run_append_arg_grows (P:=Tryz.prog) (w:=W) 35 35 4 i0 _ 1 1 Tryz.underlying35 hi0 hz0 hz1 hz2 rfl (by omega) ⟨gl,0,none⟩ 0 0 [] rfl (fun j u h=>by simp at h) ⟨b,o,none⟩ l.length c (boE.cells l) (boE.cells_length l) (fun j u h=>by
  have:=hc j u h;rw[add_lit_]
  exact this) (by omega) (by unfold maxLen;omega) (by omega)
 refine⟨v',w',e1, ?_,by simpa[boE]using e2,⟨e3.os,e3.tape,e3.output,e3.size,fun k hk=>e3.block k hk (by simp)⟩⟩;have e2':w'.ownsRow W.heap.size 4 boE.sz v' l.length (boE.cells l):=by simpa[boE]using e2
 exact slm_own rfl e2'
theorem wp_region_kp {P:Program} {ops:Array Oper} {Q:Exit→Act→World→Prop} {id:Nat} {a:Act} {w:World} (hm:P.follows .mixedOrders=true) (ds sl:List Nat) (t:TypeId) (kp:Nat→Prop) (B si:Nat) (ks:List (KP t kp B)) (F:Value→World→Prop) (C:World→Prop)
    (hB:relB .any ops ds (sl.map fun s=>[s])=true) (hs:ops.size=sl.length) (hC0:C w.drew) (hCB:∀v,C v→B≤v.heap.size) (hCk:∀v v',tS t kp B v v'→C v→C v') (hF:∀u v v',Below v.heap.size v v'→F u v→F u v')
    (step:∀i o,ops[i]?=some o→∀x v,C v→(∀k,(∃e∈o.after,Region.binds .any e=true∧e.on=k)→k<sl.length→kps si ks F k (x (sl.getD k 0)) v)→∀K:Act→World→Prop,
      (∀u v',kpT t kp B si i v v'→kps si ks F i (upd x o.dst u (sl.getD i 0)) v'→K ((fillA ds x a).put o.dst u) v')→o.wp P (fillA ds x a) v K Q)
    (fin:∀x v,C v→(∀i,i<sl.length→kps si ks F i (x (sl.getD i 0)) v)→Q .normal (fillA ds x a) v):(Code.region id ops true).wp P Q a w:=by
  have hTS:∀i v v',C v→kpT t kp B si i v v'→tS t kp B v v':=by
    intro i v v' hc ht;unfold kpT at ht;split at ht
    · exact ht
    · exact tS.below ht (hCB v hc)
  refine wp_region_rel1 hm ds sl C (fun j u v=>C v∧kps si ks F j u v) (fun i v v'=>C v→kpT t kp B si i v v') hB hs hC0 ?_ ?_ ?_
  · rintro i j u v v' hij ⟨hc,h⟩ ht
    have ht:=ht hc;refine⟨hCk v v' (hTS i v v' hc ht) hc, ?_⟩;unfold kps at h⊢;split
    · rename_i hj
      rw[if_pos hj]at h;unfold kpT at ht;rw[if_neg (by omega)]at ht;exact hF u v v' ht h
    · rename_i hj
      rw[if_neg hj]at h
      cases hk:ks[j]? with
      | none=>trivial
      | some k=>
        rw[hk]at h;exact k.keep u v v' (hTS i v v' hc ht) h
  · intro i o ho x v hc hd K hK
    refine step i o ho x v hc (fun k hk hl=>(hd k hk hl).2) K (fun u v' ht hr=> ?_);have hc':=hCk v v' (hTS i v v' hc ht) hc;exact hK u v' (fun _=>ht) hc' ⟨hc',hr⟩
  · intro x v hc h
    exact fin x v hc (fun i hi=>(h i hi).2)
def tM(si i:Nat)(v v':World):Prop:=if i=si then Oth (fun e=>e=37) v v'∧(∀g cs,cs.size=11→Own v g 37 cs→∃cs',cs'.size=11∧Own v' g 37 cs')else Below v.heap.size v v'
theorem tM.oth{si i:Nat}{v v':World}(h:tM si i v v'):Oth (fun e=>e=37) v v':=by
 unfold tM at h;split at h
 ·exact h.1
 ·exact Oth.of_below h
inductive RLM where
 | eq (u:Value)
 | me (M:Me)
 | li (l:List Int)
 | tup (M:Me) (rs:List Value)
 | tul (M:Me) (l:List Int) (rs:List Value)
 | box
 | boxed (M:Me)
def RLM.at_(b si j:Nat):RLM→Value→World→Prop
 | .eq u0,u,_=>u=u0
 | .me M,u,v=>∃e1 e2 e3 e4 e5,u=.agg #[e1,e2,e3,.int .i64 M.m.c.hand,.int .i64 M.m.g.count,.int .i64 M.m.g.next,.int .i64 M.m.g.round,e4,.int .i64 M.m.sp,e5,.int .i64 M.h]∧MeM b v e1 e2 e3 e4 e5 M
 | .li l,u,v=>SlM intE 3 b v u l
 | .tup M rs,u,v=>∃e1 e2 e3 e4 e5,u=.tuple (List.toArray (.agg #[e1,e2,e3,.int .i64 M.m.c.hand,.int .i64 M.m.g.count,.int .i64 M.m.g.next,.int .i64 M.m.g.round,e4,.int .i64 M.m.sp,e5,.int .i64 M.h]::rs))∧MeM b v e1 e2 e3 e4 e5 M
 | .tul M l rs,u,v=>∃e1 e2 e3 e4 e5 pl,u=.tuple (List.toArray (.agg #[e1,e2,e3,.int .i64 M.m.c.hand,.int .i64 M.m.g.count,.int .i64 M.m.g.next,.int .i64 M.m.g.round,e4,.int .i64 M.m.sp,e5,.int .i64 M.h]::pl::rs))∧MeM b v e1 e2 e3 e4 e5 M∧SlM intE 3 b v pl l
 | .box,u,v=>∃g cs,u=.pointer (some ⟨g,0,none⟩)∧b≤g∧cs.size=11∧Own v g 37 cs
 | .boxed M,u,v=>j=si∧∃g e1 e2 e3 e4 e5,u=.pointer (some ⟨g,0,none⟩)∧b≤g∧Own v g 37 #[e1,e2,e3,.int .i64 M.m.c.hand,.int .i64 M.m.g.count,.int .i64 M.m.g.next,.int .i64 M.m.g.round,e4,.int .i64 M.m.sp,e5,.int .i64 M.h]∧MeM b v e1 e2 e3 e4 e5 M
theorem arr11{cs:Array Value}(h:cs.size=11):∃a0 a1 a2 a3 a4 a5 a6 a7 a8 a9 a10,cs=#[a0,a1,a2,a3,a4,a5,a6,a7,a8,a9,a10]:=by
 refine⟨cs[0],cs[1],cs[2],cs[3],cs[4],cs[5],cs[6],cs[7],cs[8],cs[9],cs[10], ?_⟩;refine Array.ext (by simpa using h) fun i hi hj=> ?_
 rcases i with _ | _ | _ | _ | _ | _ | _ | _ | _ | _ | _ | i<;>first | rfl | omega
theorem nat_of{zs:List Int}{a b:Nat}(h:∀z∈zs,(a:Int)≤z∧z≤(b:Int)){z:Int}(hz:z∈zs):∃n:Nat,z=(n:Int)∧a≤n∧n≤b:=by
 obtain⟨h1,h2⟩:=h z hz;obtain⟨n,rfl⟩:=Int.eq_ofNat_of_zero_le (show 0≤z by omega);exact⟨n,rfl,by omega,by omega⟩
theorem useN_cases{M N:Me}(V:MEV M){p r:Int}(e:useN M p r=some N):
  (misM M p=false∧N=M)∨
  (misM M p=true∧∃k:Nat,ffr M.m.t.fs=some k∧putOK M.m (keyI M.m.sp p) p k r=true∧N=⟨putV M.m (keyI M.m.sp p) p k r,M.mk,M.h⟩)∨
  (misM M p=true∧ffr M.m.t.fs=none∧∃(mk:List Bool) (h a:Nat) (f:Fr),clR M=some (mk,h,a)∧M.m.t.fs[a]?=some f∧f.used=true∧wirA M.m.c.ls a=false∧takO M.m f.s f.p=true∧putOK (takV M.m f.s f.p) (keyI M.m.sp p) p a r=true∧N=⟨putV (takV M.m f.s f.p) (keyI M.m.sp p) p a r,mk,h⟩):=by
 unfold useN at e
 cases hm:misM M p with
 | false=>
  rw[hm]at e;injection e with e;exact .inl ⟨rfl,e.symm⟩
 | true=>
  rw[hm,if_pos rfl]at e;unfold brO brN at e
  cases hf:ffr M.m.t.fs with
  | some k=>
   rw[hf]at e;simp only[brP]at e;split at e
   ·rename_i hp;injection e with e;exact .inr (.inl ⟨rfl,k,rfl,hp,e.symm⟩)
   ·cases e
  | none=>
   rw[hf]at e
   cases hc:clR M with
   | none=>rw[hc]at e;cases e
   | some x=>
    obtain⟨mk,h,a⟩:=x;rw[hc]at e;have c:=V.clk hc;obtain⟨f,ef,hu⟩:=usedAt_iff.1 c.us;simp only at ef;simp only[brP,getD_at ef]at e;split at e
    ·rename_i hp;injection e with e;exact .inr (.inr ⟨rfl,rfl,mk,h,a,f,rfl,ef,hu,c.wi,V.m.takO ef hu,hp,e.symm⟩)
    ·cases e
theorem mev_use{M:Me}{p n r:Int}(h:useO M p n r=true):mav (useV M p n r).m=true:=by
 obtain⟨h1,h2,h3,h4,N,e⟩:=useO_parts h;have V:=mev_MEV.1 h1;obtain⟨_,hV,_⟩:=useO_some h1 h2 h3 h4 e;rw[hV];exact mav_tch (useN_tch V e h2 h3).1
theorem put_fnd{m:Ma}{s p fr r:Int}(h:putOK m s p fr r=true){s' p':Int}{i:Nat}(hf:fnd m.t.fs s' p'=some i):fnd (putV m s p fr r).t.fs s' p'=some i:=by
 have hv':=(mav_parts (mav_put h)).1;obtain⟨k,f0,_,ef,hu,_,_,_,_,hv⟩:=put_at h;obtain⟨f,e1,e2,e3⟩:=fnd_some hf;have hne:k≠i:=by rintro rfl;rw[ef]at e1;injection e1 with e1;rw[e1,e2]at hu;cases hu
 refine(tv_TV.1 hv').fnd (f:=f) ?_ e2 e3;rw[hv];show(m.t.fs.set k _)[i]?=some f;rw[List.getElem?_set,if_neg hne];exact e1
theorem tak_fnd{m:Ma}(M:MV m){s p:Int}(h:takO m s p=true){s' p':Int}{i:Nat}(hf:fnd m.t.fs s' p'=some i)(hne:¬(s'=s∧p'=p)):fnd (takV m s p).t.fs s' p'=some i:=by
 have hv':=(mav_parts (mav_tak h)).1;obtain⟨f,e1,e2,e3⟩:=fnd_some hf;injection e3 with e3 e4;have hfo:fOK m.t s p=true:=by unfold takO at h;rw[Bool.and_eq_true]at h;exact h.2
 obtain⟨y,ey,_,hk⟩:=unm_at hfo e1 M.t;obtain⟨y1,y2,y3,_⟩:=hk (fun hc=>hne ⟨by rw[←e3];exact hc.2.1,by rw[←e4];exact hc.2.2⟩);refine(tv_TV.1 hv').fnd (f:=y) ?_ (by rw[y1];exact e2) (by rw[y2,y3,e3,e4]);rw[takV_at h];exact ey
theorem l6Draw_g(B g q:Nat)(w:World)(hrd:Rdr B w g q)(hq:q≤800000)(hBw:B≤w.heap.size):
  Calls Tryz.prog 123 #[.pointer (some ⟨g,0,none⟩)] w (Post2 fun v w'=>DrawnG B w g q 110 v w'):=by
 have hgw:=rdr_lt hrd;have hr0:=Own.new_ w 34 #[.slice none 0 0,.slice none 0 0,.slice none 0 0,.int .i64 0,.int .i64 0,.int .i64 0,.int .i64 0,.slice none 0 0,.int .i64 0];have hb0:Below w.heap.size w (w.alloc (.cells #[.slice none 0 0,.slice none 0 0,.slice none 0 0,.int .i64 0,.int .i64 0,.int .i64 0,.int .i64 0,.slice none 0 0,.int .i64 0] 34)):=bA bR;generalize hW:w.alloc (.cells #[.slice none 0 0,.slice none 0 0,.slice none 0 0,.int .i64 0,.int .i64 0,.int .i64 0,.int .i64 0,.slice none 0 0,.int .i64 0] 34)=W0 at hr0 hb0;have HRR:=Hd hr0;have HRD:=Hd (rdr_below hrd hb0);have HGR:=Hd (gr_below hb0 (g:=g));clear hr0 hb0 hrd
 go_enter Tryz.func123,Tryz.ntmps123
 go_wp2_with fail
 refine(num_lit B g (q) [6,4,8] W0 _ _ rfl rfl HRD.o (by omega) (by simp) (by simp)).mono ?_;rintro e w1 ⟨z1,rfl,hz1,hrd,hg⟩;have hgr:=gT HGR.o hg;have hrr:=own_gr HRR.o hg (by omega);clear HRD HGR HRR;have HRD:=Hd hrd;have HGR:=Hd hgr;have HRR:=Hd hrr;clear hrd hg hgr hrr;go_wp2_with fail
 refine(num_lit B g (q+1) [4,2,1] w1 _ _ rfl rfl HRD.o (by omega) (by simp) (by simp)).mono ?_;rintro e w2 ⟨z2,rfl,hz2,hrd,hg⟩;have hgr:=gT HGR.o hg;have hrr:=own_gr HRR.o hg (by omega);clear HRD HGR HRR;have HRD:=Hd hrd;have HGR:=Hd hgr;have HRR:=Hd hrr;clear hrd hg hgr hrr;go_wp2_with fail
 refine(num_lit B g (q+1+1) [3,2,4,1] w2 _ _ rfl rfl HRD.o (by omega) (by simp) (by simp)).mono ?_;rintro e w3 ⟨z3,rfl,hz3,hrd,hg⟩;have hgr:=gT HGR.o hg;have hrr:=own_gr HRR.o hg (by omega);clear HRD HGR HRR;have HRD:=Hd hrd;have HGR:=Hd hgr;have HRR:=Hd hrr;clear hrd hg hgr hrr;go_wp2_with fail
 refine(num_lit B g (q+1+1+1) [2,3,1] w3 _ _ rfl rfl HRD.o (by omega) (by simp) (by simp)).mono ?_;rintro e w4 ⟨z4,rfl,hz4,hrd,hg⟩;have hgr:=gT HGR.o hg;have hrr:=own_gr HRR.o hg (by omega);clear HRD HGR HRR;have HRD:=Hd hrd;have HGR:=Hd hgr;have HRR:=Hd hrr;clear hrd hg hgr hrr;obtain⟨nf,rfl,hf1,hf2⟩:=nat_of (a:=1) (b:=16) (by decide) hz1;obtain⟨nb,rfl,hb1,hb2⟩:=nat_of (a:=1) (b:=16) (by decide) hz2;obtain⟨nl,rfl,hl1,hl2⟩:=nat_of (a:=1) (b:=8) (by decide) hz3;obtain⟨nt,rfl,ht1,ht2⟩:=nat_of (a:=1) (b:=8) (by decide) hz4;clear hz1 hz2 hz3 hz4 hW;go_wp2_with fail
 refine(sNewMachine_g nf nb nl nt w4 ⟨hf1,hf2⟩ ⟨hb1,hb2⟩ ⟨hl1,hl2⟩ ⟨ht1,ht2⟩).mono ?_;rintro e w5 ⟨_,rfl,m,v1,v2,v3,v4,rfl,hM,hz,hb5⟩;obtain⟨A1,c1,rfl,_⟩:=hM.t.b;obtain⟨A2,c2,rfl,_⟩:=hM.t.f;obtain⟨A3,c3,rfl,_⟩:=hM.l;obtain⟨A4,c4,rfl,_⟩:=hM.o;have hw4:w.heap.size≤w4.heap.size:=HGR.o.size;have ho6:=Own.new_ w5 34 #[.slice A1 m.t.bs.length c1,.slice A2 m.t.fs.length c2,.slice A3 m.c.ls.length c3,.int .i64 m.c.hand,.int .i64 m.g.count,.int .i64 m.g.next,.int .i64 m.g.round,.slice A4 m.g.os.length c4,.int .i64 m.sp];have hb6:Below w5.heap.size w5 (w5.alloc (.cells #[.slice A1 m.t.bs.length c1,.slice A2 m.t.fs.length c2,.slice A3 m.c.ls.length c3,.int .i64 m.c.hand,.int .i64 m.g.count,.int .i64 m.g.next,.int .i64 m.g.round,.slice A4 m.g.os.length c4,.int .i64 m.sp] 34)):=bA bR;generalize hW6:w5.alloc (.cells #[.slice A1 m.t.bs.length c1,.slice A2 m.t.fs.length c2,.slice A3 m.c.ls.length c3,.int .i64 m.c.hand,.int .i64 m.g.count,.int .i64 m.g.next,.int .i64 m.g.round,.slice A4 m.g.os.length c4,.int .i64 m.sp] 34)=w6 at ho6 hb6;have HO6:=Hd ho6;have HM6:=Hd ((hM.mono (show B≤w4.heap.size by omega)).now hb6);have HRD6:=Hd (rdr_below (rdr_below HRD.o hb5) hb6);have HGR6:=Hd (gT (gT HGR.o (gr_below hb5)) (gr_below hb6));have HRR6:=Hd ((HRR.o.below hb5).below hb6);have HZ:=Hd (hz);have hw5:w.heap.size<w5.heap.size:=by have:=(HRR.o.below hb5).lt;omega
 clear hM hb5 ho6 hb6 HRD HGR HRR hz;go_wp2_with fail
 refine(pick_any B g (q+1+1+1+1) 10 w6 HRD6.o (by omega) (by omega)).mono ?_;rintro e w7 ⟨x,rfl,hx0,hx1,hrd7,hg7⟩;have hx2:=hx1 (by omega);obtain⟨x,rfl⟩:=Int.eq_ofNat_of_zero_le hx0;have HO7:=Hd (own_gr HO6.o hg7 (by have:=HRD6.o;have:=rdr_lt this;omega));have HM7:=Hd (HM6.o.gr HRD6.o hg7);have HGR7:=Hd (gT HGR6.o hg7);have HRR7:=Hd (own_gr HRR6.o hg7 (by omega));have HRD7:=Hd hrd7;have hx3:x≤9:=by omega
 generalize hgb:w5.heap.size=gb at*;clear hrd7 hg7 hx0 hx1 hx2 HO6 HM6 HRD6 HGR6 HRR6 hW6;go_wp2;go_loopw [5] (fun u wr=>∃(k:Nat) (m:Ma) (v1 v2 v3 v4:Value) (p:Nat),k≤15∧u=.int .i64 k∧p≤q+5+6*(15-k)∧Own wr gb 34 #[v1,v2,v3,.int .i64 m.c.hand,.int .i64 m.g.count,.int .i64 m.g.next,.int .i64 m.g.round,v4,.int .i64 m.sp]∧Own wr w.heap.size 34 #[.slice none 0 0,.slice none 0 0,.slice none 0 0,.int .i64 0,.int .i64 0,.int .i64 0,.int .i64 0,.slice none 0 0,.int .i64 0]∧MaM B wr v1 v2 v3 v4 m∧SzG 17 m∧Rdr B wr g p∧w.grownBy wr (some g)) (fun u _=>(intOf u).toNat)
 case atStart=>exact⟨6+x,m,_,_,_,_,q+1+1+1+1+1,by omega,by simp,by omega,HO7.o,HRR7.o,HM7.o,HZ.o,HRD7.o,HGR7.o⟩
 case round=>
  obtain⟨k,m,v1,v2,v3,v4,p,hk,rfl,hp,ho,hr,hm,hz,hrd,hgr⟩:=hrel;have HO:=Hd ho;have HR:=Hd hr;have HM:=Hd hm;have HRD:=Hd hrd;have HGR:=Hd hgr;obtain⟨A1,c1,rfl,_⟩:=hm.t.b;obtain⟨A2,c2,rfl,_⟩:=hm.t.f;obtain⟨A3,c3,rfl,_⟩:=hm.l;obtain⟨A4,c4,rfl,_⟩:=hm.o;have hwr:w.heap.size≤wr.heap.size:=hgr.size;obtain⟨p0o,p1o,p2o,p3o,p4o,p5o,p6o,p7o,p8o⟩:=cells9 ho;have hlo:=ho.lt;clear ho hr hm hrd hgr;by_cases hlt:0<k
  ·have hki:(0:Int)<(k:Int):=by omega
   go_wp2_with fail
   refine(l6Step_g B g p _ _ _ _ m wr HRD.o (by omega) HM.o hz (by omega)).mono ?_;rintro e w8 ⟨_,rfl,m',e1,e2,e3,e4,p',rfl,hM8,hz8,hrd8,hp8,hg8⟩;clear p0o p1o p2o p3o p4o p5o p6o p7o p8o;have ho8:=own_gr HO.o hg8 (by omega);have HR8:=Hd (own_gr HR.o hg8 (by omega));obtain⟨E1,n1,rfl,_⟩:=hM8.t.b;obtain⟨E2,n2,rfl,_⟩:=hM8.t.f;obtain⟨E3,n3,rfl,_⟩:=hM8.l;obtain⟨E4,n4,rfl,_⟩:=hM8.o;obtain⟨p0o,p1o,p2o,p3o,p4o,p5o,p6o,p7o,p8o⟩:=cells9 ho8;obtain⟨w0o,w1o,w2o,w3o,w4o,w5o,w6o,w7o,w8o⟩:=free9 ho8;have hlo8:=ho8.lt;have HO9:=Hd (ho8.set9 (.slice E1 m'.t.bs.length n1) (.slice E2 m'.t.fs.length n2) (.slice E3 m'.c.ls.length n3) (.int .i64 m'.c.hand) (.int .i64 m'.g.count) (.int .i64 m'.g.next) (.int .i64 m'.g.round) (.slice E4 m'.g.os.length n4) (.int .i64 m'.sp));have HM9:=Hd (hM8.far9 ho8 (.slice E1 m'.t.bs.length n1) (.slice E2 m'.t.fs.length n2) (.slice E3 m'.c.ls.length n3) (.int .i64 m'.c.hand) (.int .i64 m'.g.count) (.int .i64 m'.g.next) (.int .i64 m'.g.round) (.slice E4 m'.g.os.length n4) (.int .i64 m'.sp));have HG8:=Hd (gT HGR.o hg8);have HRD8:=Hd hrd8;have HZ8:=Hd hz8;clear ho8 hM8 hrd8 hg8 hz8 hz;go_wp2;go_roundw
   case rel=>
    refine⟨k-1,m',_,_,_,_,p',by omega,by rw[show((k-1:Nat):Int)=(k:Int)-1 by omega],by omega,HO9.o, ?_,HM9.o,HZ8.o, ?_, ?_⟩
    ·repeat (refine Own.far ?_ (by show w.heap.size≠gb;omega))
     exact HR8.o
    ·repeat (refine rdr_set1 (by omega) ?_)
     exact HRD8.o
    ·repeat (refine g_set (by omega) ?_)
     exact HG8.o
   case measure=>simp[intOf];omega
  ·obtain rfl:k=0:=by omega
   have HZ9:=Hd hz;obtain⟨r0x,r1x,r2x,r3x,r4x,r5x,r6x,r7x,r8x⟩:=cells9 HR.o;obtain⟨z0x,z1x,z2x,z3x,z4x,z5x,z6x,z7x,z8x⟩:=free9 HR.o;have hlr:=HR.o.lt;clear hz;go_wp2;have o3:=HR.o.set9 (.slice A1 m.t.bs.length c1) (.slice A2 m.t.fs.length c2) (.slice A3 m.c.ls.length c3) (.int .i64 m.c.hand) (.int .i64 m.g.count) (.int .i64 m.g.next) (.int .i64 m.g.round) (.slice A4 m.g.os.length c4) (.int .i64 m.sp);obtain⟨p0t,p1t,p2t,p3t,p4t,p5t,p6t,p7t,p8t⟩:=cells9 o3;refine bodyPost_ret (v:=.agg #[.slice A1 m.t.bs.length c1,.slice A2 m.t.fs.length c2,.slice A3 m.c.ls.length c3,.int .i64 m.c.hand,.int .i64 m.g.count,.int .i64 m.g.next,.int .i64 m.g.round,.slice A4 m.g.os.length c4,.int .i64 m.sp]) (by simp[results,Tryz.results123,go_sem,p0t,p1t,p2t,p3t,p4t,p5t,p6t,p7t,p8t]) rfl ⟨_,rfl,m,_,_,_,_,p,rfl,HM.o.far9 HR.o _ _ _ _ _ _ _ _ _,HZ9.o, ?_,by omega, ?_⟩
   ·repeat (refine rdr_set1 (by omega) ?_)
    exact HRD.o
   ·repeat (refine g_set (by omega) ?_)
    exact HGR.o
theorem l7Pages_g(B g q:Nat)(w:World)(hrd:Rdr B w g q)(hq:q≤800000)(hBw:B≤w.heap.size):
  Calls Tryz.prog 124 #[.pointer (some ⟨g,0,none⟩)] w (Post2 fun v w'=>∃(ps:List Int) (p:Nat),SlM intE 3 w.heap.size w' v ps∧ps.length≤12∧(∀x∈ps,pgo x)∧Rdr B w' g p∧p≤q+13∧w.grownBy w' (some g)):=by
 have hgw:=rdr_lt hrd;have hl0:=World.ownsRow_lit (base:=w.heap.size) (e:=3) (size:=1) w #[] 0 (Nat.le_refl _) (by simp[maxLen]) rfl;have hb0:Below w.heap.size w (w.alloc (.cells #[] 3)):=bA bR;generalize hW:w.alloc (.cells #[] 3)=W0 at hl0 hb0;have hrd0:=rdr_below hrd hb0;have HL0:=Hd hl0;have HRD0:=Hd hrd0;have HGR0:=Hd (gr_below hb0 (g:=g));have hs0:=hb0.size;clear hl0 hb0 hrd hrd0
 go_enter Tryz.func124,Tryz.ntmps124
 go_wp2_with fail
 refine(num_lit B g q [5,3,8,2,12,0] _ _ _ rfl rfl HRD0.o (by omega) (by simp) (by simp)).mono ?_;rintro e w1 ⟨z,rfl,hz,hrd,hg⟩;obtain⟨n,rfl,_,hn⟩:=nat_of (a:=0) (b:=12) (by decide) hz;have HL1:=Hd (ownsRow_gr HL0.o HRD0.o hg (by decide));have HRD1:=Hd hrd;have HGR1:=Hd (gT HGR0.o hg);clear hz hrd hg HL0 HRD0 HGR0 hW hs0;go_wp2;go_loopw [3,4] (fun v u wr=>∃(k:Nat) (l:List Int) (p:Nat),k+l.length≤12∧u=.int .i64 k∧wr.ownsRow w.heap.size 3 1 v l.length (intE.cells l)∧Hi (∀x∈l,pgo x)∧Rdr B wr g p∧p+k≤q+13∧w.grownBy wr (some g)) (fun _ u _=>(intOf u).toNat)
 case atStart=>exact⟨n,[],q+1,by simpa using hn,rfl,HL1.o,(fun x hx=>by cases hx),HRD1.o,by omega,HGR1.o⟩
 case round=>
  obtain⟨k,l,p,hkl,rfl,hL,hpg,hR,hp,hG⟩:=hrel;clear HL1 HRD1 HGR1;obtain⟨A8,c8,rfl,_⟩:=own_rd hL;have HL:=Hd hL;have HR:=Hd hR;have HG:=Hd hG;have hsr:w.heap.size≤wr.heap.size:=hG.size;clear hL hR hG;by_cases hlt:0<k
  ·have hki:(0:Int)<(k:Int):=by omega
   go_wp2_with fail
   refine(num_lit B g p [1,2,3,4,5,6,7,200,201] _ _ _ rfl rfl HR.o (by omega) (by simp) (by simp)).mono ?_;rintro e w2 ⟨z,rfl,hz,hrd,hg⟩
   have HPZ:Hi (pgo z):=by
    show pgo z;unfold pgo;simp at hz;omega
   have hL:=ownsRow_gr HL.o HR.o hg (by decide);have hs2:wr.heap.size≤w2.heap.size:=hg.size;obtain⟨v7,w7,hrun,hown7,hg7,_⟩:=run_append_i w.heap.size w2 (.slice A8 l.length c8) l.length l z hL rfl (by omega) (by omega);have hbl:∀b,(Value.slice A8 l.length c8).ownBlock=some b→w.heap.size≤b:=own_block hL;have hgn:some g≠(Value.slice A8 l.length c8).ownBlock:=fun h=>by have:=hbl g h.symm;omega
   have hr7:=rdr_row (rdr_alloc hrd (.cells #[.int .i64 z] 3)) hg7 hgn (fun b hb=>by have:=hbl b hb;omega);have hgr7:=gG (gT (gT HG.o hg) (gr_below (g:=g) (bA (bR (w:=w2)) (o:=.cells #[.int .i64 z] 3)))) hg7 (fun b hb=>hbl b hb);obtain⟨A9,c9,rfl,_⟩:=own_rd hown7;clear HL HR HG;have HL:=Hd hown7;have HR:=Hd hr7;have HG:=Hd hgr7;clear hz hrd hg hL hown7 hr7 hgr7 hg7 hgn hbl
   go_wp2_with (at_builtin;refine wpList_append_run _ rfl (.tmp 13) (.tmp 17) 23 rfl _ _ _ _ rfl rfl hrun ?_)
   go_roundw
   case rel=>
    exact⟨k-1,l++[z],p+1,by simp;omega,by rw[show((k-1:Nat):Int)=(k:Int)-1 by omega],by simpa using HL.o,(fun x hx=>by
     rcases List.mem_append.1 hx with h | h
     ·exact hpg.o x h
     ·rw[List.mem_singleton.1 h];exact HPZ.o),HR.o,by omega,HG.o⟩
   case measure=>simp[intOf];omega
  ·obtain rfl:k=0:=by omega
   go_wp2;go_ret;exact⟨_,rfl,l,p,slm_own rfl HL.o,by omega,hpg.o,HR.o,by omega,HG.o⟩
theorem l7Copy_o(vb vf vl vo vk:Value)(M:Me)(w:World)(hM:MeR w vb vf vl vo vk M)(h1:M.m.t.bs.length≤1048576)(h2:M.m.t.fs.length≤1048576)(h3:M.m.c.ls.length≤1048576)(h4:M.m.g.os.length≤1048576)(h5:M.mk.length≤1048576)(h6:1≤M.mk.length):
  Calls Tryz.prog 50 #[.agg #[vb,vf,vl,.int .i64 M.m.c.hand,.int .i64 M.m.g.count,.int .i64 M.m.g.next,.int .i64 M.m.g.round,vo,.int .i64 M.m.sp,vk,.int .i64 M.h]] w (Post2 fun v w'=>∃v1 v2 v3 v4 v5,v=.agg #[v1,v2,v3,.int .i64 M.m.c.hand,.int .i64 M.m.g.count,.int .i64 M.m.g.next,.int .i64 M.m.g.round,v4,.int .i64 M.m.sp,v5,.int .i64 M.h]∧MeM w.heap.size w' v1 v2 v3 v4 v5 M∧w'.ownsRow w.heap.size 4 1 v5 M.mk.length (boE.cells M.mk)∧Below w.heap.size w w'):=by
 obtain⟨W0,hW,hbx,hbo,hb0,hs0⟩:=box2 w #[vb,vf,vl,.int .i64 M.m.c.hand,.int .i64 M.m.g.count,.int .i64 M.m.g.next,.int .i64 M.m.g.round,vo,.int .i64 M.m.sp,vk,.int .i64 M.h] 37 #[.slice none 0 0,.slice none 0 0,.slice none 0 0,.int .i64 0,.int .i64 0,.int .i64 0,.int .i64 0,.slice none 0 0,.int .i64 0,.slice none 0 0,.int .i64 0] 37;have HX0:=Hd hbx;have HO0:=Hd hbo;have HB0:=Hd hb0;have HM:=Hd hM;clear hbx hbo hb0 hM
 go_enter Tryz.func50,Tryz.ntmps50
 go_upto_region 1 with fail
 try rw[hW]
 clear hW;refine wp_region_kp (by kernel_rfl) [3,4,5,6,7,8,9,10,11,12] [3,4,5,6,7,8,9,10,11,12,3] 37 (fun g=>g≠w.heap.size+1) (w.heap.size) 10 [KP.eq (.pointer (some ⟨w.heap.size,0,none⟩)),KP.eq (.agg #[vb,vf,vl,.int .i64 M.m.c.hand,.int .i64 M.m.g.count,.int .i64 M.m.g.next,.int .i64 M.m.g.round,vo,.int .i64 M.m.sp]),KP.ma okT_me (w.heap.size) (M.m),KP.lit okT_me (w.heap.size),KP.eq (.pointer (some ⟨w.heap.size,9,none⟩)),KP.eq (vk),KP.bw okT_me (w.heap.size) (M.mk),KP.eq (.pointer (some ⟨w.heap.size,10,none⟩)),KP.eq (.int .i64 M.h),KP.mw okT_me (w.heap.size) (M),KP.eq (.bool true)] (fun u v=>∃e1 e2 e3 e4 e5,Own v (w.heap.size+1) 37 #[e1,e2,e3,.int .i64 M.m.c.hand,.int .i64 M.m.g.count,.int .i64 M.m.g.next,.int .i64 M.m.g.round,e4,.int .i64 M.m.sp,e5,.int .i64 M.h]∧MeM w.heap.size v e1 e2 e3 e4 e5 M∧v.ownsRow w.heap.size 4 1 e5 M.mk.length (boE.cells M.mk)) (fun v=>(Below (w.heap.size) w v)∧(Own v (w.heap.size) 37 #[vb,vf,vl,.int .i64 M.m.c.hand,.int .i64 M.m.g.count,.int .i64 M.m.g.next,.int .i64 M.m.g.round,vo,.int .i64 M.m.sp,vk,.int .i64 M.h])∧(∃cs:Array Value,cs.size=11∧Own v (w.heap.size+1) 37 cs)) (by kernel_rfl) rfl ⟨bD HB0.o,HX0.o.drew,⟨_,rfl,HO0.o.drew⟩⟩ (fun v h=>Nat.le_trans (by omega) h.1.size) (fun v v' ht ⟨hb,h_x,hcr⟩=>⟨hb.trans ht.bel,ht.own _ _ (show w.heap.size≠w.heap.size+1 by omega) h_x,(let ⟨cs,h1,h2⟩:=hcr;let ⟨cs',h3,h4⟩:=ht.any _ cs h2;⟨cs',h3.trans h1,h4⟩)⟩) (fun u v v' hb ⟨e1,e2,e3,e4,e5,ho,hm,hw⟩=>⟨e1,e2,e3,e4,e5,ho.below hb,hm.now hb,ownsRow_oth (p:=fun _=>False) hw (Oth.of_below hb) (fun h=>h)⟩) ?_ ?_
 ·intro i o ho x v hC hd K hK
  match i,ho with
  | 0,ho=>
   cases ho;simp only[fillA,Act.put,sA9,sB9,sC9]at hK⊢;go_simp;exact hK _ _ kpT_same rfl
  | 1,ho=>
   cases ho;simp only[fillA,Act.put,sA9,sB9,sC9]at hK⊢;obtain⟨hbw,hx_x,hcr⟩:=hC;obtain⟨z0,z1,z2,z3,z4,z5,z6,z7,z8,z9,z10⟩:=c11 hx_x;have d0:=hd 0 ⟨⟨0,.data⟩,by simp,rfl,rfl⟩ (by decide);change x 3=.pointer (some ⟨w.heap.size,0,none⟩)at d0;simp only[d0]at hK⊢;go_simp;exact hK _ _ kpT_same rfl
  | 2,ho=>
   cases ho;simp only[fillA,Act.put,sA9,sB9,sC9]at hK⊢;obtain⟨hbw,hx_x,hcr⟩:=hC;have d0:=hd 1 ⟨⟨1,.data⟩,by simp,rfl,rfl⟩ (by decide);change x 4=.agg #[vb,vf,vl,.int .i64 M.m.c.hand,.int .i64 M.m.g.count,.int .i64 M.m.g.next,.int .i64 M.m.g.round,vo,.int .i64 M.m.sp]at d0;simp only[d0]at hK⊢;go_wp2_with fail
   refine(l6Copy_any vb vf vl vo M.m _ (HM.o.m.now hbw) h1 h2 h3 h4).mono ?_;rintro e v' ⟨_,rfl,f1,f2,f3,f4,rfl,hm1,hb⟩;go_simp;exact hK _ _ (kpT_below (by decide) hb) ⟨_,_,_,_,rfl,hm1.mono hbw.size⟩
  | 3,ho=>
   cases ho;simp only[fillA,Act.put,sA9,sB9,sC9]at hK⊢;go_simp;exact hK _ _ (kpT_below (by decide) (bA bR)) ⟨_,rfl,(by have:=hC.1.size;omega),Own.new_ _ _ _⟩
  | 4,ho=>
   cases ho;simp only[fillA,Act.put,sA9,sB9,sC9]at hK⊢;go_simp;exact hK _ _ kpT_same rfl
  | 5,ho=>
   cases ho;simp only[fillA,Act.put,sA9,sB9,sC9]at hK⊢;obtain⟨hbw,hx_x,hcr⟩:=hC;have z9:=hx_x.cell_ 9 (v:=vk) rfl;have d0:=hd 4 ⟨⟨4,.data⟩,by simp,rfl,rfl⟩ (by decide);change x 7=.pointer (some ⟨w.heap.size,9,none⟩)at d0;simp only[d0]at hK⊢;go_simp;exact hK _ _ kpT_same rfl
  | 6,ho=>
   cases ho;simp only[fillA,Act.put,sA9,sB9,sC9]at hK⊢;obtain⟨hbw,hx_x,hcr⟩:=hC;have d0:=hd 3 ⟨⟨3,.data⟩,by simp,rfl,rfl⟩ (by decide);obtain⟨gl,d0,hgl,hol⟩:=d0;change x 6=_ at d0;have d1:=hd 5 ⟨⟨5,.data⟩,by simp,rfl,rfl⟩ (by decide);change x 8=vk at d1;simp only[d0,d1]at hK⊢;obtain⟨Ak,ck,hvk,_,_,hRk⟩:=HM.o.k.now hbw;obtain⟨v',w',e1,e2,e4,e3⟩:=run_copyB v gl Ak ck M.mk hRk h6 h5;refine op_run (.tmp 6) (.tmp 8) 35 rfl _ _ v' w' rfl hvk e1 ?_;exact hK _ _ (kpT_below (by decide) e3) ⟨e2.mono hbw.size,own_mono e4 hbw.size⟩
  | 7,ho=>
   cases ho;simp only[fillA,Act.put,sA9,sB9,sC9]at hK⊢;go_simp;exact hK _ _ kpT_same rfl
  | 8,ho=>
   cases ho;simp only[fillA,Act.put,sA9,sB9,sC9]at hK⊢;obtain⟨hbw,hx_x,hcr⟩:=hC;have z10:=hx_x.cell_ 10 (v:=.int .i64 M.h) rfl;have d0:=hd 7 ⟨⟨7,.data⟩,by simp,rfl,rfl⟩ (by decide);change x 10=.pointer (some ⟨w.heap.size,10,none⟩)at d0;simp only[d0]at hK⊢;go_simp;exact hK _ _ kpT_same rfl
  | 9,ho=>
   cases ho;simp only[fillA,Act.put,sA9,sB9,sC9]at hK⊢;have d0:=hd 2 ⟨⟨2,.data⟩,by simp,rfl,rfl⟩ (by decide);obtain⟨e1,e2,e3,e4,d0,hmX⟩:=d0;change x 5=_ at d0;have d1:=hd 6 ⟨⟨6,.data⟩,by simp,rfl,rfl⟩ (by decide);obtain⟨⟨Ab,cb,d1,hcb,hmb,hRb⟩,hwb⟩:=d1;change x 9=_ at d1;change v.ownsRow _ _ _ (x 9) _ _ at hwb;rw[d1]at hwb;have d2:=hd 8 ⟨⟨8,.data⟩,by simp,rfl,rfl⟩ (by decide);change x 11=.int .i64 M.h at d2;simp only[d0,d1,d2]at hK⊢;go_simp;exact hK _ _ kpT_same ⟨_,_,_,_,_,rfl,⟨hmX,⟨_,_,rfl,hcb,hmb,hRb⟩⟩,hwb⟩
  | 10,ho=>
   cases ho;simp only[fillA,Act.put,sA9,sB9,sC9]at hK⊢;obtain⟨hbw,hx_x,cs,hcs,hob⟩:=hC;have d1:=hd 9 ⟨⟨9,.data⟩,by simp,rfl,rfl⟩ (by decide);obtain⟨e1,e2,e3,e4,e5,d1,hmX,hwX⟩:=d1;change x 12=_ at d1;obtain⟨A1,c1,rfl,_⟩:=hmX.m.t.b;obtain⟨A2,c2,rfl,_⟩:=hmX.m.t.f;obtain⟨A3,c3,rfl,_⟩:=hmX.m.l;obtain⟨A4,c4,rfl,_⟩:=hmX.m.o;obtain⟨A5,c5,rfl,_⟩:=id hmX.k;obtain⟨a0,a1,a2,a3,a4,a5,a6,a7,a8,a9,a10,rfl⟩:=arr11 hcs;obtain⟨q0y,q1y,q2y,q3y,q4y,q5y,q6y,q7y,q8y,q9y,q10y⟩:=c11 hob;obtain⟨z0y,z1y,z2y,z3y,z4y,z5y,z6y,z7y,z8y,z9y,z10y⟩:=f11 hob;have hlo:=hob.lt;simp only[d1]at hK⊢;go_simp;have hS:tS 37 (fun g=>g≠w.heap.size+1) w.heap.size v (sets (w.heap.size+1) 0 [.slice A1 M.m.t.bs.length c1,.slice A2 M.m.t.fs.length c2,.slice A3 M.m.c.ls.length c3,.int .i64 M.m.c.hand,.int .i64 M.m.g.count,.int .i64 M.m.g.next,.int .i64 M.m.g.round,.slice A4 M.m.g.os.length c4,.int .i64 M.m.sp,.slice A5 M.mk.length c5,.int .i64 M.h] v):=tS.sets hob (by omega) (by simp) 0 _;exact hK undef _ (kpT_store hS) ⟨_,_,_,_,_,set11 hob (.slice A1 M.m.t.bs.length c1) (.slice A2 M.m.t.fs.length c2) (.slice A3 M.m.c.ls.length c3) (.int .i64 M.m.c.hand) (.int .i64 M.m.g.count) (.int .i64 M.m.g.next) (.int .i64 M.m.g.round) (.slice A4 M.m.g.os.length c4) (.int .i64 M.m.sp) (.slice A5 M.mk.length c5) (.int .i64 M.h),hmX.tS okT_me hS,ownsRow_oth hwX hS.oth (by decide)⟩
  | _+11,ho=>simp at ho
 intro xa wz hC hd;obtain⟨e1,e2,e3,e4,e5,ho,hm,hw⟩:=hd 10 (by decide);have HBZ:=Hd hC.1;have HW:=Hd hw;clear hw;simp only[fillA,Act.put,sA9,sB9,sC9];obtain⟨q0t,q1t,q2t,q3t,q4t,q5t,q6t,q7t,q8t,q9t,q10t⟩:=c11 ho;clear hd hC;go_wp2;refine bodyPost_ret (v:=.agg #[e1,e2,e3,.int .i64 M.m.c.hand,.int .i64 M.m.g.count,.int .i64 M.m.g.next,.int .i64 M.m.g.round,e4,.int .i64 M.m.sp,e5,.int .i64 M.h]) (by simp[results,Tryz.results50,go_sem,q0t,q1t,q2t,q3t,q4t,q5t,q6t,q7t,q8t,q9t,q10t]) rfl ⟨_,rfl,_,_,_,_,_,rfl,hm,HW.o,HBZ.o⟩
theorem l7Copy_any(vb vf vl vo vk:Value)(M:Me)(w:World)(hM:MeR w vb vf vl vo vk M)(h1:M.m.t.bs.length≤1048576)(h2:M.m.t.fs.length≤1048576)(h3:M.m.c.ls.length≤1048576)(h4:M.m.g.os.length≤1048576)(h5:M.mk.length≤1048576)(h6:1≤M.mk.length):
  Calls Tryz.prog 50 #[.agg #[vb,vf,vl,.int .i64 M.m.c.hand,.int .i64 M.m.g.count,.int .i64 M.m.g.next,.int .i64 M.m.g.round,vo,.int .i64 M.m.sp,vk,.int .i64 M.h]] w (Post2 fun v w'=>∃v1 v2 v3 v4 v5,v=.agg #[v1,v2,v3,.int .i64 M.m.c.hand,.int .i64 M.m.g.count,.int .i64 M.m.g.next,.int .i64 M.m.g.round,v4,.int .i64 M.m.sp,v5,.int .i64 M.h]∧MeM w.heap.size w' v1 v2 v3 v4 v5 M∧Below w.heap.size w w'):=
 (l7Copy_o vb vf vl vo vk M w hM h1 h2 h3 h4 h5 h6).mono fun _ _ ⟨v,e,v1,v2,v3,v4,v5,h,hm,_,hb⟩=>⟨v,e,v1,v2,v3,v4,v5,h,hm,hb⟩
theorem MV.sp16{m:Ma}(M:MV m):inR m.sp 16=true:=by
 obtain⟨k,o,hk,eo,ho⟩:=ownI_lt M.o;obtain⟨_,ht⟩:=tgv_parts M.g;obtain⟨o',eo',h1,_⟩:=tok_at ht (List.getElem?_eq_some_iff.1 eo).1;rw[eo]at eo';injection eo' with eo';rw[←ho,eo'];exact h1
end Go.Proofs.YtfbnokjdkhcgoaaGreatDoor
