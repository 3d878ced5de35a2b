/- A part of the proofs of this seat. -/
import Derived.WalkKit
import Derived.Lib.Hide
import Derived.Deep.QuietTactic
import Derived.BigQuiet
import Derived.Maps.AppendAt
import Derived.Deep.AppendLies
import Derived.RegionTactic
import Derived.OwnWalk
import Derived.Test.YtfbnokjdkhcgoaaGreatDoorProg
import Derived.KernelRfl
import Derived.StillTailTactics
set_option linter.unusedVariables false
set_option linter.unusedSimpArgs false
set_option maxRecDepth 1000000
set_option maxHeartbeats 16000000
namespace Go.Proofs.YtfbnokjdkhcgoaaGreatDoor
open Go.RowKit
theorem sA9 {α : Type _} (l : List α) (i : Nat) (a : α) : l.toArray.setIfInBounds i a = (l.set i a).toArray := by simp
theorem sB9 {α : Type _} {a b : α} {l : List α} : (a :: l).set 0 b = b :: l := rfl
theorem sC9 {α : Type _} {a b : α} {l : List α} {n : Nat} : (a :: l).set (n + 1) b = a :: l.set n b := rfl
def Hi (p : Prop) : Prop := p
theorem Hd {p : Prop} (h : p) : Hi p := h
theorem Hi.o {p : Prop} (h : Hi p) : p := h
structure Rd(B:Nat)(w:World)(sz:Nat)(A:Option Addr)(n:Nat)(xs:List Value):Prop where
 len:xs.length=n*sz
 at_:0<n→∃b o,A=some ⟨b,o,none⟩∧b<B∧∀j u,xs[j]?=some u→w.cell? ⟨b,o+j,none⟩=some u
section
variable {B B' : Nat} {w w' : World} {sz n : Nat} {A : Option Addr} {xs : List Value}
theorem Rd.keep(h:Rd B w sz A n xs)(hk:∀p:Addr,p.block<B→w'.cell? p=w.cell? p):Rd B w' sz A n xs:=
 ⟨h.len,fun hn=>let ⟨b,o,e,hb,hc⟩:=h.at_ hn;⟨b,o,e,hb,fun j u hu=>(hk _ hb).trans (hc j u hu)⟩⟩
theorem Rd.more(h:Rd B w sz A n xs)(hB:B≤B'):Rd B' w sz A n xs:=
 ⟨h.len,fun hn=>let ⟨b,o,e,hb,hc⟩:=h.at_ hn;⟨b,o,e,Nat.lt_of_lt_of_le hb hB,hc⟩⟩
theorem Rd.below(h:Rd B w sz A n xs)(hb:Below B w w'):Rd B w' sz A n xs:=h.keep fun _ hp=>hb.cell hp
theorem Rd.now(h:Rd B w sz A n xs)(hB:B≤w.heap.size)(hb:Below B w w'):Rd w'.heap.size w' sz A n xs:=(h.below hb).more (Nat.le_trans hB hb.size)
theorem Rd.nil_:Rd B w sz A 0 []:=⟨by simp,fun h=>absurd h (by omega)⟩
theorem Rd.alloc(h:Rd w.heap.size w sz A n xs)(o:Obj):Rd (w.alloc o).heap.size (w.alloc o) sz A n xs:=
 h.now (Nat.le_refl _) ((Below.refl _ _).alloc (Nat.le_refl _) o)
end
section
variable {a w w' : World}
theorem bR{w:World}:Below w.heap.size w w:=Below.refl _ _
theorem bA(h:Below a.heap.size a w){o:Obj}:Below a.heap.size a (w.alloc o):=h.alloc h.size o
theorem bT(h:Below a.heap.size a w)(k:Below w.heap.size w w'):Below a.heap.size a w':=h.trans (k.mono h.size)
theorem bD(h:Below a.heap.size a w):Below a.heap.size a w.drew:=h.drew
theorem bDN(h:Below a.heap.size a w){n:Nat}:Below a.heap.size a (w.drewN n):=⟨h.os,h.tape,h.output,h.size,h.block⟩
theorem bS(h:Below a.heap.size a w){p:Addr}(hp:a.heap.size≤p.block){u:Value}:Below a.heap.size a (w.setCell p u):=h.setCell hp u
theorem bG(h:Below a.heap.size a w){row:Option Nat}(hg:w.grownBy w' row)(hr:∀k,row=some k→a.heap.size≤k):Below a.heap.size a w':=h.grown hg h.size hr
end
structure Ext(w:World) where
 val:World
 ok:Below w.heap.size w val
instance {w:World}:Nonempty (Ext w):=⟨⟨w,bR⟩⟩
theorem wp_region_ext{P:Program}{id:Nat}{Q:Exit→Act→World→Prop}{a:Act}{w:World}{l:List Oper}(hm:P.follows .mixedOrders=true)(hB:Region.lexB .any l.toArray=true)
  (h:wpQuiet P l.toArray (fun w'=>∃x:Ext w,w'=x.val) (fun a'=>∀w',(∃x:Ext w,w'=x.val)→Q .normal a' w') l a):(Code.region id l.toArray true).wp P Q a w:=
 wp_region_quiet (C:=fun w'=>∃x:Ext w,w'=x.val) hm hB ⟨⟨w.drew,bD bR⟩,rfl⟩ (by simpa using h)
theorem ext_call{P:Program}{w:World}{f:FuncId}{args:Array Value}{v:Value}{x:Ext w}(h:Calls P f args x.val fun e w'=>e=.returned v∧Below x.val.heap.size x.val w'):
  Calls P f args x.val fun e w''=>e=.returned v∧∃y:Ext w,w''=y.val:=h.mono fun _ w' ⟨he,hb⟩=>⟨he,⟨w',bT x.ok hb⟩,rfl⟩
theorem ext_same{P:Program}{w:World}{f:FuncId}{args:Array Value}{v:Value}{x:Ext w}(h:Calls P f args x.val fun e w'=>e=.returned v∧x.val=w'):
  Calls P f args x.val fun e w''=>e=.returned v∧∃y:Ext w,w''=y.val:=h.mono fun _ _ ⟨he,hb⟩=>⟨he,x,hb.symm⟩
theorem xcell{w:World}{p:Addr}{v:Value}(h:w.cell? p=some v)(hp:p.block<w.heap.size):∀x:Ext w,x.val.cell? p=some v:=fun x=>(x.ok.cell hp).trans h
def Own(w:World)(g:Nat)(t:TypeId)(cs:Array Value):Prop:=w.heap[g]?=some (.cells cs t (0,0))
section
variable {a w w' : World} {g : Nat} {t : TypeId} {cs : Array Value}
theorem Own.lt(h:Own w g t cs):g<w.heap.size:=by
 rcases Nat.lt_or_ge g w.heap.size with hlt | hge
 ·exact hlt
 ·unfold Own at h;rw[Array.getElem?_eq_none hge]at h;cases h
theorem Own.cell(h:Own w g t cs)(i:Nat):w.cell? ⟨g,i,none⟩=cs[i]?:=by
 unfold Own at h;simp[World.cell?,h]
theorem Own.cell_(h:Own w g t cs)(i:Nat){v:Value}(e:cs[i]?=some v):w.cell? ⟨g,i,none⟩=some v:=(h.cell i).trans e
theorem Hi.c(h:Hi (Own w g t cs))(i:Nat)(v:Value)(e:cs[i]?=some v):w.cell? ⟨g,i,none⟩=some v:=(Hi.o h).cell_ i e
theorem Own.free(h:Own w g t cs)(i:Nat):w.frozen? ⟨g,i,none⟩=false:=by
 unfold Own at h;simp[World.frozen?,h]
theorem Own.new_(w:World)(t:TypeId)(cs:Array Value):Own (w.alloc (.cells cs t)) w.heap.size t cs:=heap_alloc_new w _
theorem Own.drewN(h:Own w g t cs){n:Nat}:Own (w.drewN n) g t cs:=h
theorem Own.drew(h:Own w g t cs):Own w.drew g t cs:=h
theorem Own.alloc(h:Own w g t cs){o:Obj}:Own (w.alloc o) g t cs:=(Below.heap_alloc w o g h.lt).trans h
theorem Own.far(h:Own w g t cs){p:Addr}(hp:g≠p.block){u:Value}:Own (w.setCell p u) g t cs:=(Below.heap_setCell w p u g hp).trans h
theorem Own.below(h:Own w g t cs)(hb:Below w.heap.size w w'):Own w' g t cs:=(hb.block g h.lt).trans h
theorem Own.set_(h:Own w g t cs)(i:Nat)(u:Value):Own (w.setCell ⟨g,i,none⟩ u) g t (cs.setIfInBounds i u):=by
 unfold Own at h⊢;simp[World.setCell,Array.getElem?_modify,h]
end
abbrev Key:=Int×Int
def kcells(l:List Key):List Value:=l.flatMap fun k=>[.int .i64 k.1,.int .i64 k.2]
theorem kcells_length(l:List Key):(kcells l).length=l.length*2:=by
 induction l with
 | nil=>rfl
 | cons x l ih=>simp only[kcells,List.flatMap_cons,List.length_append,List.length_cons,List.length_nil]at ih⊢;omega
theorem kcells_append(l m:List Key):kcells (l++m)=kcells l++kcells m:=by simp[kcells]
theorem kcells_get(l:List Key)(k:Nat)(hk:k<l.length):(kcells l)[k*2]?=some (.int .i64 l[k].1)∧(kcells l)[k*2+1]?=some (.int .i64 l[k].2):=by
 induction l generalizing k with
 | nil=>simp at hk
 | cons x l ih=>
  cases k with
  | zero=>simp[kcells]
  | succ k=>
   have:=ih k (by simpa using hk);have e1:(k+1)*2=k*2+1+1:=by omega
   rw[e1];exact this
def cutA(A:Option Addr)(cap lo sz:Nat):Option Addr:=if cap=lo then A else A.map (·.add (lo*sz))
theorem add_lit_(b o k:Nat):(⟨b,o,none⟩:Addr).add k=⟨b,o+k,none⟩:=by unfold Addr.add;split<;>simp_all
theorem Rd.cut{B:Nat}{w:World}{sz n:Nat}{A:Option Addr}{xs:List Value}(h:Rd B w sz A n xs){c lo hi:Nat}(h1:lo≤hi)(h2:hi≤n)(h3:n≤c):
  Rd B w sz (cutA A c lo sz) (hi-lo) ((xs.take (hi*sz)).drop (lo*sz)):=by
 refine⟨?_,fun hn=> ?_⟩
 ·rw[List.length_drop,List.length_take,h.len,Nat.min_eq_left (Nat.mul_le_mul_right _ h2),Nat.sub_mul]
 ·obtain⟨b,o,rfl,hb,hc⟩:=h.at_ (by omega);refine⟨b,o+lo*sz, ?_,hb,fun j u hu=> ?_⟩
  ·unfold cutA;rw[if_neg (by omega),Option.map_some,add_lit_]
  ·rw[Nat.add_assoc];apply hc;rw[List.getElem?_drop,List.getElem?_take]at hu;split at hu
   ·exact hu
   ·cases hu
abbrev Ks(B:Nat)(w:World)(A:Option Addr)(l:List Key):Prop:=Rd B w 2 A l.length (kcells l)
theorem Rd.key{B:Nat}{w:World}{A:Option Addr}{l:List Key}(h:Ks B w A l){k:Nat}(hk:k<l.length):
  ∃b o,A=some ⟨b,o,none⟩∧b<B∧w.cell? ⟨b,o+k*2,none⟩=some (.int .i64 l[k].1)∧w.cell? ⟨b,o+k*2+1,none⟩=some (.int .i64 l[k].2):=by
 obtain⟨b,o,e,hb,hc⟩:=h.at_ (by omega);have:=kcells_get l k hk;exact⟨b,o,e,hb,hc _ _ this.1,hc _ _ this.2⟩
section
variable {P : Program} (w : World) (t e : TypeId) (i : TypeInfo) (sz : Nat) (A : Option Addr) (n c : Nat)
theorem slice_hi(ht:P.underlying t=some (.slice e))(hi:P.info? e=some i)(h:Int)(h0:0≤h)(h1:h≤c):
  (Instr.slice t (.slice A n c) none (some (.int .i64 h)) none).run P w=.ok (.slice (cutA A c 0 sz) (h.toNat-0) (c-0)) w:=by
 have hc:(0≤h∧h≤(c:Int)):=⟨h0,h1⟩
 simp[Instr.slice,run_underlying ht,Instr.sliceBounds,Instr.sliceBound,asIntOf,hc,sizeOf,typeInfo,hi,cutA]
end
section
variable {w : World} {g : Nat} {t : TypeId} {a0 a1 a2 a3 a4 a5 a6 a7 a8 : Value}
theorem cells9(h:Own w g t #[a0,a1,a2,a3,a4,a5,a6,a7,a8]):w.cell? ⟨g,0,none⟩=some a0∧w.cell? ⟨g,1,none⟩=some a1∧w.cell? ⟨g,2,none⟩=some a2∧w.cell? ⟨g,3,none⟩=some a3∧w.cell? ⟨g,4,none⟩=some a4∧w.cell? ⟨g,5,none⟩=some a5∧w.cell? ⟨g,6,none⟩=some a6∧w.cell? ⟨g,7,none⟩=some a7∧w.cell? ⟨g,8,none⟩=some a8:=
 ⟨h.cell_ 0 rfl,h.cell_ 1 rfl,h.cell_ 2 rfl,h.cell_ 3 rfl,h.cell_ 4 rfl,h.cell_ 5 rfl,h.cell_ 6 rfl,h.cell_ 7 rfl,h.cell_ 8 rfl⟩
theorem free9{cs:Array Value}(h:Own w g t cs):w.frozen? ⟨g,0,none⟩=false∧w.frozen? ⟨g,1,none⟩=false∧w.frozen? ⟨g,2,none⟩=false∧w.frozen? ⟨g,3,none⟩=false∧w.frozen? ⟨g,4,none⟩=false∧w.frozen? ⟨g,5,none⟩=false∧w.frozen? ⟨g,6,none⟩=false∧w.frozen? ⟨g,7,none⟩=false∧w.frozen? ⟨g,8,none⟩=false:=
 ⟨h.free 0,h.free 1,h.free 2,h.free 3,h.free 4,h.free 5,h.free 6,h.free 7,h.free 8⟩
theorem set9z(h:Own w g t #[a0,a1,a2,a3,a4,a5,a6,a7,a8]):Own (((((((((w.setCell ⟨g,0,none⟩ (.slice none 0 0)).setCell ⟨g,1,none⟩ (.slice none 0 0)).setCell ⟨g,2,none⟩ (.slice none 0 0)).setCell ⟨g,3,none⟩ (.int .i64 0)).setCell ⟨g,4,none⟩ (.int .i64 0)).setCell ⟨g,5,none⟩ (.int .i64 0)).setCell ⟨g,6,none⟩ (.int .i64 0)).setCell ⟨g,7,none⟩ (.slice none 0 0)).setCell ⟨g,8,none⟩ (.int .i64 0)) g t #[.slice none 0 0,.slice none 0 0,.slice none 0 0,.int .i64 0,.int .i64 0,.int .i64 0,.int .i64 0,.slice none 0 0,.int .i64 0]:=by
 simpa using((((((((h.set_ 0 (.slice none 0 0)).set_ 1 (.slice none 0 0)).set_ 2 (.slice none 0 0)).set_ 3 (.int .i64 0)).set_ 4 (.int .i64 0)).set_ 5 (.int .i64 0)).set_ 6 (.int .i64 0)).set_ 7 (.slice none 0 0)).set_ 8 (.int .i64 0)
theorem box1(w:World)(c1:Array Value)(t1:TypeId):∃W,w.alloc (.cells c1 t1)=W∧Own W w.heap.size t1 c1∧Below w.heap.size w W∧W.heap.size=w.heap.size+1:=
 ⟨_,rfl,Own.new_ _ _ _,bA bR,by simp⟩
theorem box2(w:World)(c1:Array Value)(t1:TypeId)(c2:Array Value)(t2:TypeId):∃W,(w.alloc (.cells c1 t1)).alloc (.cells c2 t2)=W∧Own W w.heap.size t1 c1∧Own W (w.heap.size+1) t2 c2∧Below w.heap.size w W∧W.heap.size=w.heap.size+2:=
 ⟨_,rfl,(Own.new_ _ _ _).alloc,by have h:=Own.new_ (w.alloc (.cells c1 t1)) t2 c2;simpa using h,bA (bA bR),by simp⟩
theorem box3(w:World)(c1:Array Value)(t1:TypeId)(c2:Array Value)(t2:TypeId)(c3:Array Value)(t3:TypeId):∃W,((w.alloc (.cells c1 t1)).alloc (.cells c2 t2)).alloc (.cells c3 t3)=W∧Own W w.heap.size t1 c1∧Own W (w.heap.size+1) t2 c2∧Own W (w.heap.size+1+1) t3 c3∧Below w.heap.size w W∧W.heap.size=w.heap.size+3:=
 ⟨_,rfl,(Own.new_ _ _ _).alloc.alloc,by have h:=(Own.new_ (w.alloc (.cells c1 t1)) t2 c2).alloc (o:=.cells c3 t3);simpa using h,by have h:=Own.new_ ((w.alloc (.cells c1 t1)).alloc (.cells c2 t2)) t3 c3;simpa using h,bA (bA (bA bR)),by simp⟩
end
section
variable {w w' : World} {base : Nat} {e : TypeId} {sz : Nat} {v : Value} {n : Nat} {xs : List Value}
theorem own_rd(h:w.ownsRow base e sz v n xs):∃A c,v=.slice A n c∧n≤c∧c≤maxLen∧Rd w.heap.size w sz A n xs:=by
 rcases h.2 with⟨rfl,rfl⟩ | ⟨g,cap,cur,rfl,hb,hg,hc,hm,hs,ht⟩
 ·exact⟨none,0,rfl,Nat.le_refl _,by simp[maxLen],h.1,fun h=>absurd h (by omega)⟩
 ·refine⟨_,cap,rfl,hc,hm,h.1,fun _=>⟨g,0,rfl,Own.lt hg,fun j u hu=> ?_⟩⟩;rw[Nat.zero_add];have:=h.cells (g:=g) rfl j u hu
  rwa [add_lit_,Nat.zero_add]at this
theorem own_kept(h:w.ownsRow base e sz v n xs)(hb:Below w.heap.size w w'):w'.ownsRow base e sz v n xs:=
 h.kept (row:=none) ⟨hb.os,hb.tape,hb.output,hb.size,fun k hk _=>hb.block k hk⟩ (by cases v.ownBlock<;>simp)
theorem own_mono{base':Nat}(h:w.ownsRow base e sz v n xs)(hb:base'≤base):w.ownsRow base' e sz v n xs:=by
 refine⟨h.1, ?_⟩
 rcases h.2 with h2 | ⟨g,cap,cur,hv,hg,r⟩
 ·exact .inl h2
 ·exact .inr ⟨g,cap,cur,hv,Nat.le_trans hb hg,r⟩
theorem own_block(h:w.ownsRow base e sz v n xs):∀k,v.ownBlock=some k→base≤k:=fun k hk=>(h.lt k hk).1
end
section
variable {P : Program} (w : World)
theorem run_append_nil_(base:Nat)(t ty e:TypeId)(i:TypeInfo)(sz:Nat)(ht:P.underlying t=some (.slice e))(hi:P.info? e=some i)
  (v:Value) (n:Nat) (xs:List Value) (hown:w.ownsRow base e sz v n xs) (c:Nat):(Builtin.append_ #[t,t] ty #[v,.slice none 0 c]).run P w=.ok v w:=by
 rcases hown.2 with⟨rfl,rfl⟩ | ⟨g,cap,cur,rfl,_,_,hnc,_⟩
 ·simp[Builtin.append_,run_underlying ht,sizeOf,typeInfo,hi,Builtin.lenOf,Builtin.firstCells]
 ·simp[Builtin.append_,run_underlying ht,sizeOf,typeInfo,hi,Builtin.lenOf,Builtin.firstCells,hnc,storeCells]
theorem run_append_rd(base:Nat)(t ty e:TypeId)(i:TypeInfo)(z:Value)(sz bytes:Nat)(ht:P.underlying t=some (.slice e))(hi:P.info? e=some i)(hz:i.zero=some z)
  (hs:i.size=sz) (hby:i.bytes=bytes) (hzs:z.cells.size=sz) (hsz:0<sz)
  (v:Value) (n:Nat) (xs:List Value) (hown:w.ownsRow base e sz v n xs)
  (B:Nat) (A:Option Addr) (m c:Nat) (news:List Value) (hr:Rd B w sz A m news) (h1:∀u∈news,u.oneCell'=true)
  (h63:n+m≤maxLen) (hbytes:(n+m)*bytes≤140737488355328) (hbase:base≤w.heap.size):
  ∃v' w',(Builtin.append_ #[t,t] ty #[v,.slice A m c]).run P w=.ok v' w'∧w'.ownsRow base e sz v' (n+m) (xs++news)∧w.grownBy w' v.ownBlock∧
   (v'.ownBlock=v.ownBlock∨v'.ownBlock=some w.heap.size):=by
 have hcells:∀ad,A=some ad→∀j u,news[j]?=some u→w.cell? (ad.add j)=some u:=by
  intro ad e1 j u hu
  have hm:0<m:=by
   rcases Nat.eq_zero_or_pos m with h0 | h0
   ·have:=hr.len;rw[h0,Nat.zero_mul]at this;rw[List.length_eq_zero_iff.1 this]at hu;cases hu
   ·exact h0
  obtain⟨b,o,e2,_,hc⟩:=hr.at_ hm;rw[e1]at e2;injection e2 with e2;rw[e2,add_lit_];exact hc j u hu
 cases A with
 | none=>
  have hm:m=0:=by
   rcases Nat.eq_zero_or_pos m with h0 | h0
   ·exact h0
   ·obtain⟨b,o,e2,_⟩:=hr.at_ h0;cases e2
  subst hm;have hn:news=[]:=List.eq_nil_of_length_eq_zero (by simpa using hr.len);subst hn;exact⟨v,w,run_append_nil_ w base t ty e i sz ht hi v n xs hown c,by simpa using hown,World.grownBy.refl w _,.inl rfl⟩
 | some ad=>
  obtain⟨v',w',r1,r2,r3,_,r5⟩:=run_append_own_at (P:=P) w base t ty e i z sz bytes ht hi hz hs hby hzs hsz v n xs hown ad m c news hr.len (hcells ad rfl) h1 h63 hbytes hbase;exact⟨v',w',r1,r2,r3,r5⟩
theorem wp_append_rd{o:Oper}{a:Act}{K:Act→World→Prop}{Q:Exit→Act→World→Prop}(s x:Operand)(t:TypeId)
  (ho:o.op=.call {callee:=.builtin .append,args:=#[s,x],argTypes:=#[t,t]})
  (base:Nat) (e:TypeId) (i:TypeInfo) (z:Value) (sz bytes:Nat) (ht:P.underlying t=some (.slice e)) (hi:P.info? e=some i) (hz:i.zero=some z)
  (hs:i.size=sz) (hby:i.bytes=bytes) (hzs:z.cells.size=sz) (hsz:0<sz)
  (v:Value) (n:Nat) (xs:List Value) (hv:a.eval s=v) (hown:w.ownsRow base e sz v n xs)
  (B:Nat) (A:Option Addr) (m c:Nat) (news:List Value) (hx:a.eval x=.slice A m c) (hr:Rd B w sz A m news) (h1:∀u∈news,u.oneCell'=true)
  (h63:n+m≤maxLen) (hbytes:(n+m)*bytes≤140737488355328) (hbase:base≤w.heap.size)
  (h:∀v' w',w'.ownsRow base e sz v' (n+m) (xs++news)→w.grownBy w' v.ownBlock→(v'.ownBlock=v.ownBlock∨v'.ownBlock=some w.heap.size)→K (a.put o.dst v') w'):o.wp P a w K Q:=by
 obtain⟨v',w',hrun,h2,h3,h4⟩:=run_append_rd (P:=P) w base t o.type e i z sz bytes ht hi hz hs hby hzs hsz v n xs hown B A m c news hr h1 h63 hbytes hbase;unfold Oper.wp execOp;simp only[ho,resolve,invoke,builtin,Sem.run_bind,Sem.run_pure,Result.andThen_ok,List.map_toArray,List.map_cons,List.map_nil,hv,hx,hrun];exact h v' w' h2 h3 h4
theorem wpList_append_run{ops:Array Oper}{rest:List Oper}{o:Oper}{a:Act}{Q:Exit→Act→World→Prop}(hgd:o.guard=none)(s x:Operand)(t:TypeId)
  (ho:o.op=.call {callee:=.builtin .append,args:=#[s,x],argTypes:=#[t,t]}) (v y v':Value) (w':World) (hv:a.eval s=v) (hx:a.eval x=y)
  (hrun:(Builtin.append_ #[t,t] o.type #[v,y]).run P w=.ok v' w') (h:wpList P ops Q rest (a.put o.dst v') w'):wpList P ops Q (o::rest) a w:=
 wpList_plain hgd fun _ hK=>by
  unfold Oper.wp execOp;simp only[ho,resolve,invoke,builtin,Sem.run_bind,Sem.run_pure,Result.andThen_ok,List.map_toArray,List.map_cons,List.map_nil,hv,hx,hrun];exact hK _ _ h
end
def inR(n e:Int):Bool:=decide (0≤n) && decide (n<e)
theorem within_any(n e:Int)(w:World):Calls Tryz.prog 37 #[.int .i64 n,.int .i64 e] w fun r w'=>r=.returned (.bool (inR n e))∧w=w':=by
 by_cases h0:0≤n
 ·by_cases h1:n<e
  ·have H:Hi (inR n e=true):=by simp[Hi,inR,h0,h1]
   go_enter Tryz.func37,Tryz.ntmps37
   go_wp2;go_ret;exact⟨by rw[H.o];rfl,rfl⟩
  ·have H:Hi (inR n e=false):=by simp[Hi,inR,h1]
   go_enter Tryz.func37,Tryz.ntmps37
   go_wp2;go_ret;exact⟨by rw[H.o];rfl,rfl⟩
 ·have H:Hi (inR n e=false):=by simp[Hi,inR,h0]
  go_enter Tryz.func37,Tryz.ntmps37
  go_wp2;go_ret;exact⟨by rw[H.o];rfl,rfl⟩
def kval(k:Key):Bool:=inR k.1 16 && inR k.2 256
theorem keyValid_any(a b:Int)(w:World):Calls Tryz.prog 57 #[.agg #[.int .i64 a,.int .i64 b]] w fun r w'=>r=.returned (.bool (kval (a,b)))∧Below w.heap.size w w':=by
 by_cases h0:inR a 16=true
 ·have H:Hi (kval (a,b)=inR b 256):=by simp[Hi,kval,h0]
  go_enter Tryz.func57,Tryz.ntmps57
  go_wp2_with (go_at_call 37;refine(within_any _ _ _).mono ?_;rintro e w' ⟨rfl,rfl⟩)
  go_ret;exact⟨by rw[H.o];rfl,bA bR⟩
 ·have h0:inR a 16=false:=by simpa using h0
  have H:Hi (kval (a,b)=false):=by simp[Hi,kval,h0]
  go_enter Tryz.func57,Tryz.ntmps57
  go_wp2_with (go_at_call 37;refine(within_any _ _ _).mono ?_;rintro e w' ⟨rfl,rfl⟩)
  go_ret;exact⟨by rw[H.o];rfl,bA bR⟩
theorem key_info:(Tryz.prog.info? 54).map (fun i=>(i.zero,i.size,i.bytes))=some (some (.agg #[.int .i64 0,.int .i64 0]),2,16):=by kernel_rfl
theorem two_of{α β:Type}{f:α→β}{l:List α}{x y:β}(h:l.map f=[x,y]):∃a b,l=[a,b]∧f a=x∧f b=y:=by
 match l,h with
 | [a,b],h=>simp at h;exact⟨a,b,rfl,h.1,h.2⟩
def keq(a b c d:Int):Bool:=decide (a=c) && decide (b=d)
theorem eql_key(a b c d:Int)(w:World):(binOp .eql 54 (.agg #[.int .i64 a,.int .i64 b]) (.agg #[.int .i64 c,.int .i64 d])).run Tryz.prog w=.ok (.bool (keq a b c d)) w:=by
 have hu:Tryz.prog.underlying 54=some (.struct (Tryz.prog.fieldsOf 54)):=by kernel_rfl
 have hp:Tryz.prog.stoodInHeld 54=false:=by kernel_rfl
 have hf:(Tryz.prog.fieldsOf 54).toList.map (fun f=>(f.name,f.type,f.offset))=[("Space",3,0),("Page",3,1)]:=by kernel_rfl
 have h:∀e:Nat,(Op.equalIn (e+2) 54 (.agg #[.int .i64 a,.int .i64 b]) (.agg #[.int .i64 c,.int .i64 d])).run Tryz.prog w=.ok (keq a b c d) w:=by
  intro e;rw[run_equalIn_struct w (e+1) _ _ _ hu hp];obtain⟨f,g,hl,h1,h2⟩:=two_of hf;rw[hl];simp only[Prod.mk.injEq]at h1 h2;obtain⟨n1,t1,o1⟩:=h1;obtain⟨n2,t2,o2⟩:=h2;simp[Op.eqFields,n1,t1,o1,n2,t2,o2,part,run_equalIn_int,Tryz.underlying3,go_sem,keq];by_cases e1:a=c<;>by_cases e2:b=d<;>simp[e1,e2]
 simp only[binOp];simp[Op.equal,Op.maxDepth,h 9998]
theorem keq_true{a b c d:Int}(h:(a,b)=(c,d)):keq a b c d=true:=by
 injection h with h1 h2;simp[keq,h1,h2]
theorem keq_false{a b c d:Int}(h:¬(a,b)=(c,d)):keq a b c d=false:=by
 simp only[keq,Bool.and_eq_false_iff,decide_eq_false_iff_not];by_cases e:a=c
 ·right;rintro rfl;exact h (by rw[e])
 ·exact .inl e
def Post2(P:Value→World→Prop)(e:Ending)(w':World):Prop:=∃v,e=.returned v∧P v w'
theorem kcells_one(l:List Key):∀u∈kcells l,u.oneCell'=true:=by
 intro u hu;simp only[kcells,List.mem_flatMap,List.mem_cons,List.not_mem_nil,or_false]at hu;obtain⟨k,_,rfl | rfl⟩:=hu<;>rfl
theorem own_open{w:World}{base g c n:Nat}{e:TypeId}{sz:Nat}{xs:List Value}(h:w.ownsRow base e sz (.slice (some ⟨g,0,none⟩) n c) n xs)(_:0<n):
  base≤g∧n≤c∧c≤maxLen∧∃cur,Own w g e cur∧cur.size=c*sz∧cur.toList.take (n*sz)=xs:=by
 rcases h.2 with⟨h0,_⟩ | ⟨g',cap,cur,e1,hb,hg,hc,hm,hs,ht⟩
 ·cases h0
 ·injection e1 with e1 _ e2;injection e1 with e1;injection e1 with e1;subst e1 e2;exact⟨hb,hc,hm,cur,hg,hs,ht⟩
theorem Own.row{w:World}{g:Nat}{t:TypeId}{cs:Array Value}(h:Own w g t cs)(cs':Array Value):Own (w.setRow g cs') g t cs':=setRow_heap w g cs cs' t (0,0) h
theorem run_append_key(base:Nat)(W:World)(v:Value)(n:Nat)(l:List Key)(x y:Int)(hown:W.ownsRow base 54 2 v n (kcells l))(hn:l.length=n)(hs:n≤1048576)(hb:base≤W.heap.size):
  ∃v' w',(Builtin.append_ #[41,41] 41 #[v,.slice (some ⟨W.heap.size,0,none⟩) 1 1]).run Tryz.prog (W.alloc (.cells #[.int .i64 x,.int .i64 y] 54))=.ok v' w'∧
   w'.ownsRow base 54 2 v' (n+1) (kcells (l++[(x,y)]))∧(W.alloc (.cells #[.int .i64 x,.int .i64 y] 54)).grownBy w' v.ownBlock∧(v'.ownBlock=v.ownBlock∨v'.ownBlock=some (W.heap.size+1)):=by
 obtain⟨i0,hi0,hz0,hz1,hz2⟩:=info_parts key_info
 have hr:Rd (W.alloc (.cells #[.int .i64 x,.int .i64 y] 54)).heap.size (W.alloc (.cells #[.int .i64 x,.int .i64 y] 54)) 2 (some ⟨W.heap.size,0,none⟩) 1 (kcells [(x,y)]):=
  ⟨rfl,fun _=>⟨W.heap.size,0,rfl,by simp,fun j u hu=>by
   rw[Nat.zero_add,(Own.new_ W _ _).cell j]
   simpa[kcells]using hu⟩⟩
 have hm:n+1≤maxLen:=by simp only[maxLen];omega
 obtain⟨v',w',h1,h2,h3,h4⟩:=run_append_rd (P:=Tryz.prog) (W.alloc (.cells #[.int .i64 x,.int .i64 y] 54)) base 41 41 54 i0 _ 2 16 Tryz.underlying41 hi0 hz0 hz1 hz2 rfl (by omega)
  v n (kcells l) (hown.alloc _) _ _ 1 1 _ hr (kcells_one _) hm (by omega) (Nat.le_trans hb (by simp))
 exact⟨v',w',h1,by rw[kcells_append];exact h2,h3,by simpa using h4⟩
section
structure Enc(α:Type) where
 sz:Nat
 cs:α→List Value
 len:∀a,(cs a).length=sz
 one:∀a,∀u∈cs a,u.oneCell'=true
 pos:0<sz
namespace Enc
variable {α : Type} (E : Enc α)
def cells(l:List α):List Value:=l.flatMap E.cs
theorem cells_length(l:List α):(E.cells l).length=l.length*E.sz:=by
 induction l with
 | nil=>simp[cells]
 | cons x l ih=>
  simp only[cells,List.flatMap_cons,List.length_append,List.length_cons,E.len]at ih⊢;rw[ih,Nat.add_mul];omega
theorem cells_append(l m:List α):E.cells (l++m)=E.cells l++E.cells m:=by simp[cells]
theorem cells_one(l:List α):∀u∈E.cells l,u.oneCell'=true:=by
 intro u hu;obtain⟨a,_,h⟩:=List.mem_flatMap.1 hu;exact E.one a u h
theorem cells_cons(a:α)(l:List α):E.cells (a::l)=E.cs a++E.cells l:=rfl
theorem cells_single(a:α):E.cells [a]=E.cs a:=by simp[cells]
theorem cells_get{l:List α}{k j:Nat}{a:α}{u:Value}(h:l[k]?=some a)(hj:(E.cs a)[j]?=some u):(E.cells l)[k*E.sz+j]?=some u:=by
 have hlt:j<E.sz:=by rw[←E.len a];exact(List.getElem?_eq_some_iff.1 hj).1
 induction l generalizing k with
 | nil=>simp at h
 | cons x l ih=>
  rw[cells_cons]
  cases k with
  | zero=>
   simp at h;subst h;rw[Nat.zero_mul,Nat.zero_add,List.getElem?_append_left (by rw[E.len];exact hlt)];exact hj
  | succ k=>
   have e:(k+1)*E.sz+j=E.sz+(k*E.sz+j):=by rw[Nat.add_mul];omega
   rw[List.getElem?_append_right (by rw[E.len,e];omega),E.len,e,Nat.add_sub_cancel_left];exact ih (by simpa using h)
end Enc
abbrev Rs{α:Type}(E:Enc α)(B:Nat)(w:World)(A:Option Addr)(l:List α):Prop:=Rd B w E.sz A l.length (E.cells l)
section
variable {α : Type} {E : Enc α} {B : Nat} {w w' : World} {A : Option Addr} {l : List α}
theorem Rd.el(h:Rs E B w A l){k:Nat}{a:α}(hk:l[k]?=some a):
  ∃b o,A=some ⟨b,o,none⟩∧b<B∧∀j u,(E.cs a)[j]?=some u→w.cell? ⟨b,o+(k*E.sz+j),none⟩=some u:=by
 obtain⟨hlt,_⟩:=List.getElem?_eq_some_iff.1 hk;obtain⟨b,o,e,hb,hc⟩:=h.at_ (by omega);exact⟨b,o,e,hb,fun j u hj=>hc _ _ (E.cells_get hk hj)⟩
theorem rs_nil(A:Option Addr):Rs E B w A []:=⟨by simp[Enc.cells],fun h=>absurd h (by simp)⟩
theorem rs_own{base:Nat}{e:TypeId}{v:Value}{n:Nat}(hn:n=l.length)(h:w.ownsRow base e E.sz v n (E.cells l)):∃A c,v=.slice A l.length c∧l.length≤c∧c≤maxLen∧Rs E w.heap.size w A l:=by
 subst hn;exact own_rd h
end
theorem run_append_el{α:Type}(E:Enc α)(t e:TypeId)(i:TypeInfo)(z:Value)(bytes:Nat)(ht:Tryz.prog.underlying t=some (.slice e))(hi:Tryz.prog.info? e=some i)(hz:i.zero=some z)
  (hs:i.size=E.sz) (hby:i.bytes=bytes) (hzs:z.cells.size=E.sz) (hbb:bytes≤1000)
  (base:Nat) (W:World) (v:Value) (n:Nat) (l:List α) (a:α) (hown:W.ownsRow base e E.sz v n (E.cells l)) (hn:l.length=n) (hn2:n≤1048576) (hb:base≤W.heap.size):
  ∃v' w',(Builtin.append_ #[t,t] t #[v,.slice (some ⟨W.heap.size,0,none⟩) 1 1]).run Tryz.prog (W.alloc (.cells (E.cs a).toArray e))=.ok v' w'∧
   w'.ownsRow base e E.sz v' (n+1) (E.cells (l++[a]))∧(W.alloc (.cells (E.cs a).toArray e)).grownBy w' v.ownBlock∧(v'.ownBlock=v.ownBlock∨v'.ownBlock=some (W.heap.size+1)):=by
 have hr:Rd (W.alloc (.cells (E.cs a).toArray e)).heap.size (W.alloc (.cells (E.cs a).toArray e)) E.sz (some ⟨W.heap.size,0,none⟩) 1 (E.cells [a]):=
  ⟨by rw[E.cells_length];rfl,fun _=>⟨W.heap.size,0,rfl,by simp,fun j u hu=>by
   rw[Nat.zero_add,(Own.new_ W _ _).cell j];rw[E.cells_single]at hu
   simpa using hu⟩⟩
 have hm:n+1≤maxLen:=by simp only[maxLen];omega
 have hbytes:(n+1)*bytes≤140737488355328:=Nat.le_trans (Nat.mul_le_mul (show n+1≤1048577 by omega) hbb) (by omega)
 obtain⟨v',w',h1,h2,h3,h4⟩:=run_append_rd (P:=Tryz.prog) (W.alloc (.cells (E.cs a).toArray e)) base t t e i z E.sz bytes ht hi hz hs hby hzs E.pos
  v n (E.cells l) (hown.alloc _) _ _ 1 1 _ hr (E.cells_one _) hm hbytes (Nat.le_trans hb (by simp))
 exact⟨v',w',h1,by rw[E.cells_append];exact h2,h3,by simpa using h4⟩
structure MineE{α:Type}(E:Enc α)(e:TypeId)(B:Nat)(w:World)(A:Option Addr)(l:List α):Prop where
 is:Rs E w.heap.size w A l
 own:0<l.length→∃g cs,A=some ⟨g,0,none⟩∧B≤g∧Own w g e cs∧l.length*E.sz≤cs.size
section
variable {α : Type} {E : Enc α} {e : TypeId} {B : Nat} {w w' : World} {A : Option Addr} {l : List α}
theorem MineE.nil_(A:Option Addr):MineE E e B w A []:=⟨rs_nil A,fun h=>absurd h (by simp)⟩
theorem mine_own{v:Value}{n:Nat}(hn:n=l.length)(h:w.ownsRow B e E.sz v n (E.cells l)):∃A c,v=.slice A l.length c∧l.length≤c∧c≤maxLen∧MineE E e B w A l:=by
 obtain⟨A,c,rfl,h1,h2,h3⟩:=rs_own hn h;refine⟨A,c,rfl,h1,h2,h3,fun hl=> ?_⟩
 rcases h.2 with⟨h4,_⟩ | ⟨g,cap,cur,hv,hg,ho,hc,_,hs,_⟩
 ·injection h4 with _ h4;omega
 ·injection hv with hA _ hcc;refine⟨g,cur,hA,hg,ho, ?_⟩;rw[hs];exact Nat.mul_le_mul_right _ (by omega)
theorem MineE.below(h:MineE E e B w A l)(hb:Below w.heap.size w w'):MineE E e B w' A l:=
 ⟨h.is.now (Nat.le_refl _) hb,fun hl=>let ⟨g,cs,e,hg,ho,hs⟩:=h.own hl;⟨g,cs,e,hg,ho.below hb,hs⟩⟩
end
theorem slice_max{P:Program}(w:World)(t e:TypeId)(i:TypeInfo)(A:Option Addr)(n c:Nat)(ht:P.underlying t=some (.slice e))(hi:P.info? e=some i)(hn:n≤c):
  (Instr.slice t (.slice A n c) none (some (.int .i64 (n:Int))) (some (.int .i64 (n:Int)))).run P w=.ok (.slice A n n) w:=by
 have h1:(0≤(n:Int)∧(n:Int)≤(c:Int)):=⟨by omega,by omega⟩
 simp[Instr.slice,run_underlying ht,Instr.sliceBounds,Instr.sliceBound,asIntOf,h1,sizeOf,typeInfo,hi];cases A<;>simp[Addr.add]<;>(intro hh;exfalso;omega)
end
structure Fr where
 used:Bool
 s:Int
 p:Int
 r:Int
 n:Int
 deriving DecidableEq
structure Tab where
 bs:List Int
 fs:List Fr
structure Ln where
 v:Bool
 t:Int
 p:Int
 f:Int
 r:Int
 w:Bool
 deriving DecidableEq
structure Ca where
 ls:List Ln
 hand:Int
structure Tg where
 count:Int
 next:Int
 round:Int
 os:List (Int×Int)
structure Ma where
 t:Tab
 c:Ca
 g:Tg
 sp:Int
def frz:Fr:=⟨false,0,0,0,-1⟩
def lnz:Ln:=⟨false,0,0,0,0,false⟩
def tabz:Tab:=⟨[],[]⟩
def caz:Ca:=⟨[],0⟩
def tgz:Tg:=⟨0,0,0,[]⟩
def maz:Ma:=⟨tabz,caz,tgz,0⟩
def intE:Enc Int where
 sz:=1
 cs:=fun a=>[.int .i64 a]
 len:=fun _=>rfl
 one:=fun a u hu=>by simp at hu;rw[hu];rfl
 pos:=by decide
def boE:Enc Bool where
 sz:=1
 cs:=fun a=>[.bool a]
 len:=fun _=>rfl
 one:=fun a u hu=>by simp at hu;rw[hu];rfl
 pos:=by decide
def owE:Enc (Int×Int) where
 sz:=2
 cs:=fun a=>[.int .i64 a.1,.int .i64 a.2]
 len:=fun _=>rfl
 one:=fun a u hu=>by simp at hu;rcases hu with rfl | rfl<;>rfl
 pos:=by decide
def frE:Enc Fr where
 sz:=5
 cs:=fun a=>[.bool a.used,.int .i64 a.s,.int .i64 a.p,.int .i64 a.r,.int .i64 a.n]
 len:=fun _=>rfl
 one:=fun a u hu=>by simp at hu;rcases hu with rfl | rfl | rfl | rfl | rfl<;>rfl
 pos:=by decide
def lnE:Enc Ln where
 sz:=6
 cs:=fun a=>[.bool a.v,.int .i64 a.t,.int .i64 a.p,.int .i64 a.f,.int .i64 a.r,.bool a.w]
 len:=fun _=>rfl
 one:=fun a u hu=>by simp at hu;rcases hu with rfl | rfl | rfl | rfl | rfl | rfl<;>rfl
 pos:=by decide
def SlR{α:Type}(E:Enc α)(w:World)(v:Value)(l:List α):Prop:=∃A c,v=.slice A l.length c∧l.length≤c∧c≤maxLen∧Rs E w.heap.size w A l
def SlM{α:Type}(E:Enc α)(e:TypeId)(base:Nat)(w:World)(v:Value)(l:List α):Prop:=∃A c,v=.slice A l.length c∧l.length≤c∧c≤maxLen∧MineE E e base w A l
section
variable {α : Type} {E : Enc α} {e : TypeId} {base : Nat} {w w' : World} {v : Value} {l : List α}
theorem SlM.r(h:SlM E e base w v l):SlR E w v l:=let ⟨A,c,h1,h2,h3,h4⟩:=h;⟨A,c,h1,h2,h3,h4.is⟩
theorem SlR.now(h:SlR E w v l)(hb:Below w.heap.size w w'):SlR E w' v l:=let ⟨A,c,h1,h2,h3,h4⟩:=h;⟨A,c,h1,h2,h3,h4.now (Nat.le_refl _) hb⟩
theorem SlM.now(h:SlM E e base w v l)(hb:Below w.heap.size w w'):SlM E e base w' v l:=let ⟨A,c,h1,h2,h3,h4⟩:=h;⟨A,c,h1,h2,h3,h4.below hb⟩
theorem SlR.nil_(w:World):SlR E w (.slice none 0 0) []:=⟨none,0,rfl,Nat.le_refl _,by simp[maxLen],rs_nil _⟩
theorem SlM.nil_(w:World):SlM E e base w (.slice none 0 0) []:=⟨none,0,rfl,Nat.le_refl _,by simp[maxLen],MineE.nil_ _⟩
theorem slm_own{n:Nat}(hn:n=l.length)(h:w.ownsRow base e E.sz v n (E.cells l)):SlM E e base w v l:=by
 obtain⟨A,c,h1,h2,h3,h4⟩:=mine_own hn h;exact⟨A,c,h1,h2,h3,h4⟩
theorem SlM.mono{base':Nat}(h:SlM E e base w v l)(hb:base'≤base):SlM E e base' w v l:=by
 obtain⟨A,c,h1,h2,h3,h4,h5⟩:=h;exact⟨A,c,h1,h2,h3,h4,fun hl=>let ⟨g,cs,e1,e2,e3⟩:=h5 hl;⟨g,cs,e1,Nat.le_trans hb e2,e3⟩⟩
end
structure TaR(w:World)(vb vf:Value)(t:Tab):Prop where
 b:SlR intE w vb t.bs
 f:SlR frE w vf t.fs
structure TaM(base:Nat)(w:World)(vb vf:Value)(t:Tab):Prop where
 b:SlM intE 3 base w vb t.bs
 f:SlM frE 80 base w vf t.fs
theorem TaM.r{base:Nat}{w:World}{vb vf:Value}{t:Tab}(h:TaM base w vb vf t):TaR w vb vf t:=⟨h.b.r,h.f.r⟩
theorem TaR.now{w w':World}{vb vf:Value}{t:Tab}(h:TaR w vb vf t)(hb:Below w.heap.size w w'):TaR w' vb vf t:=⟨h.b.now hb,h.f.now hb⟩
theorem TaM.now{base:Nat}{w w':World}{vb vf:Value}{t:Tab}(h:TaM base w vb vf t)(hb:Below w.heap.size w w'):TaM base w' vb vf t:=⟨h.b.now hb,h.f.now hb⟩
theorem inR_iff{n e:Int}:inR n e=true↔0≤n∧n<e:=by unfold inR;rw[Bool.and_eq_true,decide_eq_true_eq,decide_eq_true_eq]
theorem bool_ff{b:Bool}(h:¬b=true):b=false:=by simpa using h
theorem l1Space_any(n:Int)(w:World):Calls Tryz.prog 198 #[.int .i64 n] w fun r w'=>r=.returned (.bool (inR n 16))∧w=w':=by
 by_cases h0:0≤n
 ·have H:Hi (inR n 16=decide (n<16)):=by simp[Hi,inR,h0]
  go_enter Tryz.func198,Tryz.ntmps198
  go_wp2;go_ret;exact⟨by rw[H.o];rfl,rfl⟩
 ·have H:Hi (inR n 16=false):=by simp[Hi,inR,h0]
  go_enter Tryz.func198,Tryz.ntmps198
  go_wp2;go_ret;exact⟨by rw[H.o];rfl,rfl⟩
theorem l1Page_any(n:Int)(w:World):Calls Tryz.prog 48 #[.int .i64 n] w fun r w'=>r=.returned (.bool (inR n 256))∧w=w':=by
 by_cases h0:0≤n
 ·have H:Hi (inR n 256=decide (n<256)):=by simp[Hi,inR,h0]
  go_enter Tryz.func48,Tryz.ntmps48
  go_wp2;go_ret;exact⟨by rw[H.o];rfl,rfl⟩
 ·have H:Hi (inR n 256=false):=by simp[Hi,inR,h0]
  go_enter Tryz.func48,Tryz.ntmps48
  go_wp2;go_ret;exact⟨by rw[H.o];rfl,rfl⟩
theorem one_box{w w1:World}{t:TypeId}{cs:Array Value}(hb:Below (w.alloc (.cells cs t)).heap.size (w.alloc (.cells cs t)) w1):Own w1 w.heap.size t cs∧Below w.heap.size w w1:=
 ⟨(Own.new_ w t cs).below hb,bT (bA bR) hb⟩
end Go.Proofs.YtfbnokjdkhcgoaaGreatDoor
