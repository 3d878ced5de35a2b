/- A part of the proofs of this seat. -/
import Derived.Test.YtfbnokjdkhcgoaaGreatDoorCMcI
set_option linter.unusedVariables false
set_option linter.unusedSimpArgs false
set_option maxRecDepth 1000000
set_option maxHeartbeats 16000000
namespace Go.Proofs.YtfbnokjdkhcgoaaGreatDoor
open Go.RowKit
structure EOwn{α:Type}(E:Enc α)(e:TypeId)(w:World)(g:Nat)(l:List α):Prop where
 own:∃cs,Own w g e cs∧cs.size=l.length*E.sz∧∀j,j<l.length*E.sz→cs[j]?=(E.cells l)[j]?
theorem EOwn.slm{α:Type}{E:Enc α}{e:TypeId}{w:World}{g B:Nat}{l:List α}(h:EOwn E e w g l)(hB:B≤g)(hl:l.length≤maxLen):SlM E e B w (.slice (some ⟨g,0,none⟩) l.length l.length) l:=by
 obtain⟨cs,h1,h2,h3⟩:=h.own;refine slm_of rfl (Nat.le_refl _) hl ⟨⟨E.cells_length l,fun _=>⟨g,0,rfl,h1.lt,fun j u hu=> ?_⟩⟩,fun _=>⟨g,cs,rfl,hB,h1,by omega⟩⟩;obtain⟨hj,_⟩:=List.getElem?_eq_some_iff.1 hu;rw[E.cells_length]at hj;rw[Nat.zero_add,h1.cell,h3 j hj,hu]
structure Tch(lo hi:Nat)(w w':World):Prop where
 os:w'.os=w.os
 tape:w'.tape=w.tape
 output:w'.output=w.output
 size:w.heap.size≤w'.heap.size
 block:∀k:Nat,k<w.heap.size→¬(lo≤k∧k<hi)→w'.heap[k]?=w.heap[k]?
section
variable {lo hi : Nat} {w w' w'' a : World}
theorem Tch.trans(h:Tch lo hi w w')(k:Tch lo hi w' w''):Tch lo hi w w'':=
 ⟨k.os.trans h.os,k.tape.trans h.tape,k.output.trans h.output,Nat.le_trans h.size k.size,fun j hj hn=>(k.block j (Nat.lt_of_lt_of_le hj h.size) hn).trans (h.block j hj hn)⟩
theorem Tch.grown{r:Option Nat}(h:w.grownBy w' r)(hr:∀k,r=some k→lo≤k∧k<hi):Tch lo hi w w':=
 ⟨h.os,h.tape,h.output,h.size,fun j hj hn=>h.block j hj (fun e=>hn (hr j e.symm))⟩
theorem Tch.of_below(h:Below w.heap.size w w'):Tch lo hi w w':=⟨h.os,h.tape,h.output,h.size,fun j hj _=>h.block j hj⟩
theorem Tch.below(h:Tch lo hi w w')(hb:Below a.heap.size a w)(hl:a.heap.size≤lo):Below a.heap.size a w':=
 ⟨h.os.trans hb.os,h.tape.trans hb.tape,h.output.trans hb.output,Nat.le_trans hb.size h.size,fun j hj=>(h.block j (Nat.lt_of_lt_of_le hj hb.size) (by omega)).trans (hb.block j hj)⟩
end
def rowOf(n:Nat)(A:Option Addr):Option Nat:=if n=0 then none else A.map (·.block)
theorem rowOf_some{n g:Nat}{o:Nat}(h:n≠0):rowOf n (some ⟨g,o,none⟩)=some g:=by unfold rowOf;rw[if_neg h];rfl
theorem MineE.row{α:Type}{E:Enc α}{e:TypeId}{B:Nat}{w:World}{A:Option Addr}{l:List α}(h:MineE E e B w A l):∀k,rowOf l.length A=some k→B≤k∧k<w.heap.size:=by
 intro k hk;unfold rowOf at hk;split at hk
 ·cases hk
 ·obtain⟨g,cs,rfl,hb,ho,_⟩:=h.own (by omega);have:=ho.lt;simp at hk;omega
def mkE(b:Nat→Bool)(sz:Nat)(k0:Int)(i:Nat):Value:=if b (i % sz)=true then .bool ((k0+(i:Int)) % 3 == 0)else .int .i64 (k0+(i:Int))
structure Mk(f:Nat→Value)(sz:Nat)(e:TypeId)(w:World)(A:Option Addr)(n:Nat):Prop where
 own:0<n→∃g cs,A=some ⟨g,0,none⟩∧Own w g e cs∧n*sz≤cs.size∧∀i,i<n*sz→cs[i]?=some (f i)
theorem Mk.now{f:Nat→Value}{sz:Nat}{e:TypeId}{w w':World}{A:Option Addr}{n:Nat}(h:Mk f sz e w A n)(hb:Below w.heap.size w w'):Mk f sz e w' A n:=
 ⟨fun hn=>let ⟨g,cs,e,ho,hs,hc⟩:=h.own hn;⟨g,cs,e,ho.below hb,hs,hc⟩⟩
theorem Mk.other{f:Nat→Value}{sz:Nat}{e e':TypeId}{w w':World}{A A':Option Addr}{n n':Nat}(h:Mk f sz e w A n)(hg:w.grownBy w' (rowOf n' A'))(ho:0<n'→∃g cs,A'=some ⟨g,0,none⟩∧Own w g e' cs)(hne:e≠e'):Mk f sz e w' A n:=by
 refine⟨fun hn=> ?_⟩;obtain⟨g,cs,e1,o1,hs,hc⟩:=h.own hn;refine⟨g,cs,e1,(hg.block g o1.lt (fun hk=> ?_)).trans o1,hs,hc⟩;by_cases h0:n'=0
 ·rw[h0]at hk;cases hk
 ·obtain⟨g',cs',rfl,o2⟩:=ho (by omega);rw[rowOf_some h0]at hk;injection hk with hk;subst hk;have h3:=o1.symm.trans o2;injection h3 with h3;injection h3 with _ h3;exact hne h3
def bInt:Nat→Bool:=(fun d=>false)
def bFrame:Nat→Bool:=(fun d=>d == 0)
def bLine:Nat→Bool:=(fun d=>d == 0 || d == 5)
def bOwn:Nat→Bool:=(fun d=>false)
section
variable {p : TypeId → Prop} {w w' w'' : World} {e e' : TypeId} {A : Option Addr} {n : Nat}
theorem Mk.oth{f:Nat→Value}{sz:Nat}(h:Mk f sz e w A n)(hg:Oth p w w')(hne:¬p e):Mk f sz e w' A n:=
 ⟨fun hn=>let ⟨g,cs,e1,o1,hs,hc⟩:=h.own hn;⟨g,cs,e1,hg.2 g _ cs o1 hne,hs,hc⟩⟩
end
structure MkM(k0:Int)(w:World)(A1 A2 A3 A4:Option Addr)(n1 n2 n3 n4:Nat):Prop where
 b:Mk (mkE bInt 1 k0) 1 3 w A1 n1
 f:Mk (mkE bFrame 5 (k0+(n1:Int))) 5 80 w A2 n2
 l:Mk (mkE bLine 6 (k0+(n1:Int)+5*(n2:Int))) 6 50 w A3 n3
 o:Mk (mkE bOwn 2 (k0+(n1:Int)+5*(n2:Int)+6*(n3:Int))) 2 186 w A4 n4
theorem MkM.now{k0:Int}{w w':World}{A1 A2 A3 A4:Option Addr}{n1 n2 n3 n4:Nat}(h:MkM k0 w A1 A2 A3 A4 n1 n2 n3 n4)(hb:Below w.heap.size w w'):MkM k0 w' A1 A2 A3 A4 n1 n2 n3 n4:=⟨h.b.now hb,h.f.now hb,h.l.now hb,h.o.now hb⟩
theorem MineE.farT{α:Type}{E:Enc α}{e ty:TypeId}{B g i:Nat}{w:World}{A:Option Addr}{l:List α}{cs:Array Value}{u:Value}(h:MineE E e B w A l)(ho:Own w g ty cs)(hne:ty≠e):MineE E e B (w.setCell ⟨g,i,none⟩ u) A l:=by
 rcases Nat.eq_zero_or_pos l.length with hl | hl
 ·exact⟨⟨h.is.len,fun hn=>absurd hn (by omega)⟩,fun hn=>absurd hn (by omega)⟩
 ·obtain⟨g2,cs2,rfl,_,ho2,_⟩:=h.own hl;refine h.other (p:=⟨g,i,none⟩) (fun hg=> ?_);replace hg:g=g2:=hg;subst hg;unfold Own at ho ho2;rw[ho]at ho2;injection ho2 with ho2;injection ho2 with _ ho2;exact hne ho2
theorem SlM.farT{α:Type}{E:Enc α}{e ty:TypeId}{B g i:Nat}{w:World}{v:Value}{l:List α}{cs:Array Value}{u:Value}(h:SlM E e B w v l)(ho:Own w g ty cs)(hne:ty≠e):SlM E e B (w.setCell ⟨g,i,none⟩ u) v l:=by
 obtain⟨A,c,h1,h2,h3,h4⟩:=h;exact⟨A,c,h1,h2,h3,h4.farT ho hne⟩
theorem MaM.farT{B g i:Nat}{w:World}{vb vf vl vo:Value}{m:Ma}{cs:Array Value}{u:Value}(h:MaM B w vb vf vl vo m)(ho:Own w g 34 cs):MaM B (w.setCell ⟨g,i,none⟩ u) vb vf vl vo m:=
 ⟨⟨h.t.b.farT ho (by decide),h.t.f.farT ho (by decide)⟩,h.l.farT ho (by decide),h.o.farT ho (by decide)⟩
theorem MaM.far9{B g:Nat}{w:World}{vb vf vl vo:Value}{m:Ma}{cs:Array Value}(h:MaM B w vb vf vl vo m)(ho:Own w g 34 cs)(u0 u1 u2 u3 u4 u5 u6 u7 u8:Value):
  MaM B (((((((((w.setCell ⟨g,0,none⟩ u0).setCell ⟨g,1,none⟩ u1).setCell ⟨g,2,none⟩ u2).setCell ⟨g,3,none⟩ u3).setCell ⟨g,4,none⟩ u4).setCell ⟨g,5,none⟩ u5).setCell ⟨g,6,none⟩ u6).setCell ⟨g,7,none⟩ u7).setCell ⟨g,8,none⟩ u8) vb vf vl vo m:=by
 have o1:=ho.set_ 0 u0;have o2:=o1.set_ 1 u1;have o3:=o2.set_ 2 u2;have o4:=o3.set_ 3 u3;have o5:=o4.set_ 4 u4;have o6:=o5.set_ 5 u5;have o7:=o6.set_ 6 u6;have o8:=o7.set_ 7 u7;exact((((((((h.farT ho).farT o1).farT o2).farT o3).farT o4).farT o5).farT o6).farT o7).farT o8
theorem Own.far9{g h:Nat}{w:World}{ty:TypeId}{cs:Array Value}(ho:Own w h ty cs)(hne:h≠g)(u0 u1 u2 u3 u4 u5 u6 u7 u8:Value):
  Own (((((((((w.setCell ⟨g,0,none⟩ u0).setCell ⟨g,1,none⟩ u1).setCell ⟨g,2,none⟩ u2).setCell ⟨g,3,none⟩ u3).setCell ⟨g,4,none⟩ u4).setCell ⟨g,5,none⟩ u5).setCell ⟨g,6,none⟩ u6).setCell ⟨g,7,none⟩ u7).setCell ⟨g,8,none⟩ u8) h ty cs:=
 ((((((((ho.far hne).far hne).far hne).far hne).far hne).far hne).far hne).far hne).far hne
theorem Own.set9{g:Nat}{w:World}{ty:TypeId}{a0 a1 a2 a3 a4 a5 a6 a7 a8:Value}(ho:Own w g ty #[a0,a1,a2,a3,a4,a5,a6,a7,a8])(u0 u1 u2 u3 u4 u5 u6 u7 u8:Value):
  Own (((((((((w.setCell ⟨g,0,none⟩ u0).setCell ⟨g,1,none⟩ u1).setCell ⟨g,2,none⟩ u2).setCell ⟨g,3,none⟩ u3).setCell ⟨g,4,none⟩ u4).setCell ⟨g,5,none⟩ u5).setCell ⟨g,6,none⟩ u6).setCell ⟨g,7,none⟩ u7).setCell ⟨g,8,none⟩ u8) g ty #[u0,u1,u2,u3,u4,u5,u6,u7,u8]:=by
 have h:=((((((((ho.set_ 0 u0).set_ 1 u1).set_ 2 u2).set_ 3 u3).set_ 4 u4).set_ 5 u5).set_ 6 u6).set_ 7 u7).set_ 8 u8;simpa using h
theorem EOwn.rs{α:Type}{E:Enc α}{e:TypeId}{w:World}{g:Nat}{l:List α}(h:EOwn E e w g l):Rs E w.heap.size w (some ⟨g,0,none⟩) l:=by
 obtain⟨cs,h1,h2,h3⟩:=h.own;refine⟨E.cells_length l,fun _=>⟨g,0,rfl,h1.lt,fun j u hu=> ?_⟩⟩;obtain⟨hj,_⟩:=List.getElem?_eq_some_iff.1 hu;rw[E.cells_length]at hj;rw[Nat.zero_add,h1.cell,h3 j hj,hu]
theorem EOwn.oth{α:Type}{E:Enc α}{e:TypeId}{w w':World}{g:Nat}{l:List α}{p:TypeId→Prop}(h:EOwn E e w g l)(ho:Oth p w w')(hp:¬p e):EOwn E e w' g l:=
 let ⟨⟨cs,h1,h2,h3⟩⟩:=h;⟨⟨cs,ho.2 g _ cs h1 hp,h2,h3⟩⟩
inductive RK where
 | eq (u:Value)
 | ma (m:Ma)
 | sl (fs:List Int)
 | tup (m:Ma) (o:Bool)
 | box
 | boxed (m:Ma)
def RK.at_(b si j:Nat):RK→Value→World→Prop
 | .eq u0,u,_=>u=u0
 | .ma m,u,v=>∃e1 e2 e3 e4,u=.agg #[e1,e2,e3,.int .i64 m.c.hand,.int .i64 m.g.count,.int .i64 m.g.next,.int .i64 m.g.round,e4,.int .i64 m.sp]∧MaM b v e1 e2 e3 e4 m
 | .sl fs,u,v=>∃g,u=.slice (some ⟨g,0,none⟩) fs.length fs.length∧EOwn intE 3 v g fs
 | .tup m o,u,v=>∃e1 e2 e3 e4,u=.tuple #[.agg #[e1,e2,e3,.int .i64 m.c.hand,.int .i64 m.g.count,.int .i64 m.g.next,.int .i64 m.g.round,e4,.int .i64 m.sp],.bool o]∧MaM b v e1 e2 e3 e4 m
 | .box,u,v=>∃g a0 a1 a2 a3 a4 a5 a6 a7 a8,u=.pointer (some ⟨g,0,none⟩)∧b≤g∧Own v g 34 #[a0,a1,a2,a3,a4,a5,a6,a7,a8]
 | .boxed m,u,v=>j=si∧∃g e1 e2 e3 e4,u=.pointer (some ⟨g,0,none⟩)∧b≤g∧Own v g 34 #[e1,e2,e3,.int .i64 m.c.hand,.int .i64 m.g.count,.int .i64 m.g.next,.int .i64 m.g.round,e4,.int .i64 m.sp]∧MaM b v e1 e2 e3 e4 m
def tA(si i:Nat)(v v':World):Prop:=if i=si then Oth (fun e=>e=34) v v'∧(∀g a0 a1 a2 a3 a4 a5 a6 a7 a8,Own v g 34 #[a0,a1,a2,a3,a4,a5,a6,a7,a8]→∃b0 b1 b2 b3 b4 b5 b6 b7 b8,Own v' g 34 #[b0,b1,b2,b3,b4,b5,b6,b7,b8])else Below v.heap.size v v'
theorem tA.oth{si i:Nat}{v v':World}(h:tA si i v v'):Oth (fun e=>e=34) v v':=by
 unfold tA at h;split at h
 ·exact h.1
 ·exact Oth.of_below h
theorem Own.ne{w:World}{g g2:Nat}{t t2:TypeId}{cs cs2:Array Value}(h:Own w g t cs)(h2:Own w g2 t2 cs2)(hne:t≠t2):g≠g2:=by
 rintro rfl;unfold Own at h h2;rw[h]at h2;injection h2 with h2;injection h2 with _ h2;exact hne h2
theorem MineE.wln{e:TypeId}{B:Nat}{w:World}{g:Nat}{l:List Ln}(h:MineE lnE e B w (some ⟨g,0,none⟩) l){k:Nat}(hk:k<l.length)(x:Ln):
  MineE lnE e B ((((((w.setCell ⟨g,k*6,none⟩ (.bool x.v)).setCell ⟨g,k*6+1,none⟩ (.int .i64 x.t)).setCell ⟨g,k*6+2,none⟩ (.int .i64 x.p)).setCell ⟨g,k*6+3,none⟩ (.int .i64 x.f)).setCell ⟨g,k*6+4,none⟩ (.int .i64 x.r)).setCell ⟨g,k*6+5,none⟩ (.bool x.w)) (some ⟨g,0,none⟩) (l.set k x):=by
 obtain⟨g2,cs,e1,hB,ho,hs⟩:=h.own (by omega);injection e1 with e1;injection e1 with e1;subst e1;have hs2:l.length*6≤cs.size:=by simpa[lnE]using hs
 refine h.write ho ((((((ho.set_ (k*6) _).set_ (k*6+1) _).set_ (k*6+2) _).set_ (k*6+3) _).set_ (k*6+4) _).set_ (k*6+5) _) (by simp) hk x (fun j u hj=> ?_) (fun i hi=> ?_)
 ·simp only[lnE]at hj⊢
  match j,hj with
  | 0,hj=>simp at hj;subst hj;simp[Array.getElem?_setIfInBounds];omega
  | 1,hj=>simp at hj;subst hj;simp[Array.getElem?_setIfInBounds];omega
  | 2,hj=>simp at hj;subst hj;simp[Array.getElem?_setIfInBounds];omega
  | 3,hj=>simp at hj;subst hj;simp[Array.getElem?_setIfInBounds];omega
  | 4,hj=>simp at hj;subst hj;simp[Array.getElem?_setIfInBounds];omega
  | 5,hj=>simp at hj;subst hj;simp[Array.getElem?_setIfInBounds];omega
  | j+6,hj=>simp at hj
 ·simp only[lnE]at hi;rw[Array.getElem?_setIfInBounds,if_neg (by omega),Array.getElem?_setIfInBounds,if_neg (by omega),Array.getElem?_setIfInBounds,if_neg (by omega),Array.getElem?_setIfInBounds,if_neg (by omega),Array.getElem?_setIfInBounds,if_neg (by omega),Array.getElem?_setIfInBounds,if_neg (by omega)]
theorem SlM.own_{α:Type}{E:Enc α}{e:TypeId}{B:Nat}{w:World}{A:Option Addr}{n c:Nat}{l:List α}(h:SlM E e B w (.slice A n c) l):MineE E e B w A l∧n=l.length∧l.length≤c∧c≤maxLen:=by
 obtain⟨A',c',h1,h2,h3,h4⟩:=h;injection h1 with h1 h5 h6;subst h1 h6;exact⟨h4,h5,h2,h3⟩
theorem dropped_any(vb vf vl vo ta tb:Value)(m:Ma)(t:Tab)(s p:Int)(B:Nat)(w:World)(hM:MaR w vb vf vl vo m)(hB:B≤w.heap.size)(hT:TaM B w ta tb t)
  (a1:m.t.bs.length≤1048576) (a2:m.t.fs.length≤1048576) (a3:m.c.ls.length≤1048576) (a4:m.g.os.length≤1048576):
  Calls Tryz.prog 85 #[.agg #[vb,vf,vl,.int .i64 m.c.hand,.int .i64 m.g.count,.int .i64 m.g.next,.int .i64 m.g.round,vo,.int .i64 m.sp],.agg #[ta,tb],.agg #[.int .i64 s,.int .i64 p]] w (Post2 fun v w'=>∃v1 v2 v3 v4,v=.agg #[v1,v2,v3,.int .i64 (drpM m t s p).c.hand,.int .i64 (drpM m t s p).g.count,.int .i64 (drpM m t s p).g.next,.int .i64 (drpM m t s p).g.round,v4,.int .i64 (drpM m t s p).sp]∧MaM B w' v1 v2 v3 v4 (drpM m t s p)∧Below w.heap.size w w'):=by
 have hbx:=(((Own.new_ w 34 #[vb,vf,vl,.int .i64 m.c.hand,.int .i64 m.g.count,.int .i64 m.g.next,.int .i64 m.g.round,vo,.int .i64 m.sp]).alloc (o:=.cells #[ta,tb] 26)).alloc (o:=.cells #[.int .i64 s,.int .i64 p] 54)).alloc (o:=.cells #[.slice none 0 0,.slice none 0 0,.slice none 0 0,.int .i64 0,.int .i64 0,.int .i64 0,.int .i64 0,.slice none 0 0,.int .i64 0] 34);have hbt:=((ownAt (W:=w.alloc (.cells #[vb,vf,vl,.int .i64 m.c.hand,.int .i64 m.g.count,.int .i64 m.g.next,.int .i64 m.g.round,vo,.int .i64 m.sp] 34)) (g:=w.heap.size+1) (t:=26) (cs:=#[ta,tb]) (by simp)).alloc (o:=.cells #[.int .i64 s,.int .i64 p] 54)).alloc (o:=.cells #[.slice none 0 0,.slice none 0 0,.slice none 0 0,.int .i64 0,.int .i64 0,.int .i64 0,.int .i64 0,.slice none 0 0,.int .i64 0] 34);have hbk:=(ownAt (W:=(w.alloc (.cells #[vb,vf,vl,.int .i64 m.c.hand,.int .i64 m.g.count,.int .i64 m.g.next,.int .i64 m.g.round,vo,.int .i64 m.sp] 34)).alloc (.cells #[ta,tb] 26)) (g:=w.heap.size+1+1) (t:=54) (cs:=#[.int .i64 s,.int .i64 p]) (by simp)).alloc (o:=.cells #[.slice none 0 0,.slice none 0 0,.slice none 0 0,.int .i64 0,.int .i64 0,.int .i64 0,.int .i64 0,.slice none 0 0,.int .i64 0] 34);have hbo:=ownAt (W:=((w.alloc (.cells #[vb,vf,vl,.int .i64 m.c.hand,.int .i64 m.g.count,.int .i64 m.g.next,.int .i64 m.g.round,vo,.int .i64 m.sp] 34)).alloc (.cells #[ta,tb] 26)).alloc (.cells #[.int .i64 s,.int .i64 p] 54)) (g:=w.heap.size+1+1+1) (t:=34) (cs:=#[.slice none 0 0,.slice none 0 0,.slice none 0 0,.int .i64 0,.int .i64 0,.int .i64 0,.int .i64 0,.slice none 0 0,.int .i64 0]) (by simp);have hb0:Below w.heap.size w ((((w.alloc (.cells #[vb,vf,vl,.int .i64 m.c.hand,.int .i64 m.g.count,.int .i64 m.g.next,.int .i64 m.g.round,vo,.int .i64 m.sp] 34)).alloc (.cells #[ta,tb] 26)).alloc (.cells #[.int .i64 s,.int .i64 p] 54)).alloc (.cells #[.slice none 0 0,.slice none 0 0,.slice none 0 0,.int .i64 0,.int .i64 0,.int .i64 0,.int .i64 0,.slice none 0 0,.int .i64 0] 34)):=bA (bA (bA (bA bR)));have hs0:((((w.alloc (.cells #[vb,vf,vl,.int .i64 m.c.hand,.int .i64 m.g.count,.int .i64 m.g.next,.int .i64 m.g.round,vo,.int .i64 m.sp] 34)).alloc (.cells #[ta,tb] 26)).alloc (.cells #[.int .i64 s,.int .i64 p] 54)).alloc (.cells #[.slice none 0 0,.slice none 0 0,.slice none 0 0,.int .i64 0,.int .i64 0,.int .i64 0,.int .i64 0,.slice none 0 0,.int .i64 0] 34)).heap.size=w.heap.size+4:=by simp
 generalize hW:(((w.alloc (.cells #[vb,vf,vl,.int .i64 m.c.hand,.int .i64 m.g.count,.int .i64 m.g.next,.int .i64 m.g.round,vo,.int .i64 m.sp] 34)).alloc (.cells #[ta,tb] 26)).alloc (.cells #[.int .i64 s,.int .i64 p] 54)).alloc (.cells #[.slice none 0 0,.slice none 0 0,.slice none 0 0,.int .i64 0,.int .i64 0,.int .i64 0,.int .i64 0,.slice none 0 0,.int .i64 0] 34)=W0 at hbx hbt hbk hbo hb0 hs0;have HX0:=Hd hbx;have HY0:=Hd hbt;have HK0:=Hd hbk;have HR0:=Hd hbo;have HB0:=Hd hb0;have HS0:Hi (w.heap.size+4≤W0.heap.size):=Nat.le_of_eq hs0.symm;clear hbx hbt hbk hbo hb0;have HM:=Hd hM;clear hM;obtain⟨A1,c1,rfl,_⟩:=hT.b;obtain⟨A2,c2,rfl,_⟩:=hT.f;have HT:=Hd (hT.now HB0.o);clear hT;have hBW:B≤W0.heap.size:=Nat.le_trans hB (by omega);obtain⟨m00,m10,m20,m30,m40,m50,m60,m70,m80⟩:=cells9 HX0.o
 go_enter Tryz.func85,Tryz.ntmps85
 go_wp2_with fail
 refine(mclone_any vb vf vl vo m _ (HM.o.now HB0.o) a1 a2 a3 a4).mono ?_;rintro e w3 ⟨_,rfl,q1,q2,q3,q4,rfl,hM3,hb3⟩;obtain⟨B1,d1,rfl,_⟩:=hM3.t.b;obtain⟨B2,d2,rfl,_⟩:=hM3.t.f;obtain⟨B3,d3,rfl,_⟩:=hM3.l;obtain⟨B4,d4,rfl,_⟩:=hM3.o;have HY3:=HY0.o.below hb3;have hly3:=HY3.lt;have u0:=HY3.cell_ 0 (v:=.slice A1 t.bs.length c1) rfl;have u1:=HY3.cell_ 1 (v:=.slice A2 t.fs.length c2) rfl;have HMM3:=Hd hM3;have HX3:=Hd (HX0.o.below hb3);have HK3:=Hd (HK0.o.below hb3);have HR3:=Hd (HR0.o.below hb3);have HB3:=Hd (bT HB0.o hb3);have HTM3:=Hd (HT.o.now hb3);have hs3:=hb3.size;have ho4:=Own.new_ w3 34 #[.slice A1 t.bs.length c1,.slice A2 t.fs.length c2,.slice B3 m.c.ls.length d3,.int .i64 m.c.hand,.int .i64 m.g.count,.int .i64 m.g.next,.int .i64 m.g.round,.slice B4 m.g.os.length d4,.int .i64 m.sp];have hb4:Below w3.heap.size w3 (w3.alloc (.cells #[.slice A1 t.bs.length c1,.slice A2 t.fs.length c2,.slice B3 m.c.ls.length d3,.int .i64 m.c.hand,.int .i64 m.g.count,.int .i64 m.g.next,.int .i64 m.g.round,.slice B4 m.g.os.length d4,.int .i64 m.sp] 34)):=bA bR;generalize hW4:w3.alloc (.cells #[.slice A1 t.bs.length c1,.slice A2 t.fs.length c2,.slice B3 m.c.ls.length d3,.int .i64 m.c.hand,.int .i64 m.g.count,.int .i64 m.g.next,.int .i64 m.g.round,.slice B4 m.g.os.length d4,.int .i64 m.sp] 34)=w4 at ho4 hb4;have HX4:=Hd (HX3.o.below hb4);have HK4:=Hd (HK3.o.below hb4);have HR4:=Hd (HR3.o.below hb4);have HB4:=Hd (bT HB3.o hb4);have HMM4:=Hd (HMM3.o.now hb4);have HTM4:=Hd (HTM3.o.now hb4);have HO4:=Hd ho4;clear hM3 hb3 hb4 ho4 HY3 m00 m10 m20 m30 m40 m50 m60 m70 m80;obtain⟨m04,m14,m24,m34,m44,m54,m64,m74,m84⟩:=cells9 HX4.o;have k04:=HK4.c 0 (.int .i64 s) rfl;have k14:=HK4.c 1 (.int .i64 p) rfl;go_wp2_with fail
 refine(tagFor_any vb vf vl vo m s p _ (HM.o.now HB4.o)).mono ?_;rintro e w5 ⟨rfl,hb5⟩;have HX5:=Hd (HX4.o.below hb5);have HK5:=Hd (HK4.o.below hb5);have HR5:=Hd (HR4.o.below hb5);have HB5:=Hd (bT HB4.o hb5);have HMM5:=Hd (HMM4.o.now hb5);have HTM5:=Hd (HTM4.o.now hb5);have HO5:=Hd (HO4.o.below hb5);clear m04 m14 m24 m34 m44 m54 m64 m74 m84;clear hb5 u0 u1 k04 k14 hW4
 cases hto:tagO m s p with
 | false=>
  have HV:Hi (drpM m t s p=⟨t,m.c,m.g,m.sp⟩):=by show _=_;unfold drpM;rw[drpC_no hto]
  obtain⟨r0x,r1x,r2x,r3x,r4x,r5x,r6x,r7x,r8x⟩:=cells9 HR5.o;obtain⟨z0x,z1x,z2x,z3x,z4x,z5x,z6x,z7x,z8x⟩:=free9 HR5.o;obtain⟨p0o,p1o,p2o,p3o,p4o,p5o,p6o,p7o,p8o⟩:=cells9 HO5.o;have hlr:=HR5.o.lt;have hlo:=HO5.o.lt;go_wp2;have o3:=HR5.o.set9 (.slice A1 t.bs.length c1) (.slice A2 t.fs.length c2) (.slice B3 m.c.ls.length d3) (.int .i64 m.c.hand) (.int .i64 m.g.count) (.int .i64 m.g.next) (.int .i64 m.g.round) (.slice B4 m.g.os.length d4) (.int .i64 m.sp);obtain⟨p0t,p1t,p2t,p3t,p4t,p5t,p6t,p7t,p8t⟩:=cells9 o3
  have hmm:MaM B _ (.slice A1 t.bs.length c1) (.slice A2 t.fs.length c2) (.slice B3 m.c.ls.length d3) (.slice B4 m.g.os.length d4) ⟨t,m.c,m.g,m.sp⟩:=⟨HTM5.o,HMM5.o.l.mono hBW,HMM5.o.o.mono hBW⟩
  refine bodyPost_ret (v:=.agg #[.slice A1 t.bs.length c1,.slice A2 t.fs.length c2,.slice B3 m.c.ls.length d3,.int .i64 m.c.hand,.int .i64 m.g.count,.int .i64 m.g.next,.int .i64 m.g.round,.slice B4 m.g.os.length d4,.int .i64 m.sp]) (by simp[results,Tryz.results85,go_sem,p0t,p1t,p2t,p3t,p4t,p5t,p6t,p7t,p8t]) rfl ⟨_,rfl,_,_,_,_,by rw[HV.o], ?_, ?_⟩
  ·rw[HV.o];exact hmm.far9 HR5.o _ _ _ _ _ _ _ _ _
  ·repeat (refine bS ?_ (by simp<;>omega))
   exact HB5.o
 | true=>
  obtain⟨m05,m15,m25,m35,m45,m55,m65,m75,m85⟩:=cells9 HX5.o;have k05:=HK5.c 0 (.int .i64 s) rfl;have k15:=HK5.c 1 (.int .i64 p) rfl;go_wp2_with fail
  refine(place_any vl m.c (tagT m s p) p _ (HM.o.l.now HB5.o)).mono ?_;rintro e w6 ⟨rfl,hb6⟩;have HX6:=Hd (HX5.o.below hb6);have HK6:=Hd (HK5.o.below hb6);have HR6:=Hd (HR5.o.below hb6);have HB6:=Hd (bT HB5.o hb6);have HMM6:=Hd (HMM5.o.now hb6);have HTM6:=Hd (HTM5.o.now hb6);have HO6:=Hd (HO5.o.below hb6);clear m05 m15 m25 m35 m45 m55 m65 m75 m85;clear hb6 k05 k15;by_cases hp:0≤plcI m.c.ls (tagT m s p) p
  case neg=>
   have HV:Hi (drpM m t s p=⟨t,m.c,m.g,m.sp⟩):=by show _=_;unfold drpM;rw[drpC_neg hp]
   obtain⟨r0x,r1x,r2x,r3x,r4x,r5x,r6x,r7x,r8x⟩:=cells9 HR6.o;obtain⟨z0x,z1x,z2x,z3x,z4x,z5x,z6x,z7x,z8x⟩:=free9 HR6.o;obtain⟨p0o,p1o,p2o,p3o,p4o,p5o,p6o,p7o,p8o⟩:=cells9 HO6.o;have hlr:=HR6.o.lt;have hlo:=HO6.o.lt;go_wp2;have o3:=HR6.o.set9 (.slice A1 t.bs.length c1) (.slice A2 t.fs.length c2) (.slice B3 m.c.ls.length d3) (.int .i64 m.c.hand) (.int .i64 m.g.count) (.int .i64 m.g.next) (.int .i64 m.g.round) (.slice B4 m.g.os.length d4) (.int .i64 m.sp);obtain⟨p0t,p1t,p2t,p3t,p4t,p5t,p6t,p7t,p8t⟩:=cells9 o3
   have hmm:MaM B _ (.slice A1 t.bs.length c1) (.slice A2 t.fs.length c2) (.slice B3 m.c.ls.length d3) (.slice B4 m.g.os.length d4) ⟨t,m.c,m.g,m.sp⟩:=⟨HTM6.o,HMM6.o.l.mono hBW,HMM6.o.o.mono hBW⟩
   refine bodyPost_ret (v:=.agg #[.slice A1 t.bs.length c1,.slice A2 t.fs.length c2,.slice B3 m.c.ls.length d3,.int .i64 m.c.hand,.int .i64 m.g.count,.int .i64 m.g.next,.int .i64 m.g.round,.slice B4 m.g.os.length d4,.int .i64 m.sp]) (by simp[results,Tryz.results85,go_sem,p0t,p1t,p2t,p3t,p4t,p5t,p6t,p7t,p8t]) rfl ⟨_,rfl,_,_,_,_,by rw[HV.o], ?_, ?_⟩
   ·rw[HV.o];exact hmm.far9 HR6.o _ _ _ _ _ _ _ _ _
   ·repeat (refine bS ?_ (by simp<;>omega))
    exact HB6.o
  case pos=>
   obtain⟨k,x,hk,ex,_⟩:=plcI_lt hp;have HV:Hi (drpM m t s p=⟨t,⟨m.c.ls.set k lnz,m.c.hand⟩,m.g,m.sp⟩):=by show _=_;unfold drpM;rw[drpC_at hto hk]
   have hkl:=(List.getElem?_eq_some_iff.1 ex).1;rw[hk];have EX:=Hd ex;clear hk ex hp hto;have HL6:=Hd HMM6.o.l.own_;obtain⟨g3,cs3,rfl,hg3,O3,_⟩:=HL6.o.1.own (by omega);have z0:=O3.free (k*6);have z1:=O3.free (k*6+1);have z2:=O3.free (k*6+2);have z3:=O3.free (k*6+3);have z4:=O3.free (k*6+4);have z5:=O3.free (k*6+5);obtain⟨bq,oq,eq1,_,y0,y1,y2,y3,y4,y5⟩:=HL6.o.1.is.ln EX.o;injection eq1 with eq1;injection eq1 with eq1 eq2;subst eq1 eq2;rw[Nat.zero_add]at y0 y1 y2 y3 y4 y5;have q1:w3.heap.size≠g3:=HO6.o.ne O3 (by decide);have q2:g3≠w3.heap.size:=fun h=>q1 h.symm
   have q3:w.heap.size+1+1+1≠g3:=HR6.o.ne O3 (by decide);have q4:g3≠w.heap.size+1+1+1:=fun h=>q3 h.symm
   clear O3;obtain⟨r0x,r1x,r2x,r3x,r4x,r5x,r6x,r7x,r8x⟩:=cells9 HR6.o;obtain⟨z0x,z1x,z2x,z3x,z4x,z5x,z6x,z7x,z8x⟩:=free9 HR6.o;obtain⟨p0o,p1o,p2o,p3o,p4o,p5o,p6o,p7o,p8o⟩:=cells9 HO6.o;have hlr:=HR6.o.lt;have hlo:=HO6.o.lt;have HML:=Hd (HL6.o.1.wln hkl lnz);go_wp2
   have f1:=((((((HR6.o.far (p:=⟨g3,k*6,none⟩) (u:=.bool false) q3).far (p:=⟨g3,k*6+1,none⟩) (u:=.int .i64 0) q3).far (p:=⟨g3,k*6+2,none⟩) (u:=.int .i64 0) q3).far (p:=⟨g3,k*6+3,none⟩) (u:=.int .i64 0) q3).far (p:=⟨g3,k*6+4,none⟩) (u:=.int .i64 0) q3).far (p:=⟨g3,k*6+5,none⟩) (u:=.bool false) q3)
   have o3:=f1.set9 (.slice A1 t.bs.length c1) (.slice A2 t.fs.length c2) (.slice (some ⟨g3,0,none⟩) m.c.ls.length d3) (.int .i64 m.c.hand) (.int .i64 m.g.count) (.int .i64 m.g.next) (.int .i64 m.g.round) (.slice B4 m.g.os.length d4) (.int .i64 m.sp);obtain⟨p0t,p1t,p2t,p3t,p4t,p5t,p6t,p7t,p8t⟩:=cells9 o3;obtain⟨_,cs3,u3,_,O3,_⟩:=HL6.o.1.own (by omega);injection u3 with u3;injection u3 with u3;subst u3;have oa:=O3.set_ (k*6) (.bool false);have ob:=oa.set_ (k*6+1) (.int .i64 0);have oc:=ob.set_ (k*6+2) (.int .i64 0);have od:=oc.set_ (k*6+3) (.int .i64 0);have oe:=od.set_ (k*6+4) (.int .i64 0)
   have hts:=((((((HTM6.o.b.farT O3 (u:=.bool false) (i:=k*6) (by decide)).farT oa (u:=.int .i64 0) (i:=k*6+1) (by decide)).farT ob (u:=.int .i64 0) (i:=k*6+2) (by decide)).farT oc (u:=.int .i64 0) (i:=k*6+3) (by decide)).farT od (u:=.int .i64 0) (i:=k*6+4) (by decide)).farT oe (u:=.bool false) (i:=k*6+5) (by decide))
   have htf:=((((((HTM6.o.f.farT O3 (u:=.bool false) (i:=k*6) (by decide)).farT oa (u:=.int .i64 0) (i:=k*6+1) (by decide)).farT ob (u:=.int .i64 0) (i:=k*6+2) (by decide)).farT oc (u:=.int .i64 0) (i:=k*6+3) (by decide)).farT od (u:=.int .i64 0) (i:=k*6+4) (by decide)).farT oe (u:=.bool false) (i:=k*6+5) (by decide))
   have hto:=((((((HMM6.o.o.farT O3 (u:=.bool false) (i:=k*6) (by decide)).farT oa (u:=.int .i64 0) (i:=k*6+1) (by decide)).farT ob (u:=.int .i64 0) (i:=k*6+2) (by decide)).farT oc (u:=.int .i64 0) (i:=k*6+3) (by decide)).farT od (u:=.int .i64 0) (i:=k*6+4) (by decide)).farT oe (u:=.bool false) (i:=k*6+5) (by decide))
   have hmm:MaM B _ (.slice A1 t.bs.length c1) (.slice A2 t.fs.length c2) (.slice (some ⟨g3,0,none⟩) m.c.ls.length d3) (.slice B4 m.g.os.length d4) ⟨t,⟨m.c.ls.set k lnz,m.c.hand⟩,m.g,m.sp⟩:=⟨⟨hts,htf⟩,slm_of (by simp) (by simpa using HL6.o.2.2.1) HL6.o.2.2.2 (HML.o.mono hBW),hto.mono hBW⟩
   refine bodyPost_ret (v:=.agg #[.slice A1 t.bs.length c1,.slice A2 t.fs.length c2,.slice (some ⟨g3,0,none⟩) m.c.ls.length d3,.int .i64 m.c.hand,.int .i64 m.g.count,.int .i64 m.g.next,.int .i64 m.g.round,.slice B4 m.g.os.length d4,.int .i64 m.sp]) (by simp[results,Tryz.results85,go_sem,p0t,p1t,p2t,p3t,p4t,p5t,p6t,p7t,p8t]) rfl ⟨_,rfl,_,_,_,_,by rw[HV.o], ?_, ?_⟩
   ·rw[HV.o];exact hmm.far9 f1 _ _ _ _ _ _ _ _ _
   ·repeat (refine bS ?_ (by simp<;>omega))
    exact HB6.o
theorem MineE.grow{α:Type}{E:Enc α}{e:TypeId}{B:Nat}{w w':World}{A:Option Addr}{l:List α}{row:Option Nat}(h:MineE E e B w A l)(hg:w.grownBy w' row)(hr:∀k,row=some k→k<B):MineE E e B w' A l:=by
 refine⟨⟨h.is.len,fun hn=> ?_⟩,fun hl=> ?_⟩
 ·obtain⟨g,cs,rfl,hbg,ho,_⟩:=h.own hn;obtain⟨b,o,e,hb,hc⟩:=h.is.at_ hn;injection e with e;injection e with e1 e2;subst e1 e2;have ho2:=own_other ho hg (fun e=>by have:=hr _ e.symm;omega);refine⟨g,0,rfl,by have:=hg.size;omega,fun j u hu=> ?_⟩;have hh:=hc j u hu;rw[ho.cell]at hh;rw[ho2.cell];exact hh
 ·obtain⟨g,cs,e,hbg,ho,hs⟩:=h.own hl;exact⟨g,cs,e,hbg,own_other ho hg (fun e=>by have:=hr _ e.symm;omega),hs⟩
theorem MaM.grow{B:Nat}{w w':World}{v1 v2 v3 v4:Value}{m:Ma}{row:Option Nat}(h:MaM B w v1 v2 v3 v4 m)(hg:w.grownBy w' row)(hr:∀k,row=some k→k<B):MaM B w' v1 v2 v3 v4 m:=by
 obtain⟨⟨⟨A1,c1,r1,l1,k1,m1⟩,⟨A2,c2,r2,l2,k2,m2⟩⟩,⟨A3,c3,r3,l3,k3,m3⟩,⟨A4,c4,r4,l4,k4,m4⟩⟩:=h;exact⟨⟨⟨A1,c1,r1,l1,k1,m1.grow hg hr⟩,⟨A2,c2,r2,l2,k2,m2.grow hg hr⟩⟩,⟨A3,c3,r3,l3,k3,m3.grow hg hr⟩,⟨A4,c4,r4,l4,k4,m4.grow hg hr⟩⟩
def Apart(c1 pl:Value):Prop:=∀(a:Addr) (n c:Nat),c1=.slice (some a) n c→0<n→pl.ownBlock≠some a.block
theorem apart_new{B:Nat}{w:World}{v1 v2 v3 v4 pl:Value}{m:Ma}(h:MaM B w v1 v2 v3 v4 m)(hr:∀k,pl.ownBlock=some k→k<B):Apart v1 pl:=by
 intro a n c e hn hp;obtain⟨A,c',e',_,_,hm⟩:=h.t.b;rw[e']at e;injection e with e1 e2 e3;obtain⟨g',cs,e4,hb,_⟩:=hm.own (by omega);rw[e1]at e4;injection e4 with e4;subst e4;have:=hr _ hp;simp only at this;omega
theorem apart_far{B:Nat}{w:World}{v1 v2 v3 v4 pl:Value}{m:Ma}(h:MaM B w v1 v2 v3 v4 m)(hr:∀k,pl.ownBlock=some k→w.heap.size≤k):Apart v1 pl:=by
 intro a n c e hn hp;obtain⟨A,c',e',_,_,hm⟩:=h.t.b;rw[e']at e;injection e with e1 e2 e3;obtain⟨g',cs,e4,_,ho,_⟩:=hm.own (by omega);rw[e1]at e4;injection e4 with e4;subst e4;have h1:=ho.lt;have h2:=hr _ hp;simp only at h2;omega
def IsRow(k:IntKind)(w:World)(a:Option Addr)(len cap:Nat)(zs:List Int):Prop:=
 (a=none∧len=0∧cap=0∧zs=[])∨
 ∃x,a=some x∧len≤cap∧cap≤maxLen∧zs.length=cap∧(∀i,i<zs.length→w.cell? (x.add i)=some (.int k (zs.getD i 0)))∧∀n∈zs,(Lit.int k n).wf=true
theorem row_cap{w:World}{a:Option Addr}{len cap:Nat}{zs:List Int}(h:IsRow .u8 w a len cap zs):len≤cap:=by
 rcases h with⟨_,rfl,rfl,_⟩ | ⟨x,_,h,_⟩
 ·exact Nat.le_refl _
 ·exact h
theorem wf_u8_in{n:Int}(h:(Lit.int .u8 n).wf=true):0≤n∧n≤255:=by
 simp[Lit.wf,IntKind.min,IntKind.max,IntKind.signed,IntKind.bits]at h;omega
theorem row_bytes{w:World}{a:Option Addr}{len cap:Nat}{zs:List Int}(h:IsRow .u8 w a len cap zs):Bytes w.heap.size w a len:=by
 rcases h with⟨_,rfl,_,_⟩ | ⟨x,rfl,hlc,_,hz,hc,hw⟩
 ·exact⟨fun j hj=>absurd hj (by omega)⟩
 ·refine⟨fun j hj=> ?_⟩;obtain⟨b,o,s⟩:=x;have h0:=hc 0 (by omega);have hs:s=none:=by simpa[Addr.add]using World.cell?_spot h0
  subst hs;have h1:=hc j (by omega);rw[add_lit_]at h1
  have hm:zs.getD j 0∈zs:=by
   have e:zs.getD j 0=zs[j]'(by omega):=by rw[List.getD_eq_getElem?_getD,List.getElem?_eq_getElem (by omega)];rfl
   rw[e];exact List.getElem_mem _
  obtain⟨h2,h3⟩:=wf_u8_in (hw _ hm);obtain⟨v,hv⟩:=Int.eq_ofNat_of_zero_le h2;rw[hv]at h1 h3;exact⟨b,o,v,rfl,World.block_lt_of_cell? w _ h1,h1,by omega⟩
end Go.Proofs.YtfbnokjdkhcgoaaGreatDoor
