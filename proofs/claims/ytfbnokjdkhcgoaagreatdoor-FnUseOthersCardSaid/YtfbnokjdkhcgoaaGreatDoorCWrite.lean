/- A part of the proofs of this seat. -/
import Derived.Test.YtfbnokjdkhcgoaaGreatDoorCCopy
set_option linter.unusedVariables false
set_option linter.unusedSimpArgs false
set_option maxRecDepth 1000000
set_option maxHeartbeats 16000000
namespace Go.Proofs.YtfbnokjdkhcgoaaGreatDoor
open Go.RowKit
theorem Enc.cells_split{α:Type}(E:Enc α):∀{l:List α} {i:Nat} {u:Value},(E.cells l)[i]?=some u→∃q r a,i=q*E.sz+r∧r<E.sz∧l[q]?=some a∧(E.cs a)[r]?=some u:=by
 intro l
 induction l with
 | nil=>intro i u h;simp[Enc.cells]at h
 | cons x l ih=>
  intro i u h;rw[E.cells_cons]at h;by_cases hi:i<E.sz
  ·rw[List.getElem?_append_left (by rw[E.len];exact hi)]at h;exact⟨0,i,x,by omega,hi,rfl,h⟩
  ·rw[List.getElem?_append_right (by rw[E.len];omega),E.len]at h;obtain⟨q,r,a,h1,h2,h3,h4⟩:=ih h;exact⟨q+1,r,a,by rw[Nat.add_mul];omega,h2,by simpa using h3,h4⟩
theorem MineE.write{α:Type}{E:Enc α}{e:TypeId}{B:Nat}{w w':World}{g:Nat}{l:List α}(h:MineE E e B w (some ⟨g,0,none⟩) l){cs cs':Array Value}(ho:Own w g e cs)(ho':Own w' g e cs')
  (hsz:cs'.size=cs.size) {k:Nat} (hk:k<l.length) (a:α) (hin:∀j u,(E.cs a)[j]?=some u→cs'[k*E.sz+j]?=some u) (hout:∀i,¬(k*E.sz≤i∧i<k*E.sz+E.sz)→cs'[i]?=cs[i]?):MineE E e B w' (some ⟨g,0,none⟩) (l.set k a):=by
 obtain⟨g2,cs2,e1,hB,ho2,hs2⟩:=h.own (by omega);injection e1 with e1;injection e1 with e1;subst e1
 have hcs:cs2=cs:=by
  unfold Own at ho ho2;rw[ho]at ho2;injection ho2 with ho2;injection ho2 with ho2;exact ho2.symm
 subst hcs;obtain⟨b,o,e2,hb,hc⟩:=h.is.at_ (by omega);injection e2 with e2;injection e2 with e3 e4;subst e3 e4;refine⟨⟨by rw[E.cells_length],fun _=>⟨g,0,rfl,ho'.lt,fun i u hu=> ?_⟩⟩,fun _=>⟨g,cs',rfl,hB,ho',by rw[List.length_set,hsz];exact hs2⟩⟩;rw[Nat.zero_add,ho'.cell i];obtain⟨q,r,x,rfl,hr,hq,hx⟩:=E.cells_split hu;rw[List.getElem?_set]at hq;by_cases hqk:k=q
 ·subst hqk;rw[if_pos rfl,if_pos hk]at hq;injection hq with hq;subst hq;exact hin r u hx
 ·rw[if_neg hqk]at hq;have h1:=hc _ u (E.cells_get hq hx);rw[Nat.zero_add,ho.cell]at h1;rw[hout,h1];rintro⟨h2,h3⟩;rcases Nat.lt_or_gt_of_ne hqk with h4 | h4
  ·have:=Nat.mul_le_mul_right E.sz (show k+1≤q from h4);rw[Nat.add_mul]at this;omega
  ·have:=Nat.mul_le_mul_right E.sz (show q+1≤k from h4);rw[Nat.add_mul]at this;omega
theorem MineE.wint{e:TypeId}{B:Nat}{w:World}{g:Nat}{l:List Int}(h:MineE intE e B w (some ⟨g,0,none⟩) l){k:Nat}(hk:k<l.length)(x:Int):
  MineE intE e B (w.setCell ⟨g,k,none⟩ (.int .i64 x)) (some ⟨g,0,none⟩) (l.set k x):=by
 obtain⟨g2,cs,e1,hB,ho,hs⟩:=h.own (by omega);injection e1 with e1;injection e1 with e1;subst e1;have hs2:l.length≤cs.size:=by simpa[intE]using hs
 refine h.write ho (ho.set_ k (.int .i64 x)) (by simp) hk x (fun j u hj=> ?_) (fun i hi=> ?_)
 ·match j,hj with
  | 0,hj=>
   simp[intE]at hj;subst hj;simp[intE,Array.getElem?_setIfInBounds];omega
  | j+1,hj=>simp[intE]at hj
 ·simp only[intE]at hi;rw[Array.getElem?_setIfInBounds,if_neg (by omega)]
theorem MineE.wfr{e:TypeId}{B:Nat}{w:World}{g:Nat}{l:List Fr}(h:MineE frE e B w (some ⟨g,0,none⟩) l){k:Nat}(hk:k<l.length)(x:Fr):
  MineE frE e B (((((w.setCell ⟨g,k*5,none⟩ (.bool x.used)).setCell ⟨g,k*5+1,none⟩ (.int .i64 x.s)).setCell ⟨g,k*5+2,none⟩ (.int .i64 x.p)).setCell ⟨g,k*5+3,none⟩ (.int .i64 x.r)).setCell ⟨g,k*5+4,none⟩ (.int .i64 x.n)) (some ⟨g,0,none⟩) (l.set k x):=by
 obtain⟨g2,cs,e1,hB,ho,hs⟩:=h.own (by omega);injection e1 with e1;injection e1 with e1;subst e1;have hs2:l.length*5≤cs.size:=by simpa[frE]using hs
 refine h.write ho (((((ho.set_ (k*5) _).set_ (k*5+1) _).set_ (k*5+2) _).set_ (k*5+3) _).set_ (k*5+4) _) (by simp) hk x (fun j u hj=> ?_) (fun i hi=> ?_)
 ·simp only[frE]at hj⊢
  match j,hj with
  | 0,hj=>simp at hj;subst hj;simp[Array.getElem?_setIfInBounds];omega
  | 1,hj=>simp at hj;subst hj;simp[Array.getElem?_setIfInBounds];omega
  | 2,hj=>simp at hj;subst hj;simp[Array.getElem?_setIfInBounds];omega
  | 3,hj=>simp at hj;subst hj;simp[Array.getElem?_setIfInBounds];omega
  | 4,hj=>simp at hj;subst hj;simp[Array.getElem?_setIfInBounds];omega
  | j+5,hj=>simp at hj
 ·simp only[frE]at hi;rw[Array.getElem?_setIfInBounds,if_neg (by omega),Array.getElem?_setIfInBounds,if_neg (by omega),Array.getElem?_setIfInBounds,if_neg (by omega),Array.getElem?_setIfInBounds,if_neg (by omega),Array.getElem?_setIfInBounds,if_neg (by omega)]
theorem MineE.wcell{α:Type}{E:Enc α}{e:TypeId}{B:Nat}{w:World}{g:Nat}{l:List α}(h:MineE E e B w (some ⟨g,0,none⟩) l){k:Nat}{a:α}(hk:l[k]?=some a)(b:α)(j0:Nat)(v:Value)(hj:j0<E.sz)
  (hb:∀j u,(E.cs b)[j]?=some u→(j=j0∧u=v)∨(j≠j0∧(E.cs a)[j]?=some u)):MineE E e B (w.setCell ⟨g,k*E.sz+j0,none⟩ v) (some ⟨g,0,none⟩) (l.set k b):=by
 obtain⟨hlt,_⟩:=List.getElem?_eq_some_iff.1 hk;obtain⟨g2,cs,e1,hB,ho,hs⟩:=h.own (by omega);injection e1 with e1;injection e1 with e1;subst e1;obtain⟨b',o',e2,_,hc⟩:=h.is.el hk;injection e2 with e2;injection e2 with e3 e4;subst e3 e4;have hs2:=Nat.mul_le_mul_right E.sz (show k+1≤l.length from hlt);rw[Nat.add_mul]at hs2;refine h.write ho (ho.set_ (k*E.sz+j0) v) (by simp) hlt b (fun j u hj2=> ?_) (fun i hi=> ?_)
 ·rcases hb j u hj2 with⟨rfl,rfl⟩ | ⟨hne,hu⟩
  ·rw[Array.getElem?_setIfInBounds,if_pos rfl,if_pos (by omega)]
  ·rw[Array.getElem?_setIfInBounds,if_neg (by omega)];have:=hc j u hu;rw[Nat.zero_add,ho.cell]at this;exact this
 ·rw[Array.getElem?_setIfInBounds,if_neg (by omega)]
theorem MineE.wnext{e:TypeId}{B:Nat}{w:World}{g:Nat}{l:List Fr}(h:MineE frE e B w (some ⟨g,0,none⟩) l){k:Nat}{f:Fr}(hk:l[k]?=some f)(n:Int):
  MineE frE e B (w.setCell ⟨g,k*5+4,none⟩ (.int .i64 n)) (some ⟨g,0,none⟩) (l.set k {f with n:=n}):=by
 refine h.wcell hk {f with n:=n} 4 (.int .i64 n) (by decide) (fun j u hj=> ?_);simp only[frE]at hj⊢
 match j,hj with
 | 0,hj=>exact .inr ⟨by decide,hj⟩
 | 1,hj=>exact .inr ⟨by decide,hj⟩
 | 2,hj=>exact .inr ⟨by decide,hj⟩
 | 3,hj=>exact .inr ⟨by decide,hj⟩
 | 4,hj=>simp at hj;exact .inl ⟨rfl,hj.symm⟩
 | j+5,hj=>simp at hj
theorem MineE.other{α:Type}{E:Enc α}{e:TypeId}{B:Nat}{w:World}{g:Nat}{l:List α}(h:MineE E e B w (some ⟨g,0,none⟩) l){p:Addr}(hp:p.block≠g){u:Value}:MineE E e B (w.setCell p u) (some ⟨g,0,none⟩) l:=by
 have hsz:(w.setCell p u).heap.size=w.heap.size:=by simp
 refine⟨⟨h.is.len,fun hn=> ?_⟩,fun hl=> ?_⟩
 ·obtain⟨b,o,e2,hb,hc⟩:=h.is.at_ hn;refine⟨b,o,e2,by rw[hsz];exact hb,fun j v hv=> ?_⟩;injection e2 with e2;injection e2 with e3 e4;have hne:b≠p.block:=by omega
  rw[←hc j v hv];simp only[World.cell?,Below.heap_setCell w p u b hne]
 ·obtain⟨g2,cs,e1,hB,ho,hs⟩:=h.own hl;injection e1 with e1;injection e1 with e1;subst e1;exact⟨g,cs,rfl,hB,ho.far (fun h=>hp h.symm),hs⟩
theorem TaM.open_{base:Nat}{w:World}{vb vf:Value}{t:Tab}(h:TaM base w vb vf t)(h1:1≤t.bs.length)(h2:1≤t.fs.length):
  ∃g1 c1 g2 c2,vb=.slice (some ⟨g1,0,none⟩) t.bs.length c1∧vf=.slice (some ⟨g2,0,none⟩) t.fs.length c2∧base≤g1∧base≤g2∧g1<w.heap.size∧g2<w.heap.size∧g1≠g2
   ∧t.bs.length≤c1∧c1≤maxLen∧t.fs.length≤c2∧c2≤maxLen∧MineE intE 3 base w (some ⟨g1,0,none⟩) t.bs∧MineE frE 80 base w (some ⟨g2,0,none⟩) t.fs:=by
 obtain⟨A1,c1,rfl,a1,a2,m1⟩:=h.b;obtain⟨A2,c2,rfl,b1,b2,m2⟩:=h.f;obtain⟨g1,cs1,rfl,e1,o1,s1⟩:=m1.own (by omega);obtain⟨g2,cs2,rfl,e2,o2,s2⟩:=m2.own (by omega);refine⟨g1,c1,g2,c2,rfl,rfl,e1,e2,o1.lt,o2.lt, ?_,a1,a2,b1,b2,m1,m2⟩;intro hg;subst hg;unfold Own at o1 o2;rw[o1]at o2;injection o2 with o2;injection o2 with _ o2;exact absurd o2 (by decide)
theorem link_any(base:Nat)(vb vf:Value)(t:Tab)(s p:Int)(fr:Nat)(r:Int)(w:World)(hT:TaM base w vb vf t)(hb:base≤w.heap.size)(hk:kval (s,p)=true)(h1:1≤t.bs.length)(h16:t.bs.length≤16)(hf:fr<t.fs.length):
  Calls Tryz.prog 151 #[.agg #[vb,vf],.agg #[.int .i64 s,.int .i64 p],.int .i64 fr,.int .i64 r] w (Post2 fun _ w'=>TaM base w' vb vf (mapT t s p fr r)∧Below base w w'∧∀g ty cs,Own w g ty cs→ty≠3→ty≠80→Own w' g ty cs):=by
 obtain⟨g1,c1,g2,c2,rfl,rfl,e1,e2,l1,l2,hne,a1,a2,b1,b2,m1,m2⟩:=hT.open_ h1 (by omega);obtain⟨hbk,heq⟩:=bkt_in hk h1;have hbx:=(Own.new_ w 26 #[.slice (some ⟨g1,0,none⟩) t.bs.length c1,.slice (some ⟨g2,0,none⟩) t.fs.length c2]).alloc (o:=.cells #[.int .i64 s,.int .i64 p] 54);have hbk2:=Own.new_ (w.alloc (.cells #[.slice (some ⟨g1,0,none⟩) t.bs.length c1,.slice (some ⟨g2,0,none⟩) t.fs.length c2] 26)) 54 #[.int .i64 s,.int .i64 p];have hb0:Below w.heap.size w ((w.alloc (.cells #[.slice (some ⟨g1,0,none⟩) t.bs.length c1,.slice (some ⟨g2,0,none⟩) t.fs.length c2] 26)).alloc (.cells #[.int .i64 s,.int .i64 p] 54)):=bA (bA bR);have hs0:((w.alloc (.cells #[.slice (some ⟨g1,0,none⟩) t.bs.length c1,.slice (some ⟨g2,0,none⟩) t.fs.length c2] 26)).alloc (.cells #[.int .i64 s,.int .i64 p] 54)).heap.size=w.heap.size+2:=by simp
 rw[show(w.alloc (.cells #[.slice (some ⟨g1,0,none⟩) t.bs.length c1,.slice (some ⟨g2,0,none⟩) t.fs.length c2] 26)).heap.size=w.heap.size+1 by simp]at hbk2;generalize hW:(w.alloc (.cells #[.slice (some ⟨g1,0,none⟩) t.bs.length c1,.slice (some ⟨g2,0,none⟩) t.fs.length c2] 26)).alloc (.cells #[.int .i64 s,.int .i64 p] 54)=W0 at hbx hbk2 hb0 hs0;have q0:=hbx.cell_ 0 (v:=.slice (some ⟨g1,0,none⟩) t.bs.length c1) rfl;have q1:=hbx.cell_ 1 (v:=.slice (some ⟨g2,0,none⟩) t.fs.length c2) rfl;have k0:=hbk2.cell_ 0 (v:=.int .i64 s) rfl;have k1:=hbk2.cell_ 1 (v:=.int .i64 p) rfl
 go_enter Tryz.func151,Tryz.ntmps151
 go_wp2_with fail
 refine(hash_any s p t.bs.length _ hk ⟨by omega,by omega⟩).mono ?_;rintro e w1 ⟨rfl,hb1⟩;rw[heq];generalize hbb:bkt t s p=b at*;have hbx1:=hbx.below hb1;have hbk1:=hbk2.below hb1;have x0:=hbx1.cell_ 0 (v:=.slice (some ⟨g1,0,none⟩) t.bs.length c1) rfl;have x1:=hbx1.cell_ 1 (v:=.slice (some ⟨g2,0,none⟩) t.fs.length c2) rfl;have z0:=hbk1.cell_ 0 (v:=.int .i64 s) rfl;have z1:=hbk1.cell_ 1 (v:=.int .i64 p) rfl;have hbt:=bT hb0 hb1;have M1:=m1.below hbt;have M2:=m2.below hbt
 obtain⟨n,en⟩:∃n,t.bs[b]?=some n:=⟨_,List.getElem?_eq_getElem hbk⟩
 obtain⟨b',o',e3,_,d0⟩:=M1.is.i1 en;injection e3 with e3;injection e3 with e3 e4;subst e3 e4;rw[Nat.zero_add]at d0
 obtain⟨f,ef⟩:∃f,t.fs[fr]?=some f:=⟨_,List.getElem?_eq_getElem hf⟩
 obtain⟨b',o',e3,_,y0,y1,y2,y3,y4⟩:=M2.is.fr ef;injection e3 with e3;injection e3 with e3 e4;subst e3 e4;rw[Nat.zero_add]at y0 y1 y2 y3 y4;obtain⟨_,cs1,u1,_,O1,S1⟩:=M1.own (by omega);injection u1 with u1;injection u1 with u1;subst u1;obtain⟨_,cs2,u2,_,O2,S2⟩:=M2.own (by omega);injection u2 with u2;injection u2 with u2;subst u2;have z2:=O1.free b;have z3:=O2.free (fr*5);have z4:=O2.free (fr*5+1);have z5:=O2.free (fr*5+2);have z6:=O2.free (fr*5+3);have z7:=O2.free (fr*5+4)
 have hfar1:Hi (∀g ty cs,Own w1 g ty cs→ty≠3→g≠g1):=by
  intro g ty cs h hty hg;subst hg;unfold Own at h O1;rw[h]at O1;injection O1 with O1;injection O1 with _ O1;exact hty O1
 have hfar2:Hi (∀g ty cs,Own w1 g ty cs→ty≠80→g≠g2):=by
  intro g ty cs h hty hg;subst hg;unfold Own at h O2;rw[h]at O2;injection O2 with O2;injection O2 with _ O2;exact hty O2
 have HM1:=Hd M1;have HM2:=Hd M2;have HBT:=Hd hbt;have HX1:=Hd hbx1
 have hmt:mapT t s p fr r=⟨t.bs.set b fr,t.fs.set fr ⟨true,s,p,r,n⟩⟩:=by
  unfold mapT;rw[hbb,Int.toNat_natCast,List.getD_eq_getElem?_getD,en];rfl
 clear M1 M2 O1 O2 S1 S2 m1 m2 hT hbx hbk2 hb0 hbt hbx1 hbk1 hb1 en ef;go_wp2
 go_region_law (fail)
 all_goals
  clear z3 z4 z5 z6 z7 y0 y1 y2 y3 y4;go_wp2;have M3:=(HM2.o.wfr hf ⟨true,s,p,r,n⟩).other (p:=⟨g1,b,none⟩) (u:=.int .i64 fr) hne;have M4:=(((((HM1.o.other (p:=⟨g2,fr*5,none⟩) (u:=.bool true) hne.symm).other (p:=⟨g2,fr*5+1,none⟩) (u:=.int .i64 s) hne.symm).other (p:=⟨g2,fr*5+2,none⟩) (u:=.int .i64 p) hne.symm).other (p:=⟨g2,fr*5+3,none⟩) (u:=.int .i64 r) hne.symm).other (p:=⟨g2,fr*5+4,none⟩) (u:=.int .i64 n) hne.symm).wint hbk fr;have hbz:Below base w w1:=Below.mono HBT.o hb
  go_end0
  refine⟨_,rfl,⟨?_, ?_⟩, ?_, ?_⟩
  ·rw[hmt];exact slm_of (by simp) (by simpa using a1) a2 (M4.below (bD bR))
  ·rw[hmt];exact slm_of (by simp) (by simpa using b1) b2 (M3.below (bD bR))
  ·exact((((((hbz.setCell e2 _).setCell e2 _).setCell e2 _).setCell e2 _).setCell e2 _).setCell e1 _).drew
  ·intro g ty cs ho h3 h4;have ho1:=ho.below HBT.o;have n1:=hfar1.o _ _ _ ho1 h3;have n2:=hfar2.o _ _ _ ho1 h4;exact((((((ho1.far n2).far n2).far n2).far n2).far n2).far n1).drew
theorem mapOK_false{t:Tab}{s p fr r:Int}(h:mapOK t s p fr r=false):mapV t s p fr r=tabz:=by unfold mapV;rw[h];rfl
theorem SlM.far{α:Type}{E:Enc α}{e:TypeId}{B:Nat}{w:World}{v:Value}{l:List α}(h:SlM E e B w v l){p:Addr}(hp:p.block<B){u:Value}:SlM E e B (w.setCell p u) v l:=by
 obtain⟨A,c,h1,h2,h3,h4⟩:=h;exact⟨A,c,h1,h2,h3,h4.far hp⟩
theorem TaM.far{B:Nat}{w:World}{vb vf:Value}{t:Tab}(h:TaM B w vb vf t){p:Addr}(hp:p.block<B){u:Value}:TaM B (w.setCell p u) vb vf t:=⟨h.b.far hp,h.f.far hp⟩
theorem TaM.mono{B B':Nat}{w:World}{vb vf:Value}{t:Tab}(h:TaM B w vb vf t)(hb:B'≤B):TaM B' w vb vf t:=⟨h.b.mono hb,h.f.mono hb⟩
theorem tam_z{base:Nat}{w:World}:TaM base w (.slice none 0 0) (.slice none 0 0) tabz:=⟨SlM.nil_ _,SlM.nil_ _⟩
theorem MapPage_any(vb vf:Value)(t:Tab)(s p fr r:Int)(w:World)(hT:TaR w vb vf t)(hfree:Free w):
  Calls Tryz.prog 86 #[.agg #[vb,vf],.agg #[.int .i64 s,.int .i64 p],.int .i64 fr,.int .i64 r] w (Post2 fun v w'=>∃v1 v2,v=.tuple #[.agg #[v1,v2],.bool (mapOK t s p fr r)]∧TaM w.heap.size w' v1 v2 (mapV t s p fr r)∧Below w.heap.size w w'):=by
 have ht0:=((Own.new_ w 26 #[vb,vf]).alloc (o:=.cells #[.int .i64 s,.int .i64 p] 54)).alloc (o:=.cells #[.slice none 0 0,.slice none 0 0] 26);have hk0:=(Own.new_ (w.alloc (.cells #[vb,vf] 26)) 54 #[.int .i64 s,.int .i64 p]).alloc (o:=.cells #[.slice none 0 0,.slice none 0 0] 26);have hr0:=Own.new_ ((w.alloc (.cells #[vb,vf] 26)).alloc (.cells #[.int .i64 s,.int .i64 p] 54)) 26 #[.slice none 0 0,.slice none 0 0];have hb0:Below w.heap.size w (((w.alloc (.cells #[vb,vf] 26)).alloc (.cells #[.int .i64 s,.int .i64 p] 54)).alloc (.cells #[.slice none 0 0,.slice none 0 0] 26)):=bA (bA (bA bR));rw[show(w.alloc (.cells #[vb,vf] 26)).heap.size=w.heap.size+1 by simp]at hk0;rw[show((w.alloc (.cells #[vb,vf] 26)).alloc (.cells #[.int .i64 s,.int .i64 p] 54)).heap.size=w.heap.size+1+1 by simp]at hr0;have hs0:(((w.alloc (.cells #[vb,vf] 26)).alloc (.cells #[.int .i64 s,.int .i64 p] 54)).alloc (.cells #[.slice none 0 0,.slice none 0 0] 26)).heap.size=w.heap.size+3:=by simp
 generalize hW:((w.alloc (.cells #[vb,vf] 26)).alloc (.cells #[.int .i64 s,.int .i64 p] 54)).alloc (.cells #[.slice none 0 0,.slice none 0 0] 26)=W0 at ht0 hk0 hr0 hb0 hs0;have HT0:=Hd ht0;have HK0:=Hd hk0;have HR0:=Hd hr0;have HB0:=Hd hb0;clear ht0 hk0 hr0 hb0;have t00:=HT0.c 0 (vb) rfl;have t10:=HT0.c 1 (vf) rfl;have k00:=HK0.c 0 (.int .i64 s) rfl;have k10:=HK0.c 1 (.int .i64 p) rfl;have HTR:=Hd hT;have HF:=Hd hfree;clear hT hfree
 go_enter Tryz.func86,Tryz.ntmps86
 go_wp2_with fail
 refine(TableValid_any vb vf t _ (HTR.o.now HB0.o) (HF.o.now HB0.o)).mono ?_;rintro e w1 ⟨rfl,hb1⟩;have HT1:=Hd (HT0.o.below hb1);have HK1:=Hd (HK0.o.below hb1);have HR1:=Hd (HR0.o.below hb1);have HB1:=Hd (bT HB0.o hb1);clear hb1;have t01:=HT1.o.cell_ 0 rfl;have t11:=HT1.o.cell_ 1 rfl;have k01:=HK1.c 0 (.int .i64 s) rfl;have k11:=HK1.c 1 (.int .i64 p) rfl;have r01:=HR1.c 0 (.slice none 0 0) rfl;have r11:=HR1.c 1 (.slice none 0 0) rfl;have fr01:=HR1.o.free 0;have fr11:=HR1.o.free 1;clear t00 t10 k00 k10;try clear r00 r10 fr00 fr10
 cases h1:tv t with
 | false=>
  have HA:Hi (mapOK t s p fr r=false):=by show _=_;unfold mapOK;rw[h1];rfl
  have HV:=Hd (mapOK_false HA.o);go_wp2;have o3:=(HR1.o.set_ 0 (.slice none 0 0)).set_ 1 (.slice none 0 0);have e0:=o3.cell_ 0 (v:=.slice none 0 0) rfl;have e1:=o3.cell_ 1 (v:=.slice none 0 0) rfl;refine bodyPost_ret (v:=.tuple #[.agg #[.slice none 0 0,.slice none 0 0],.bool false]) (by simp[results,Tryz.results86,go_sem,e0,e1]) rfl ⟨_,rfl,_,_,by rw[HA.o], ?_,bS (bS HB1.o (by simp;omega)) (by simp;omega)⟩;rw[HV.o];exact tam_z
 | true=>
  go_wp2_with fail
  refine(keyValid_any _ _ _).mono ?_;rintro e w2 ⟨rfl,hb2⟩;have HT2:=Hd (HT1.o.below hb2);have HK2:=Hd (HK1.o.below hb2);have HR2:=Hd (HR1.o.below hb2);have HB2:=Hd (bT HB1.o hb2);clear hb2;have t02:=HT2.o.cell_ 0 rfl;have t12:=HT2.o.cell_ 1 rfl;have k02:=HK2.c 0 (.int .i64 s) rfl;have k12:=HK2.c 1 (.int .i64 p) rfl;have r02:=HR2.c 0 (.slice none 0 0) rfl;have r12:=HR2.c 1 (.slice none 0 0) rfl;have fr02:=HR2.o.free 0;have fr12:=HR2.o.free 1;clear t01 t11 k01 k11;try clear r01 r11 fr01 fr11
  cases h2:kval (s,p)with
  | false=>
   have HA:Hi (mapOK t s p fr r=false):=by show _=_;unfold mapOK;rw[h1,h2];rfl
   have HV:=Hd (mapOK_false HA.o);go_wp2;have o3:=(HR2.o.set_ 0 (.slice none 0 0)).set_ 1 (.slice none 0 0);have e0:=o3.cell_ 0 (v:=.slice none 0 0) rfl;have e1:=o3.cell_ 1 (v:=.slice none 0 0) rfl;refine bodyPost_ret (v:=.tuple #[.agg #[.slice none 0 0,.slice none 0 0],.bool false]) (by simp[results,Tryz.results86,go_sem,e0,e1]) rfl ⟨_,rfl,_,_,by rw[HA.o], ?_,bS (bS HB2.o (by simp;omega)) (by simp;omega)⟩;rw[HV.o];exact tam_z
  | true=>
   go_wp2_with fail
   refine(find_any vb vf t s p _ (HTR.o.now HB2.o)).mono ?_;rintro e w3 ⟨rfl,hb3⟩;have HT3:=Hd (HT2.o.below hb3);have HK3:=Hd (HK2.o.below hb3);have HR3:=Hd (HR2.o.below hb3);have HB3:=Hd (bT HB2.o hb3);clear hb3;have t03:=HT3.o.cell_ 0 rfl;have t13:=HT3.o.cell_ 1 rfl;have k03:=HK3.c 0 (.int .i64 s) rfl;have k13:=HK3.c 1 (.int .i64 p) rfl;have r03:=HR3.c 0 (.slice none 0 0) rfl;have r13:=HR3.c 1 (.slice none 0 0) rfl;have fr03:=HR3.o.free 0;have fr13:=HR3.o.free 1;clear t02 t12 k02 k12;try clear r02 r12 fr02 fr12
   by_cases h3:0≤fndI t.fs s p
   ·have HA:Hi (mapOK t s p fr r=false):=by show _=_;unfold mapOK;rw[h1,h2,decide_eq_true h3];rfl
    have HV:=Hd (mapOK_false HA.o);go_wp2;have o3:=(HR3.o.set_ 0 (.slice none 0 0)).set_ 1 (.slice none 0 0);have e0:=o3.cell_ 0 (v:=.slice none 0 0) rfl;have e1:=o3.cell_ 1 (v:=.slice none 0 0) rfl;refine bodyPost_ret (v:=.tuple #[.agg #[.slice none 0 0,.slice none 0 0],.bool false]) (by simp[results,Tryz.results86,go_sem,e0,e1]) rfl ⟨_,rfl,_,_,by rw[HA.o], ?_,bS (bS HB3.o (by simp;omega)) (by simp;omega)⟩;rw[HV.o];exact tam_z
   ·obtain⟨Af,cf,rfl,hfc,hfm,hF⟩:=HTR.o.f;obtain⟨⟨_,hlen,hb1',hlen2⟩,_⟩:=tv_parts h1;have h3f:decide (0≤fndI t.fs s p)=false:=decide_eq_false h3;have HN3:=Hd h3f;clear h3f
    cases h4:inR fr t.fs.length with
    | false=>
     have HA:Hi (mapOK t s p fr r=false):=by show _=_;unfold mapOK;rw[h1,h2,HN3.o,h4];rfl
     have HV:=Hd (mapOK_false HA.o);go_wp2_with fail
     refine(within_any _ _ _).mono ?_;rintro e w4 ⟨rfl,rfl⟩;rw[h4];go_wp2;have o3:=(HR3.o.set_ 0 (.slice none 0 0)).set_ 1 (.slice none 0 0);have e0:=o3.cell_ 0 (v:=.slice none 0 0) rfl;have e1:=o3.cell_ 1 (v:=.slice none 0 0) rfl;refine bodyPost_ret (v:=.tuple #[.agg #[.slice none 0 0,.slice none 0 0],.bool false]) (by simp[results,Tryz.results86,go_sem,e0,e1]) rfl ⟨_,rfl,_,_,by rw[HA.o], ?_,bS (bS HB3.o (by simp;omega)) (by simp;omega)⟩;rw[HV.o];exact tam_z
    | true=>
     obtain⟨h5,h6⟩:0≤fr∧fr<t.fs.length:=by unfold inR at h4;simpa using h4
     obtain⟨k,rfl⟩:=Int.eq_ofNat_of_zero_le h5;have hk:k<t.fs.length:=by omega
     obtain⟨f,ef⟩:∃f,t.fs[k]?=some f:=⟨_,List.getElem?_eq_getElem hk⟩
     obtain⟨b4,o4,rfl,hb4,d0,d1,d2,d3,d4⟩:=(hF.now (Nat.le_refl _) HB3.o).fr ef;clear d1 d2 d3 d4
     cases h7:f.used with
     | true=>
      rw[h7]at d0;have HA:Hi (mapOK t s p k r=false):=by show _=_;unfold mapOK;rw[h1,h2,HN3.o,h4,Int.toNat_natCast,ef];simp[h7]
      have HV:=Hd (mapOK_false HA.o);go_wp2_with fail
      refine(within_any _ _ _).mono ?_;rintro e w4 ⟨rfl,rfl⟩;rw[h4];clear ef h4;go_wp2;have o3:=(HR3.o.set_ 0 (.slice none 0 0)).set_ 1 (.slice none 0 0);have e0:=o3.cell_ 0 (v:=.slice none 0 0) rfl;have e1:=o3.cell_ 1 (v:=.slice none 0 0) rfl;refine bodyPost_ret (v:=.tuple #[.agg #[.slice none 0 0,.slice none 0 0],.bool false]) (by simp[results,Tryz.results86,go_sem,e0,e1]) rfl ⟨_,rfl,_,_,by rw[HA.o], ?_,bS (bS HB3.o (by simp;omega)) (by simp;omega)⟩;rw[HV.o];exact tam_z
     | false=>
      rw[h7]at d0
      cases h8:inR r 8 with
      | false=>
       have HA:Hi (mapOK t s p k r=false):=by show _=_;unfold mapOK;rw[h8];simp
       have HV:=Hd (mapOK_false HA.o);go_wp2_with fail
       refine(within_any _ _ _).mono ?_;rintro e w4 ⟨rfl,rfl⟩;rw[h4];clear ef h4;go_wp2_with fail
       refine(RightsValid_any _ _).mono ?_;rintro e w4 ⟨rfl,rfl⟩;rw[h8];go_wp2;have o3:=(HR3.o.set_ 0 (.slice none 0 0)).set_ 1 (.slice none 0 0);have e0:=o3.cell_ 0 (v:=.slice none 0 0) rfl;have e1:=o3.cell_ 1 (v:=.slice none 0 0) rfl;refine bodyPost_ret (v:=.tuple #[.agg #[.slice none 0 0,.slice none 0 0],.bool false]) (by simp[results,Tryz.results86,go_sem,e0,e1]) rfl ⟨_,rfl,_,_,by rw[HA.o], ?_,bS (bS HB3.o (by simp;omega)) (by simp;omega)⟩;rw[HV.o];exact tam_z
      | true=>
       have HA:Hi (mapOK t s p k r=true):=by show _=_;unfold mapOK;rw[h1,h2,HN3.o,h4,Int.toNat_natCast,ef,h8];simp[h7]
       have HV:Hi (mapV t s p k r=mapT t s p k r):=by show _=_;unfold mapV;rw[HA.o];rfl
       go_wp2_with fail
       refine(within_any _ _ _).mono ?_;rintro e w4 ⟨rfl,rfl⟩;rw[h4];clear ef h4;go_wp2_with fail
       refine(RightsValid_any _ _).mono ?_;rintro e w4 ⟨rfl,rfl⟩;rw[h8];go_wp2_with fail
       refine(tclone_any vb _ t _ (HTR.o.now HB3.o) (by omega) (by omega)).mono ?_;rintro e w4 ⟨v1,v2,rfl,hM4,hb4⟩;have HM4S:Hi (w3.heap.size≤w4.heap.size):=hb4.size;have HT4:=Hd (HT3.o.below hb4);have HK4:=Hd (HK3.o.below hb4);have HR4:=Hd (HR3.o.below hb4);have HB4:=Hd (bT HB3.o hb4);clear hb4;have t04:=HT4.o.cell_ 0 rfl;have t14:=HT4.o.cell_ 1 rfl;have k04:=HK4.c 0 (.int .i64 s) rfl;have k14:=HK4.c 1 (.int .i64 p) rfl;have r04:=HR4.c 0 (.slice none 0 0) rfl;have r14:=HR4.c 1 (.slice none 0 0) rfl;have fr04:=HR4.o.free 0;have fr14:=HR4.o.free 1;clear t03 t13 k03 k13;try clear r03 r13 fr03 fr13
       obtain⟨A1,c1,rfl,_⟩:=hM4.b;obtain⟨A2,c2,rfl,_⟩:=hM4.f;have ho5:=Own.new_ w4 26 #[.slice A1 t.bs.length c1,.slice A2 t.fs.length c2];have hb5:Below w4.heap.size w4 (w4.alloc (.cells #[.slice A1 t.bs.length c1,.slice A2 t.fs.length c2] 26)):=bA bR;generalize hW5:w4.alloc (.cells #[.slice A1 t.bs.length c1,.slice A2 t.fs.length c2] 26)=w5 at ho5 hb5;have HM5:=Hd (hM4.now hb5);have HT5:=Hd (HT4.o.below hb5);have HK5:=Hd (HK4.o.below hb5);have HR5:=Hd (HR4.o.below hb5);have HB5:=Hd (bT HB4.o hb5);clear hb5;have t05:=HT5.o.cell_ 0 rfl;have t15:=HT5.o.cell_ 1 rfl;have k05:=HK5.c 0 (.int .i64 s) rfl;have k15:=HK5.c 1 (.int .i64 p) rfl;have r05:=HR5.c 0 (.slice none 0 0) rfl;have r15:=HR5.c 1 (.slice none 0 0) rfl;have fr05:=HR5.o.free 0;have fr15:=HR5.o.free 1;clear t04 t14 k04 k14;try clear r04 r14 fr04 fr14
       have o50:=ho5.cell_ 0 rfl;have o51:=ho5.cell_ 1 rfl;have HO5:=Hd ho5;have hsz3:=HB3.o.size;have hsz5:w3.heap.size≤w5.heap.size:=by have:=ho5.lt;have:=HM4S.o;omega
       clear hM4 ho5;go_wp2_with fail
       refine(link_any w3.heap.size _ _ t s p k r _ HM5.o hsz5 h2 hb1' hlen2 hk).mono ?_;rintro e w6 ⟨v6,rfl,hM6,hb6,hkeep⟩;have hR6:=hkeep _ _ _ HR5.o (by decide) (by decide);have hO6:=hkeep _ _ _ HO5.o (by decide) (by decide);have HB6:Hi (Below w.heap.size w w6):=HB5.o.trans (hb6.mono hsz3);have HM6:=Hd hM6;have r06:=hR6.cell_ 0 (v:=.slice none 0 0) rfl;have r16:=hR6.cell_ 1 (v:=.slice none 0 0) rfl;have fr06:=hR6.free 0;have fr16:=hR6.free 1;have o60:=hO6.cell_ 0 (v:=.slice A1 t.bs.length c1) rfl;have o61:=hO6.cell_ 1 (v:=.slice A2 t.fs.length c2) rfl;have HR6:=Hd hR6;have hlt3:=HR3.o.lt;clear hM6 hb6 hkeep hR6 hO6;go_wp2;have o3:=(HR6.o.set_ 0 (.slice A1 t.bs.length c1)).set_ 1 (.slice A2 t.fs.length c2);have e0:=o3.cell_ 0 (v:=.slice A1 t.bs.length c1) rfl;have e1:=o3.cell_ 1 (v:=.slice A2 t.fs.length c2) rfl;have M7:=((HM6.o.far (p:=⟨w.heap.size+1+1,0,none⟩) (u:=.slice A1 t.bs.length c1) hlt3).far (p:=⟨w.heap.size+1+1,1,none⟩) (u:=.slice A2 t.fs.length c2) hlt3).mono hsz3;refine bodyPost_ret (v:=.tuple #[.agg #[.slice A1 t.bs.length c1,.slice A2 t.fs.length c2],.bool true]) (by simp[results,Tryz.results86,go_sem,e0,e1]) rfl ⟨_,rfl,_,_,by rw[HA.o], ?_,bS (bS HB6.o (by simp;omega)) (by simp;omega)⟩;rw[HV.o];exact M7
end Go.Proofs.YtfbnokjdkhcgoaaGreatDoor
