/- A part of the proofs of this seat. -/
import Derived.Deep.CutRange
import Derived.Test.YtfbnokjdkhcgoaaGreatDoorCEndP
set_option linter.unusedVariables false
set_option linter.unusedSimpArgs false
set_option maxRecDepth 1000000
set_option maxHeartbeats 16000000
namespace Go.Proofs.YtfbnokjdkhcgoaaGreatDoor
open Go.RowKit
theorem bo_info:(Tryz.prog.info? 4).map (fun i=>(i.zero,i.size,i.bytes))=some (some (.bool false),1,1):=by kernel_rfl
theorem Rd.b1{B:Nat}{w:World}{A:Option Addr}{l:List Bool}(h:Rs boE B w A l){k:Nat}{x:Bool}(hk:l[k]?=some x):
  ∃b o,A=some ⟨b,o,none⟩∧b<B∧w.cell? ⟨b,o+k,none⟩=some (.bool x):=by
 obtain⟨b,o,e,hb,hc⟩:=h.el hk;have:=hc 0 _ rfl;exact⟨b,o,e,hb,by simpa[boE]using this⟩
structure MeR(w:World)(vb vf vl vo vk:Value)(M:Me):Prop where
 m:MaR w vb vf vl vo M.m
 k:SlR boE w vk M.mk
structure MeM(base:Nat)(w:World)(vb vf vl vo vk:Value)(M:Me):Prop where
 m:MaM base w vb vf vl vo M.m
 k:SlM boE 4 base w vk M.mk
section
variable {base : Nat} {w w' : World} {vb vf vl vo vk : Value} {M : Me}
theorem MeM.r(h:MeM base w vb vf vl vo vk M):MeR w vb vf vl vo vk M:=⟨h.m.r,h.k.r⟩
theorem MeR.now(h:MeR w vb vf vl vo vk M)(hb:Below w.heap.size w w'):MeR w' vb vf vl vo vk M:=⟨h.m.now hb,h.k.now hb⟩
theorem MeM.now(h:MeM base w vb vf vl vo vk M)(hb:Below w.heap.size w w'):MeM base w' vb vf vl vo vk M:=⟨h.m.now hb,h.k.now hb⟩
theorem MeM.mono{B':Nat}(h:MeM base w vb vf vl vo vk M)(hb:B'≤base):MeM B' w vb vf vl vo vk M:=⟨h.m.mono hb,h.k.mono hb⟩
theorem MeM.oth{p:TypeId→Prop}(h:MeM base w vb vf vl vo vk M)(ho:Oth p w w')(h1:¬p 3)(h2:¬p 80)(h3:¬p 50)(h4:¬p 186)(h5:¬p 4):MeM base w' vb vf vl vo vk M:=
 ⟨h.m.oth ho h1 h2 h3 h4,h.k.oth ho h5⟩
theorem mem_z:MeM base w (.slice none 0 0) (.slice none 0 0) (.slice none 0 0) (.slice none 0 0) (.slice none 0 0) mez:=⟨mam_z,SlM.nil_ _⟩
end
def sets(g:Nat):Nat→List Value→World→World
 | _,[],w=>w
 | i,u::us,w=>sets g (i+1) us (w.setCell ⟨g,i,none⟩ u)
def setA:Nat→List Value→Array Value→Array Value
 | _,[],cs=>cs
 | i,u::us,cs=>setA (i+1) us (cs.setIfInBounds i u)
section
variable {g : Nat} {t : TypeId}
theorem Own.sets:∀{us:List Value} {i:Nat} {w:World} {cs:Array Value},Own w g t cs→Own (sets g i us w) g t (setA i us cs)
 | [],_,_,_,h=>h
 | u::us,i,_,_,h=>Own.sets (us:=us) (i:=i+1) (h.set_ i u)
theorem Own.fars{h:Nat}{t':TypeId}{cs:Array Value}(hne:h≠g):∀{us:List Value} {i:Nat} {w:World},Own w h t' cs→Own (Go.Proofs.YtfbnokjdkhcgoaaGreatDoor.sets g i us w) h t' cs
 | [],_,_,o=>o
 | u::us,i,_,o=>Own.fars hne (us:=us) (i:=i+1) (o.far (p:=⟨g,i,none⟩) (u:=u) hne)
theorem sets_below{a:World}(hg:a.heap.size≤g):∀{us:List Value} {i:Nat} {w:World},Below a.heap.size a w→Below a.heap.size a (sets g i us w)
 | [],_,_,o=>o
 | u::us,i,_,o=>sets_below hg (us:=us) (i:=i+1) (bS o (p:=⟨g,i,none⟩) (u:=u) hg)
theorem sets_oth:∀{us:List Value} {i:Nat} {w:World} {cs:Array Value},Own w g t cs→Oth (fun e=>e=t) w (sets g i us w)
  | [],_,_,_,_=>Oth.of_below bR
  | u::us,i,w,cs,o=>by
    have h1:=(stS_set (n:=cs.size) (i:=i) (u:=u) o).1;have h2:=sets_oth (us:=us) (i:=i+1) (o.set_ i u);have h3:=h1.trans h2;exact⟨h3.1,fun g e cs o hn=>h3.2 g e cs o (fun h=>hn (h.elim id id))⟩
theorem sets_size:∀{us:List Value} {i:Nat} {w:World},(sets g i us w).heap.size=w.heap.size
  | [],_,_=>rfl
  | u::us,i,w=>by
    show(sets g (i+1) us _).heap.size=_;rw[sets_size];simp
variable {w : World} {a0 a1 a2 a3 a4 a5 a6 a7 a8 a9 a10 : Value}
theorem c11(h:Own w g t #[a0,a1,a2,a3,a4,a5,a6,a7,a8,a9,a10]):w.cell? ⟨g,0,none⟩=some a0∧w.cell? ⟨g,1,none⟩=some a1∧w.cell? ⟨g,2,none⟩=some a2∧w.cell? ⟨g,3,none⟩=some a3∧w.cell? ⟨g,4,none⟩=some a4∧w.cell? ⟨g,5,none⟩=some a5∧w.cell? ⟨g,6,none⟩=some a6∧w.cell? ⟨g,7,none⟩=some a7∧w.cell? ⟨g,8,none⟩=some a8∧w.cell? ⟨g,9,none⟩=some a9∧w.cell? ⟨g,10,none⟩=some a10:=
 ⟨h.cell_ 0 rfl,h.cell_ 1 rfl,h.cell_ 2 rfl,h.cell_ 3 rfl,h.cell_ 4 rfl,h.cell_ 5 rfl,h.cell_ 6 rfl,h.cell_ 7 rfl,h.cell_ 8 rfl,h.cell_ 9 rfl,h.cell_ 10 rfl⟩
theorem f11{cs:Array Value}(h:Own w g t cs):w.frozen? ⟨g,0,none⟩=false∧w.frozen? ⟨g,1,none⟩=false∧w.frozen? ⟨g,2,none⟩=false∧w.frozen? ⟨g,3,none⟩=false∧w.frozen? ⟨g,4,none⟩=false∧w.frozen? ⟨g,5,none⟩=false∧w.frozen? ⟨g,6,none⟩=false∧w.frozen? ⟨g,7,none⟩=false∧w.frozen? ⟨g,8,none⟩=false∧w.frozen? ⟨g,9,none⟩=false∧w.frozen? ⟨g,10,none⟩=false:=
 ⟨h.free 0,h.free 1,h.free 2,h.free 3,h.free 4,h.free 5,h.free 6,h.free 7,h.free 8,h.free 9,h.free 10⟩
theorem set11(h:Own w g t #[a0,a1,a2,a3,a4,a5,a6,a7,a8,a9,a10])(u0 u1 u2 u3 u4 u5 u6 u7 u8 u9 u10:Value):Own (sets g 0 [u0,u1,u2,u3,u4,u5,u6,u7,u8,u9,u10] w) g t #[u0,u1,u2,u3,u4,u5,u6,u7,u8,u9,u10]:=by
 have:=h.sets (us:=[u0,u1,u2,u3,u4,u5,u6,u7,u8,u9,u10]) (i:=0);simpa[setA]using this
theorem set9_11(h:Own w g t #[a0,a1,a2,a3,a4,a5,a6,a7,a8,a9,a10])(u0 u1 u2 u3 u4 u5 u6 u7 u8:Value):Own (sets g 0 [u0,u1,u2,u3,u4,u5,u6,u7,u8] w) g t #[u0,u1,u2,u3,u4,u5,u6,u7,u8,a9,a10]:=by
 have:=h.sets (us:=[u0,u1,u2,u3,u4,u5,u6,u7,u8]) (i:=0);simpa[setA]using this
theorem put9(h:Own w g t #[a0,a1,a2,a3,a4,a5,a6,a7,a8,a9,a10])(u0 u1 u2 u3 u4 u5 u6 u7 u8:Value):∃W,((((((((w.setCell ⟨g,0,none⟩ u0).setCell ⟨g,1,none⟩ u1).setCell ⟨g,2,none⟩ u2).setCell ⟨g,3,none⟩ u3).setCell ⟨g,4,none⟩ u4).setCell ⟨g,5,none⟩ u5).setCell ⟨g,6,none⟩ u6).setCell ⟨g,7,none⟩ u7).setCell ⟨g,8,none⟩ u8=W∧Own W g t #[u0,u1,u2,u3,u4,u5,u6,u7,u8,a9,a10]∧Oth (fun e=>e=t) w W∧W.heap.size=w.heap.size∧(∀(h':Nat) (t':TypeId) (cs:Array Value),h'≠g→Own w h' t' cs→Own W h' t' cs)∧(∀a:World,a.heap.size≤g→Below a.heap.size a w→Below a.heap.size a W):=
 ⟨sets g 0 [u0,u1,u2,u3,u4,u5,u6,u7,u8] w,rfl,set9_11 h u0 u1 u2 u3 u4 u5 u6 u7 u8,sets_oth h,sets_size,fun _ _ _ hne o=>Own.fars hne o,fun _ hg hb=>sets_below hg hb⟩
theorem put11(h:Own w g t #[a0,a1,a2,a3,a4,a5,a6,a7,a8,a9,a10])(u0 u1 u2 u3 u4 u5 u6 u7 u8 u9 u10:Value):∃W,((((((((((w.setCell ⟨g,0,none⟩ u0).setCell ⟨g,1,none⟩ u1).setCell ⟨g,2,none⟩ u2).setCell ⟨g,3,none⟩ u3).setCell ⟨g,4,none⟩ u4).setCell ⟨g,5,none⟩ u5).setCell ⟨g,6,none⟩ u6).setCell ⟨g,7,none⟩ u7).setCell ⟨g,8,none⟩ u8).setCell ⟨g,9,none⟩ u9).setCell ⟨g,10,none⟩ u10=W∧Own W g t #[u0,u1,u2,u3,u4,u5,u6,u7,u8,u9,u10]∧Oth (fun e=>e=t) w W∧W.heap.size=w.heap.size∧(∀(h':Nat) (t':TypeId) (cs:Array Value),h'≠g→Own w h' t' cs→Own W h' t' cs)∧(∀a:World,a.heap.size≤g→Below a.heap.size a w→Below a.heap.size a W):=
 ⟨sets g 0 [u0,u1,u2,u3,u4,u5,u6,u7,u8,u9,u10] w,rfl,set11 h u0 u1 u2 u3 u4 u5 u6 u7 u8 u9 u10,sets_oth h,sets_size,fun _ _ _ hne o=>Own.fars hne o,fun _ hg hb=>sets_below hg hb⟩
theorem put1_9(h:Own w g t #[a0,a1,a2,a3,a4,a5,a6,a7,a8,a9,a10])(u:Value):∃W,w.setCell ⟨g,9,none⟩ u=W∧Own W g t #[a0,a1,a2,a3,a4,a5,a6,a7,a8,u,a10]∧Oth (fun e=>e=t) w W∧W.heap.size=w.heap.size∧(∀(h':Nat) (t':TypeId) (cs:Array Value),h'≠g→Own w h' t' cs→Own W h' t' cs)∧(∀a:World,a.heap.size≤g→Below a.heap.size a w→Below a.heap.size a W):=
 ⟨sets g 9 [u] w,rfl,by simpa[setA]using h.sets (us:=[u]) (i:=9),sets_oth h,sets_size,fun _ _ _ hne o=>Own.fars hne o,fun _ hg hb=>sets_below hg hb⟩
theorem put1_10(h:Own w g t #[a0,a1,a2,a3,a4,a5,a6,a7,a8,a9,a10])(u:Value):∃W,w.setCell ⟨g,10,none⟩ u=W∧Own W g t #[a0,a1,a2,a3,a4,a5,a6,a7,a8,a9,u]∧Oth (fun e=>e=t) w W∧W.heap.size=w.heap.size∧(∀(h':Nat) (t':TypeId) (cs:Array Value),h'≠g→Own w h' t' cs→Own W h' t' cs)∧(∀a:World,a.heap.size≤g→Below a.heap.size a w→Below a.heap.size a W):=
 ⟨sets g 10 [u] w,rfl,by simpa[setA]using h.sets (us:=[u]) (i:=10),sets_oth h,sets_size,fun _ _ _ hne o=>Own.fars hne o,fun _ hg hb=>sets_below hg hb⟩
end
theorem MeM.sets{base g i:Nat}{w:World}{vb vf vl vo vk:Value}{M:Me}{cs:Array Value}{us:List Value}(h:MeM base w vb vf vl vo vk M)(ho:Own w g 37 cs):MeM base (Go.Proofs.YtfbnokjdkhcgoaaGreatDoor.sets g i us w) vb vf vl vo vk M:=
 h.oth (sets_oth ho) (by decide) (by decide) (by decide) (by decide) (by decide)
theorem MaM.sets{base g i:Nat}{w:World}{vb vf vl vo:Value}{m:Ma}{cs:Array Value}{us:List Value}(h:MaM base w vb vf vl vo m)(ho:Own w g 37 cs):MaM base (Go.Proofs.YtfbnokjdkhcgoaaGreatDoor.sets g i us w) vb vf vl vo m:=
 h.oth (sets_oth ho) (by decide) (by decide) (by decide) (by decide)
theorem MeM.othm{base:Nat}{w w':World}{vb vf vl vo vk:Value}{M:Me}(h:MeM base w vb vf vl vo vk M)(ho:Oth (fun e=>e=37) w w'):MeM base w' vb vf vl vo vk M:=
 h.oth ho (by decide) (by decide) (by decide) (by decide) (by decide)
theorem MaM.othm{base:Nat}{w w':World}{vb vf vl vo:Value}{m:Ma}(h:MaM base w vb vf vl vo m)(ho:Oth (fun e=>e=37) w w'):MaM base w' vb vf vl vo m:=
 h.oth ho (by decide) (by decide) (by decide) (by decide)
theorem mev_len{M:Me}(h:mev M=true):M.m.t.bs.length≤1048576∧M.m.t.fs.length≤1048576∧M.m.c.ls.length≤1048576∧M.m.g.os.length≤1048576∧M.mk.length≤16∧1≤M.mk.length:=by
 have V:=mev_MEV.1 h;have h1:=mav_MV.2 V.m;obtain⟨a1,a2,a3,a4⟩:=mav_len h1;have:=mav_fslen h1;have:=V.ln;exact⟨a1,a2,a3,a4,by omega,by omega⟩
theorem MineE.wbo{e:TypeId}{B:Nat}{w:World}{g:Nat}{l:List Bool}(h:MineE boE e B w (some ⟨g,0,none⟩) l){k:Nat}{x:Bool}(hk:l[k]?=some x)(b:Bool):
  MineE boE e B (w.setCell ⟨g,k,none⟩ (.bool b)) (some ⟨g,0,none⟩) (l.set k b):=by
 have:=h.wcell hk b 0 (.bool b) (by decide) (fun j u hj=>by
  match j,hj with
  | 0,hj=>simp[boE]at hj;exact .inl ⟨rfl,hj.symm⟩
  | j+1,hj=>simp[boE]at hj)
 simpa[boE]using this
theorem nei_t{a b:Nat}(h:a=b):((a:Int) != (b:Int))=false:=by subst h;simp
theorem nei_f{a b:Nat}(h:¬a=b):((a:Int) != (b:Int))=true:=by simp;omega
theorem MemoryValid_any(vb vf vl vo vk:Value)(M:Me)(w:World)(hM:MeR w vb vf vl vo vk M)(hfree:Free w):
  Calls Tryz.prog 29 #[.agg #[vb,vf,vl,.int .i64 M.m.c.hand,.int .i64 M.m.g.count,.int .i64 M.m.g.next,.int .i64 M.m.g.round,vo,.int .i64 M.m.sp,vk,.int .i64 M.h]] w fun r w'=>r=.returned (.bool (mev M))∧Below w.heap.size w w':=by
 have HF:=Hd hfree;clear hfree;have HM:=Hd hM;obtain⟨W0,hW,hbx,hbz,_⟩:=box1 w #[vb,vf,vl,.int .i64 M.m.c.hand,.int .i64 M.m.g.count,.int .i64 M.m.g.next,.int .i64 M.m.g.round,vo,.int .i64 M.m.sp,vk,.int .i64 M.h] 37;have HX0:=Hd hbx;have HB0:=Hd hbz;clear hbx hbz hM;obtain⟨Af,cf,rfl,hfc,hfm,hFr⟩:=id HM.o.m.t.f;obtain⟨Ak,ck,rfl,hkc,hkm,hKr⟩:=id HM.o.k;have HFS:=Hd hFr;have HKS:=Hd hKr;clear hFr hKr;obtain⟨q0a,q1a,q2a,q3a,q4a,q5a,q6a,q7a,q8a,q9a,q10a⟩:=c11 HX0.o
 go_enter Tryz.func29,Tryz.ntmps29
 go_wp2_with fail
 refine(MachineValid_any vb (.slice Af M.m.t.fs.length cf) vl vo M.m _ (HM.o.m.now HB0.o) (HF.o.now HB0.o)).mono ?_;rintro e w1 ⟨rfl,hb1⟩;have HX1:=Hd (HX0.o.below hb1);have HB1:=Hd (bT HB0.o hb1);clear q0a q1a q2a q3a q4a q5a q6a q7a q8a q9a q10a;clear hb1 hW
 cases h1:mav M.m with
 | false=>
  have HE:Hi (mev M=false):=mev_m h1;go_wp2;go_ret;exact⟨by rw[HE.o];rfl,HB1.o⟩
 | true=>
 obtain⟨q0b,q1b,q2b,q3b,q4b,q5b,q6b,q7b,q8b,q9b,q10b⟩:=c11 HX1.o;have h16:=mav_fslen h1;by_cases h2:M.mk.length=M.m.t.fs.length
 ·have hnb:=nei_t h2;have hk16:M.mk.length≤16:=by omega
  have HL:=Hd h2;have HX:=Hd h1;clear h1 h2;go_wp2_with fail
  refine(within_any _ _ _).mono ?_;rintro e w' ⟨rfl,rfl⟩;clear hnb
  cases h3:inR M.h M.m.t.fs.length with
  | false=>
   have HE:Hi (mev M=false):=mev_h h3;go_wp2;go_ret;exact⟨by rw[HE.o];rfl,HB1.o⟩
  | true=>
  go_wp2;clear q0b q1b q2b q3b q4b q5b q6b q7b q8b q9b q10b;go_loopw [33] (fun u wr=>∃k:Nat,k≤M.mk.length∧u=.int .i64 k∧Hi (mkk M.m.t.fs M.mk k=true)∧Below w1.heap.size w1 wr) (fun u _=>M.mk.length-(intOf u).toNat)
  case atStart=>exact⟨0,by omega,rfl,rfl,bR⟩
  case round=>
   obtain⟨k,hk,rfl,hall,hb5⟩:=hrel;by_cases hlt:k<M.mk.length
   ·obtain⟨b,eb⟩:∃b,M.mk[k]?=some b:=⟨_,List.getElem?_eq_getElem hlt⟩
    obtain⟨bk,ok,rfl,hbb,d0⟩:=Rd.b1 (HKS.o.below (bT HB1.o hb5)) eb;have EB:=Hd eb;clear eb
    cases b with
    | false=>
     have HA:=Hd (mkk_step hall.o (by rw[getDb EB.o];intro h;cases h));go_wp2;go_roundw;case rel=>exact⟨k+1,by omega,by go_num,HA,hb5⟩
     case measure=>simp[intOf];omega
    | true=>
     obtain⟨f,ef⟩:∃f,M.m.t.fs[k]?=some f:=⟨_,List.getElem?_eq_getElem (by have:=HL.o;omega)⟩
     obtain⟨bf,of_,rfl,hbf,e0,e1,e2,e3,e4⟩:=(HFS.o.below (bT HB1.o hb5)).fr ef;have EF:=Hd ef;have hkf:k<M.m.t.fs.length:=(List.getElem?_eq_some_iff.1 ef).1;clear ef
     cases hu:f.used with
     | true=>
      rw[hu]at e0;have HA:=Hd (mkk_step hall.o (fun _=>by rw[usedAt_of EF.o];exact hu));clear hu;go_wp2;go_roundw;case rel=>exact⟨k+1,by omega,by go_num,HA,hb5⟩
      case measure=>simp[intOf];omega
     | false=>
      rw[hu]at e0;have HE:Hi (mev M=false):=mev_k EB.o (by rw[usedAt_of EF.o];exact hu);clear hu;go_wp2;go_ret;exact⟨by rw[HE.o];rfl,bT HB1.o hb5⟩
   ·obtain rfl:k=M.mk.length:=by omega
    have HE:Hi (mev M=true):=mev_yes HX.o HL.o h3 hall.o;go_wp2;go_ret;exact⟨by rw[HE.o];rfl,bT HB1.o hb5⟩
 ·have hnb:=nei_f h2;have HE:Hi (mev M=false):=mev_ln h2;go_wp2;go_ret;exact⟨by rw[HE.o];rfl,HB1.o⟩
theorem sMemoryValid_any(vb vf vl vo vk:Value)(M:Me)(w:World)(hM:MeR w vb vf vl vo vk M):
  Calls Tryz.prog 31 #[.agg #[vb,vf,vl,.int .i64 M.m.c.hand,.int .i64 M.m.g.count,.int .i64 M.m.g.next,.int .i64 M.m.g.round,vo,.int .i64 M.m.sp,vk,.int .i64 M.h]] w fun r w'=>r=.returned (.bool (mev M))∧Below w.heap.size w w':=by
 have HM:=Hd hM;obtain⟨W0,hW,hbx,hbz,_⟩:=box1 w #[vb,vf,vl,.int .i64 M.m.c.hand,.int .i64 M.m.g.count,.int .i64 M.m.g.next,.int .i64 M.m.g.round,vo,.int .i64 M.m.sp,vk,.int .i64 M.h] 37;have HX0:=Hd hbx;have HB0:=Hd hbz;clear hbx hbz hM;obtain⟨Af,cf,rfl,hfc,hfm,hFr⟩:=id HM.o.m.t.f;obtain⟨Ak,ck,rfl,hkc,hkm,hKr⟩:=id HM.o.k;have HFS:=Hd hFr;have HKS:=Hd hKr;clear hFr hKr;obtain⟨q0a,q1a,q2a,q3a,q4a,q5a,q6a,q7a,q8a,q9a,q10a⟩:=c11 HX0.o
 go_enter Tryz.func31,Tryz.ntmps31
 go_wp2_with fail
 refine(sMachineValid_any vb (.slice Af M.m.t.fs.length cf) vl vo M.m _ (HM.o.m.now HB0.o)).mono ?_;rintro e w1 ⟨rfl,hb1⟩;have HX1:=Hd (HX0.o.below hb1);have HB1:=Hd (bT HB0.o hb1);clear q0a q1a q2a q3a q4a q5a q6a q7a q8a q9a q10a;clear hb1 hW
 cases h1:mav M.m with
 | false=>
  have HE:Hi (mev M=false):=mev_m h1;go_wp2;go_ret;exact⟨by rw[HE.o];rfl,HB1.o⟩
 | true=>
 obtain⟨q0b,q1b,q2b,q3b,q4b,q5b,q6b,q7b,q8b,q9b,q10b⟩:=c11 HX1.o;have h16:=mav_fslen h1;by_cases h2:M.mk.length=M.m.t.fs.length
 ·have hnb:=nei_t h2;by_cases h3:M.h<0
  ·have h4:inR M.h M.m.t.fs.length=false:=bool_ff fun h=>by have:=inR_iff.1 h;omega
   have HE:Hi (mev M=false):=mev_h h4;go_wp2;go_ret;exact⟨by rw[HE.o];rfl,HB1.o⟩
  by_cases h4:(M.mk.length:Int)≤M.h
  ·have h4:inR M.h M.m.t.fs.length=false:=bool_ff fun h=>by have:=inR_iff.1 h;omega
   have HE:Hi (mev M=false):=mev_h h4;go_wp2;go_ret;exact⟨by rw[HE.o];rfl,HB1.o⟩
  have HR:Hi (inR M.h M.m.t.fs.length=true):=inR_iff.2 (by omega);have hk16:M.mk.length≤16:=by omega
  have HL:=Hd h2;have HX:=Hd h1;clear h1 h2;go_wp2;clear h3 h4 hnb;clear q0b q1b q2b q3b q4b q5b q6b q7b q8b q9b q10b;go_loopw [3] (fun u wr=>∃k:Nat,k≤M.mk.length∧u=.int .i64 k∧Hi (mkk M.m.t.fs M.mk k=true)∧Below w1.heap.size w1 wr) (fun u _=>M.mk.length-(intOf u).toNat)
  case atStart=>exact⟨0,by omega,rfl,rfl,bR⟩
  case round=>
   obtain⟨k,hk,rfl,hall,hb5⟩:=hrel;have HX5:=Hd (HX1.o.below hb5);have n9:=HX5.c 9 (.slice Ak M.mk.length ck) rfl;have n1:=HX5.c 1 (.slice Af M.m.t.fs.length cf) rfl;by_cases hlt:k<M.mk.length
   ·obtain⟨b,eb⟩:∃b,M.mk[k]?=some b:=⟨_,List.getElem?_eq_getElem hlt⟩
    obtain⟨bk,ok,rfl,hbb,d0⟩:=Rd.b1 (HKS.o.below (bT HB1.o hb5)) eb;have EB:=Hd eb;clear eb
    cases b with
    | false=>
     have HA:=Hd (mkk_step hall.o (by rw[getDb EB.o];intro h;cases h));go_wp2;go_roundw;case rel=>exact⟨k+1,by omega,by go_num,HA,hb5⟩
     case measure=>simp[intOf];omega
    | true=>
     obtain⟨f,ef⟩:∃f,M.m.t.fs[k]?=some f:=⟨_,List.getElem?_eq_getElem (by have:=HL.o;omega)⟩
     obtain⟨bf,of_,rfl,hbf,e0,e1,e2,e3,e4⟩:=(HFS.o.below (bT HB1.o hb5)).fr ef;have EF:=Hd ef;have hkf:k<M.m.t.fs.length:=(List.getElem?_eq_some_iff.1 ef).1;clear ef
     cases hu:f.used with
     | true=>
      rw[hu]at e0;have HA:=Hd (mkk_step hall.o (fun _=>by rw[usedAt_of EF.o];exact hu));clear hu;go_wp2;go_roundw;case rel=>exact⟨k+1,by omega,by go_num,HA,hb5⟩
      case measure=>simp[intOf];omega
     | false=>
      rw[hu]at e0;have HE:Hi (mev M=false):=mev_k EB.o (by rw[usedAt_of EF.o];exact hu);clear hu;go_wp2;go_ret;exact⟨by rw[HE.o];rfl,bT HB1.o hb5⟩
   ·obtain rfl:k=M.mk.length:=by omega
    have HE:Hi (mev M=true):=mev_yes HX.o HL.o HR.o hall.o;go_wp2;go_ret;exact⟨by rw[HE.o];rfl,bT HB1.o hb5⟩
 ·have hnb:=nei_f h2;have HE:Hi (mev M=false):=mev_ln h2;go_wp2;go_ret;exact⟨by rw[HE.o];rfl,HB1.o⟩
theorem usd_step{fs:List Fr}{k:Nat}{f:Fr}(h:∀(j:Nat) (g:Fr),j<k→fs[j]?=some g→g.used=true)(e:fs[k]?=some f)(hu:f.used=true):∀(j:Nat) (g:Fr),j<k+1→fs[j]?=some g→g.used=true:=by
 intro j g hj eg;rcases Nat.lt_or_ge j k with h1 | h1
 ·exact h j g h1 eg
 ·obtain rfl:j=k:=by omega
  rw[e]at eg;injection eg with eg;rw[←eg];exact hu
theorem usd_end{fs:List Fr}(h:∀(j:Nat) (g:Fr),j<fs.length→fs[j]?=some g→g.used=true):ffI fs=-1:=
 ffI_none (ffr_none fun j g e=>h j g (List.getElem?_eq_some_iff.1 e).1 e)
theorem ffO_yes{M:Me}{k:Nat}(hv:mev M=true)(h:ffI M.m.t.fs=(k:Int)):ffO M=true∧ffV M=(k:Int):=by
 have h1:ffO M=true:=by unfold ffO;rw[hv,h];simp
 exact⟨h1,by unfold ffV;rw[if_pos h1,h]⟩
theorem ffO_v{M:Me}(hv:mev M=false):ffO M=false:=by unfold ffO;rw[hv];rfl
theorem ffO_n{M:Me}(h:ffI M.m.t.fs=-1):ffO M=false:=by unfold ffO;rw[h];simp
theorem FreeFrame_any(vb vf vl vo vk:Value)(M:Me)(w:World)(hM:MeR w vb vf vl vo vk M)(hfree:Free w):
  Calls Tryz.prog 9 #[.agg #[vb,vf,vl,.int .i64 M.m.c.hand,.int .i64 M.m.g.count,.int .i64 M.m.g.next,.int .i64 M.m.g.round,vo,.int .i64 M.m.sp,vk,.int .i64 M.h]] w fun r w'=>r=.returned (.tuple #[.int .i64 (ffV M),.bool (ffO M)])∧Below w.heap.size w w':=by
 have HF:=Hd hfree;clear hfree;have HM:=Hd hM;obtain⟨W0,hW,hbx,hbz,_⟩:=box1 w #[vb,vf,vl,.int .i64 M.m.c.hand,.int .i64 M.m.g.count,.int .i64 M.m.g.next,.int .i64 M.m.g.round,vo,.int .i64 M.m.sp,vk,.int .i64 M.h] 37;have HX0:=Hd hbx;have HB0:=Hd hbz;clear hbx hbz hM;obtain⟨Af,cf,rfl,hfc,hfm,hFr⟩:=id HM.o.m.t.f;obtain⟨Ak,ck,rfl,hkc,hkm,hKr⟩:=id HM.o.k;have HFS:=Hd hFr;have HKS:=Hd hKr;clear hFr hKr;obtain⟨q0a,q1a,q2a,q3a,q4a,q5a,q6a,q7a,q8a,q9a,q10a⟩:=c11 HX0.o
 go_enter Tryz.func9,Tryz.ntmps9
 go_wp2_with fail
 refine(MemoryValid_any vb (.slice Af M.m.t.fs.length cf) vl vo (.slice Ak M.mk.length ck) M _ (HM.o.now HB0.o) (HF.o.now HB0.o)).mono ?_;rintro e w1 ⟨rfl,hb1⟩;have HX1:=Hd (HX0.o.below hb1);have HB1:=Hd (bT HB0.o hb1);clear q0a q1a q2a q3a q4a q5a q6a q7a q8a q9a q10a;clear hb1 hW
 cases h1:mev M with
 | false=>
  have HA:Hi (ffO M=false):=ffO_v h1;have HV:Hi (ffV M=0):=ffO_no HA.o;go_wp2;go_ret2;exact⟨by rw[HA.o,HV.o];rfl,HB1.o⟩
 | true=>
 have h16:M.m.t.fs.length≤16:=(mav_fslen (mav_MV.2 (mev_MEV.1 h1).m)).2;have HMV:=Hd h1;clear h1;have n1:=HX1.c 1 (.slice Af M.m.t.fs.length cf) rfl;go_wp2;clear n1;go_loopw [14] (fun u wr=>∃k:Nat,k≤M.m.t.fs.length∧u=.int .i64 k∧Hi (∀(j:Nat) (g:Fr),j<k→M.m.t.fs[j]?=some g→g.used=true)∧Below w1.heap.size w1 wr) (fun u _=>M.m.t.fs.length-(intOf u).toNat)
 case atStart=>exact⟨0,by omega,rfl,fun j g h=>absurd h (by omega),bR⟩
 case round=>
  obtain⟨k,hk,rfl,hall,hb5⟩:=hrel;by_cases hlt:k<M.m.t.fs.length
  ·obtain⟨f,ef⟩:∃f,M.m.t.fs[k]?=some f:=⟨_,List.getElem?_eq_getElem hlt⟩
   obtain⟨bf,of_,rfl,hbf,e0,e1,e2,e3,e4⟩:=(HFS.o.below (bT HB1.o hb5)).fr ef;have EF:=Hd ef;clear ef
   cases hu:f.used with
   | true=>
    rw[hu]at e0;have HA:=Hd (usd_step hall.o EF.o hu);clear hu;go_wp2;go_roundw;case rel=>exact⟨k+1,by omega,by go_num,HA,bA hb5⟩
    case measure=>simp[intOf];omega
   | false=>
    rw[hu]at e0;have hff:=ffO_yes HMV.o (ffI_some (ffr_at EF.o hu hall.o));have HA:=Hd hff.1;have HV:=Hd hff.2;clear hu hff;go_wp2;go_ret2;exact⟨by rw[HA.o,HV.o];rfl,bA (bT HB1.o hb5)⟩
  ·obtain rfl:k=M.m.t.fs.length:=by omega
   have HA:Hi (ffO M=false):=ffO_n (usd_end hall.o);have HV:Hi (ffV M=0):=ffO_no HA.o;go_wp2;go_ret2;exact⟨by rw[HA.o,HV.o];rfl,bT HB1.o hb5⟩
theorem l7Free_any(vb vf:Value)(t:Tab)(w:World)(hT:TaR w vb vf t)(h16:t.fs.length≤1048576):
  Calls Tryz.prog 30 #[.agg #[vb,vf]] w fun r w'=>r=.returned (.int .i64 (ffI t.fs))∧Below w.heap.size w w':=by
 obtain⟨Af,cf,rfl,hfc,hfm,hFr⟩:=id hT.f;obtain⟨W0,hW,hbx,hbz,_⟩:=box1 w #[vb,.slice Af t.fs.length cf] 26;have HX0:=Hd hbx;have HB0:=Hd hbz;have HFS:=Hd hFr;clear hbx hbz hT hFr
 go_enter Tryz.func30,Tryz.ntmps30
 go_upto_region 1 with fail
 try rw[hW]
 clear hW;go_wp2;go_loopw [3] (fun u wr=>∃k:Nat,k≤t.fs.length∧u=.int .i64 k∧Hi (∀(j:Nat) (g:Fr),j<k→t.fs[j]?=some g→g.used=true)∧Below W0.heap.size W0 wr) (fun u _=>t.fs.length-(intOf u).toNat)
 case atStart=>exact⟨0,by omega,rfl,fun j g h=>absurd h (by omega),bR⟩
 case round=>
  obtain⟨k,hk,rfl,hall,hb5⟩:=hrel;have n1:=(HX0.o.below hb5).cell_ 1 (v:=.slice Af t.fs.length cf) rfl;by_cases hlt:k<t.fs.length
  ·obtain⟨f,ef⟩:∃f,t.fs[k]?=some f:=⟨_,List.getElem?_eq_getElem hlt⟩
   obtain⟨bf,of_,rfl,hbf,e0,e1,e2,e3,e4⟩:=(HFS.o.below (bT HB0.o hb5)).fr ef;have EF:=Hd ef;clear ef
   cases hu:f.used with
   | true=>
    rw[hu]at e0;have HA:=Hd (usd_step hall.o EF.o hu);clear hu;go_wp2;go_roundw;case rel=>exact⟨k+1,by omega,by go_num,HA,hb5⟩
    case measure=>simp[intOf];omega
   | false=>
    rw[hu]at e0;have HV:=Hd (ffI_some (ffr_at EF.o hu hall.o));clear hu;go_wp2;go_ret;exact⟨by rw[HV.o];rfl,bT HB0.o hb5⟩
  ·obtain rfl:k=t.fs.length:=by omega
   have HV:=Hd (usd_end hall.o);go_wp2;go_ret;exact⟨by rw[HV.o];rfl,bT HB0.o hb5⟩
end Go.Proofs.YtfbnokjdkhcgoaaGreatDoor
