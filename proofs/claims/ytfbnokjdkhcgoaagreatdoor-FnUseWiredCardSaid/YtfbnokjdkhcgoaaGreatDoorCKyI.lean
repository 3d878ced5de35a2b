/- A part of the proofs of this seat. -/
import Derived.Shelf.SlSortCmp.NoneTotal
import Derived.Deep.CutRange
import Derived.Test.YtfbnokjdkhcgoaaGreatDoorCDwG
set_option linter.unusedVariables false
set_option linter.unusedSimpArgs false
set_option maxRecDepth 1000000
set_option maxHeartbeats 16000000
namespace Go.Proofs.YtfbnokjdkhcgoaaGreatDoor
open Go.RowKit
def encK(x:Key):List Value:=[.int .i64 x.1,.int .i64 x.2]
def cmpK(x y:Key):Int:=if kb x y=true then -1 else 1
theorem lt_cmpK(x y:Key):ltOf cmpK x y=kb x y:=by
 unfold ltOf cmpK;cases kb x y<;>simp
theorem swoK:Sort.SWO (ltOf cmpK) where
 irrefl x:=by rw[lt_cmpK,kb_no];omega
 trans x y z h1 h2:=by rw[lt_cmpK]at*;rw[kb_iff]at*;omega
 ntrans x y z h1 h2:=by rw[lt_cmpK]at*;rw[kb_no]at*;omega
theorem kcells_at:∀(l:List Key) (t:Nat),t<l.length*2→(kcells l)[t]?=some ((encK l.toArray[t / 2]!)[t % 2]!)
  | [],t,h=>by simp at h
  | x::l,0,_=>rfl
  | x::l,1,_=>rfl
  | x::l,t+2,h=>by
    have ih:=kcells_at l t (by simp only[List.length_cons]at h;omega);have e1:(t+2) / 2=t / 2+1:=by omega
    have e2:(t+2) % 2=t % 2:=by omega
    rw[e1,e2];show(kcells l)[t]?=_;rw[ih]
    congr 3
    have h2:t / 2<l.length:=by simp only[List.length_cons]at h;omega
    simp[h2]
theorem flat_at(l:List Key)(t:Nat)(h:t<l.length*2):(kcells l)[t]?=some (Sort.flatK encK 2 l.toArray)[t]!:=by
 rw[kcells_at l t h,Sort.get_flatK encK 2 l.toArray t (by simpa using h)]
theorem holds_own{w:World}{base g c n:Nat}{e:TypeId}{l:List Key}(h:w.ownsRow base e 2 (.slice (some ⟨g,0,none⟩) n c) n (kcells l))(hl:l.length=n)(hn:0<n):Sort.HoldsK encK 2 w g 0 l.toArray:=by
 obtain⟨hb,hc,hm,cur,ho,hs,ht⟩:=own_open h hn;intro j hj;rw[Sort.size_flatK]at hj;have hj2:j<l.length*2:=by simpa using hj
 have hlt:j<n*2:=by omega
 have he:cur[j]?=some (Sort.flatK encK 2 l.toArray)[j]!:=by
  rw[←flat_at l j hj2,←ht,List.getElem?_take,if_pos hlt,Array.getElem?_toList]
 rw[Nat.zero_add];exact⟨ho.cell_ j he,ho.free j⟩
theorem sort_grown(w:World)(g m:Nat)(d:Array Key)(os:Array Obj):w.grownBy (sortWorldK encK 2 w g 0 m d os) (some g):=by
 refine⟨rfl,rfl,rfl,size_sortWorldK_c encK 2 w g 0 m d os,fun k hk hne=> ?_⟩;unfold sortWorldK;rw[Sort.heap_grow_old _ _ (by rw[Sort.putRowK,Sort.size_putRow];exact hk)];show(w.heap.modify g _)[k]?=w.heap[k]?;rw[Array.getElem?_modify,if_neg (fun h=>hne (by rw[h]))]
theorem sort_own{w:World}{base g c n m:Nat}{e:TypeId}{l l':List Key}{os:Array Obj}(h:w.ownsRow base e 2 (.slice (some ⟨g,0,none⟩) n c) n (kcells l))(hl':l'.length=n)(hn:0<n):
  (sortWorldK encK 2 w g 0 m l'.toArray os).ownsRow base e 2 (.slice (some ⟨g,0,none⟩) n c) n (kcells l'):=by
 have hgl:g<w.heap.size:=(h.lt g rfl).2;obtain⟨hb,hc,hm,cur,ho,hs,ht⟩:=own_open h hn
 have ho':Own (sortWorldK encK 2 w g 0 m l'.toArray os) g e (Sort.putCells id 0 (Sort.flatK encK 2 l'.toArray) cur):=by
  unfold Own sortWorldK;rw[Sort.heap_grow_old _ _ (by rw[Sort.putRowK,Sort.size_putRow];exact hgl)];show(w.heap.modify g _)[g]?=_;rw[Array.getElem?_modify,if_pos rfl];have ho2:w.heap[g]?=some (.cells cur e (0,0)):=ho;rw[ho2];rfl
 refine⟨by rw[kcells_length,hl'],.inr ⟨g,c,_,rfl,hb,ho',hc,hm,by rw[Sort.putCells,Array.size_mapIdx];exact hs, ?_⟩⟩;refine List.ext_getElem? fun t=> ?_
 rw[List.getElem?_take];split
 ·rename_i hlt;have hl2:t<l'.length*2:=by omega
  rw[flat_at l' t hl2,Array.getElem?_toList,Sort.putCells,Array.getElem?_mapIdx];have hcs:t<cur.size:=by rw[hs];have:=Nat.mul_le_mul_right 2 hc;omega
  rw[Array.getElem?_eq_getElem hcs,Option.map_some,if_pos (by rw[Sort.size_flatK];simp;omega)];rfl
 ·rename_i hge;rw[List.getElem?_eq_none (by rw[kcells_length];omega)]
theorem sorted_kso{l:List Key}{d':Array Key}(hp:Sort.PermIn 0 l.toArray.size l.toArray d')(hs:Sort.SortedIn (ltOf cmpK) 0 l.toArray.size d'):d'.toList.length=l.length∧KSo d'.toList∧d'.toList.Perm l:=by
 obtain⟨h1,_,h3⟩:=hp;have hsz:d'.size=l.length:=by simpa using h1
 refine⟨by simpa using hsz, ?_, ?_⟩
 ·unfold KSo;rw[List.pairwise_iff_getElem];intro i j hi hj hij;have:=hs i j (Nat.zero_le _) hij (by simp at hj⊢;omega);rw[lt_cmpK]at this;simp only[Array.length_toList]at hi hj;rw[getElem!_pos d' j hj,getElem!_pos d' i hi]at this;simpa using this
 ·rw[Array.extract_eq_self_of_le (by rw[hsz];simp),Array.extract_eq_self_of_le (Nat.le_refl _)]at h3;simpa using h3
theorem keyBefore_is(a b c d:Int)(w:World):
  Calls Tryz.prog 35 #[.agg #[.int .i64 a,.int .i64 b],.agg #[.int .i64 c,.int .i64 d]] w fun r w'=>r=.returned (.bool (kb (a,b) (c,d)))∧w'=(w.alloc (.cells #[.int .i64 a,.int .i64 b] 54)).alloc (.cells #[.int .i64 c,.int .i64 d] 54):=by
 have hx:=(Own.new_ w 54 #[.int .i64 a,.int .i64 b]).alloc (o:=.cells #[.int .i64 c,.int .i64 d] 54);have hy:=ownAt (W:=w.alloc (.cells #[.int .i64 a,.int .i64 b] 54)) (g:=w.heap.size+1) (t:=54) (cs:=#[.int .i64 c,.int .i64 d]) (by simp);generalize hW:(w.alloc (.cells #[.int .i64 a,.int .i64 b] 54)).alloc (.cells #[.int .i64 c,.int .i64 d] 54)=W0 at hx hy;have x0:=hx.cell_ 0 (v:=.int .i64 a) rfl;have x1:=hx.cell_ 1 (v:=.int .i64 b) rfl;have y0:=hy.cell_ 0 (v:=.int .i64 c) rfl;have y1:=hy.cell_ 1 (v:=.int .i64 d) rfl;clear hx hy
 go_enter Tryz.func35,Tryz.ntmps35
 cases h1:decide (a<c)with
 | true=>
  have HZ:Hi (kb (a,b) (c,d)=true):=by show _=_;unfold kb;rw[h1];rfl
  go_wp2;go_ret;exact⟨by rw[HZ.o];rfl,rfl⟩
 | false=>
  cases h2:(a == c)with
  | true=>
   have HZ:Hi (kb (a,b) (c,d)=decide (b<d)):=by show _=_;unfold kb;rw[h1];have:=beq_iff_eq.1 h2;subst this;simp
   go_wp2;go_ret;exact⟨by rw[HZ.o];rfl,rfl⟩
  | false=>
   have HZ:Hi (kb (a,b) (c,d)=false):=by show _=_;unfold kb;rw[h1];have:a≠c:=beq_eq_false_iff_ne.1 h2;simp[this]
   go_wp2;go_ret;exact⟨by rw[HZ.o];rfl,rfl⟩
theorem keysOf1_is(x y:Key)(W:World):Calls Tryz.prog 34 #[.agg #[.int .i64 x.1,.int .i64 x.2],.agg #[.int .i64 y.1,.int .i64 y.2]] W fun e w'=>e=.returned (.int .i64 (cmpK x y))∧∃q os',w'=Sort.grow (W.drewN q) os':=by
 obtain⟨a,b⟩:=x;obtain⟨c,d⟩:=y;have hx:=(Own.new_ W 54 #[.int .i64 a,.int .i64 b]).alloc (o:=.cells #[.int .i64 c,.int .i64 d] 54);have hy:=ownAt (W:=W.alloc (.cells #[.int .i64 a,.int .i64 b] 54)) (g:=W.heap.size+1) (t:=54) (cs:=#[.int .i64 c,.int .i64 d]) (by simp)
 have hg:(((W.alloc (.cells #[.int .i64 a,.int .i64 b] 54)).alloc (.cells #[.int .i64 c,.int .i64 d] 54)).alloc (.cells #[.int .i64 a,.int .i64 b] 54)).alloc (.cells #[.int .i64 c,.int .i64 d] 54)=Sort.grow (W.drewN 0) (((#[.cells #[.int .i64 a,.int .i64 b] 54]++#[.cells #[.int .i64 c,.int .i64 d] 54])++#[.cells #[.int .i64 a,.int .i64 b] 54])++#[.cells #[.int .i64 c,.int .i64 d] 54]):=by
  rw[Sort.alloc_eq_grow,Sort.alloc_eq_grow,Sort.alloc_eq_grow,Sort.alloc_eq_grow,Sort.grow_grow,Sort.grow_grow,Sort.grow_grow];rfl
 have HG:=Hd hg;clear hg;generalize hW:(W.alloc (.cells #[.int .i64 a,.int .i64 b] 54)).alloc (.cells #[.int .i64 c,.int .i64 d] 54)=W0 at hx hy HG;have x0:=hx.cell_ 0 (v:=.int .i64 a) rfl;have x1:=hx.cell_ 1 (v:=.int .i64 b) rfl;have y0:=hy.cell_ 0 (v:=.int .i64 c) rfl;have y1:=hy.cell_ 1 (v:=.int .i64 d) rfl;clear hx hy
 go_enter Tryz.func34,Tryz.ntmps34
 go_wp2_with fail
 refine(keyBefore_is a b c d _).mono ?_;rintro e w1 ⟨rfl,rfl⟩
 cases hz:kb (a,b) (c,d)with
 | true=>
  have HZ:Hi (cmpK (a,b) (c,d)=-1):=if_pos hz;go_wp2;go_ret;exact⟨by rw[HZ.o];rfl,_,_,HG.o⟩
 | false=>
  have HZ:Hi (cmpK (a,b) (c,d)=1):=if_neg (by rw[hz];decide);go_wp2;go_ret;exact⟨by rw[HZ.o];rfl,_,_,HG.o⟩
theorem keysOf1_lays(g size:Nat)(w:World):CmpLays Tryz.prog 34 #[] encK 2 cmpK g 0 size w:=fun _ _ _ _ x y=>keysOf1_is x y _
theorem sortKeys_own(base g c:Nat)(l:List Key)(w:World)(h:w.ownsRow base 54 2 (.slice (some ⟨g,0,none⟩) l.length c) l.length (kcells l))(hn:0<l.length)(hb:l.length≤1048576):
  Calls Tryz.prog 33 #[.slice (some ⟨g,0,none⟩) l.length c,.func (.func 34) #[] #[]] w fun e w'=>e=.returned (.tuple #[])∧w'.ownsRow base 54 2 (.slice (some ⟨g,0,none⟩) l.length c) l.length (kcells (ksrt l))∧w.grownBy w' (some g):=by
 have eg:∀args w,(callFunc 34 args).run Tryz.prog w=.ok (.enter 34 args) w:=enters_of Tryz.func34 (by kernel_rfl) rfl;have hcon:=AnyQ.slices_SortFunc Tryz.ksort 2 Tryz.isAgg54 Tryz.sizeOf54 encK (fun _=>rfl) (fun x v hv=>by simp[encK]at hv;rcases hv with rfl | rfl<;>rfl) cmpK swoK 34 #[] g 0 c l.toArray w eg (keysOf1_lays g _ w) (holds_own h rfl hn) (h.lt g rfl).2 (by simp;omega);have hs:l.toArray.size=l.length:=by simp
 rw[hs]at hcon;refine hcon.mono ?_;rintro e w' ⟨rfl,d',n,os,hp,hso,rfl⟩;rw[←hs]at hp hso;obtain⟨h1,h2,h3⟩:=sorted_kso hp hso;have he:d'.toList=ksrt l:=ksrt_of h2 h3;refine⟨rfl, ?_,sort_grown w g n d' os⟩;rw[←he];have:=sort_own (m:=n) (os:=os) h h1 hn;simpa using this
theorem clipK_any(A:Option Addr)(n c:Nat)(w:World)(hn:n≤c):Calls Tryz.prog 36 #[.slice A n c] w fun r w'=>r=.returned (.slice A n n)∧w'=w:=by
 obtain⟨i0,hi0,_⟩:=info_parts key_info;have hs:=fun W=>slice_max (P:=Tryz.prog) W 41 54 i0 A n c Tryz.underlying41 hi0 hn
 go_enter Tryz.func36,Tryz.ntmps36
 go_wp2;go_ret;exact⟨rfl,rfl⟩
theorem KeysOf_imp(vb vf:Value)(t:Tab)(w:World)(hT:TaR w vb vf t)(hfree:Free w):
  Calls Tryz.prog 11 #[.agg #[vb,vf]] w (Post2 fun v w'=>∃A c,v=.slice A (kys t).length c∧(kys t).length≤c∧(Ks w'.heap.size w' A (kys t)∧∀b o,A=some ⟨b,o,none⟩→w.heap.size≤b)∧Below w.heap.size w w'):=by
 obtain⟨Ab,cb,rfl,_⟩:=id hT.b;obtain⟨Af,cf,rfl,hbc,hbm,hL⟩:=id hT.f;have HT:=Hd hT;have HF:=Hd hfree;clear hT hL hfree;have ho:=Own.new_ w 26 #[.slice Ab t.bs.length cb,.slice Af t.fs.length cf];have hb0:Below w.heap.size w (w.alloc (.cells #[.slice Ab t.bs.length cb,.slice Af t.fs.length cf] 26)):=bA bR;have hs0:(w.alloc (.cells #[.slice Ab t.bs.length cb,.slice Af t.fs.length cf] 26)).heap.size=w.heap.size+1:=by simp
 generalize hW:w.alloc (.cells #[.slice Ab t.bs.length cb,.slice Af t.fs.length cf] 26)=W0 at ho hb0 hs0;have HO:=Hd ho;have HB:=Hd hb0;have o0:=ho.cell_ 0 (v:=.slice Ab t.bs.length cb) rfl;have o1:=ho.cell_ 1 (v:=.slice Af t.fs.length cf) rfl;clear ho hb0
 go_enter Tryz.func11,Tryz.ntmps11
 go_wp2_with fail
 refine(TableValid_any _ _ t W0 (HT.o.now HB.o) (HF.o.now HB.o)).mono ?_;rintro e w1 ⟨rfl,hb1⟩;have HO1:=Hd (HO.o.below hb1);have HB1:=Hd (bT HB.o hb1);have hs1:w.heap.size+1≤w1.heap.size:=by have:=hb1.size;omega
 clear o0 o1 HO HB hb1 hW
 cases htv:tv t with
 | false=>
  have HE:=Hd (kys_no htv);clear htv;go_wp2;go_ret;exact⟨_,rfl,none,0,by rw[HE.o];rfl,by rw[HE.o];simp,⟨by rw[HE.o];exact⟨by simp[kcells],fun h=>absurd h (by simp)⟩,fun b o h=>by cases h⟩,HB1.o⟩
 | true=>
  obtain⟨⟨_,hfl,_⟩,_⟩:=tv_parts htv;have HKE:Hi (kys t=ksrt (keysL t.fs)):=Hd (by unfold kys;rw[if_pos htv]);have o0:=HO1.c 0 (.slice Ab t.bs.length cb) rfl;have o1:=HO1.c 1 (.slice Af t.fs.length cf) rfl;clear htv;go_wp2;go_loopw [3,12] (fun out u wr=>∃(k:Nat) (l:List Key),k≤t.fs.length∧u=.int .i64 k∧l.length≤k∧Hi (l=keysL (t.fs.take k))∧Hi (wr.ownsRow (w.heap.size+1) 54 2 out l.length (kcells l))∧Hi (Below w.heap.size w wr)∧w.heap.size+1≤wr.heap.size) (fun _ u _=>t.fs.length-(intOf u).toNat)
  case atStart=>exact⟨0,[],by omega,rfl,by simp,Hd (by simp[keysL]),Hd (World.ownsRow_nil _ _ _ _),HB1,hs1⟩
  case round=>
   obtain⟨k,l,hk,rfl,hlk,HP,HX,HR,hsr⟩:=hrel;clear o0 o1;by_cases hlt:k<t.fs.length
   ·have hki:(k:Int)<(t.fs.length:Int):=by omega
    obtain⟨y,ey⟩:∃y,t.fs[k]?=some y:=⟨_,List.getElem?_eq_getElem hlt⟩
    have hfs:=(HT.o.now HR.o).fsl;obtain⟨bq,oq,rfl,hbq,y0,y1,y2,y3,y4⟩:=hfs.fr ey;have HEY:=Hd ey;clear hfs ey;have hk0:(0:Int)≤(k:Int):=by omega
    have hf:=Own.new_ wr 80 #[.bool y.used,.int .i64 y.s,.int .i64 y.p,.int .i64 y.r,.int .i64 y.n];have hbf:Below wr.heap.size wr (wr.alloc (.cells #[.bool y.used,.int .i64 y.s,.int .i64 y.p,.int .i64 y.r,.int .i64 y.n] 80)):=bA bR;generalize hWF:wr.alloc (.cells #[.bool y.used,.int .i64 y.s,.int .i64 y.p,.int .i64 y.r,.int .i64 y.n] 80)=wf at hf hbf;go_upto_region 7 with fail
    try rw[hWF]
    have HX2:=Hd (own_kept HX.o hbf);have HR2:=Hd (bT HR.o hbf);have hsf:w.heap.size+1≤wf.heap.size:=by have:=hbf.size;omega
    have f0:=hf.cell_ 0 (v:=.bool y.used) rfl;have f1:=hf.cell_ 1 (v:=.int .i64 y.s) rfl;have f2:=hf.cell_ 2 (v:=.int .i64 y.p) rfl;clear hf y0 y1 y2 y3 y4 HX HR hbf hWF
    cases hu:y.used with
    | false=>
     rw[hu]at f0;have HP2:Hi (l=keysL (t.fs.take (k+1))):=Hd (by rw[keysL_take HEY.o,hu];simpa using HP.o);clear hu;go_wp2;go_roundw;case rel=>exact⟨k+1,l,by omega,by simp,by omega,HP2,HX2,HR2,hsf⟩
     case measure=>simp[intOf];omega
    | true=>
     rw[hu]at f0;have HP2:Hi (l++[(y.s,y.p)]=keysL (t.fs.take (k+1))):=Hd (by rw[keysL_take HEY.o,hu,HP.o];rfl);clear hu;have hX2:=HX2.o;obtain⟨A8,c8,rfl,_⟩:=own_rd HX2.o;obtain⟨v7,w7,hrun,hown7,hg7,_⟩:=run_append_key (w.heap.size+1) wf (.slice A8 l.length c8) l.length l y.s y.p hX2 rfl (by omega) hsf;have hbl:∀b,(Value.slice A8 l.length c8).ownBlock=some b→w.heap.size+1≤b:=own_block hX2;have HX7:Hi (w7.ownsRow (w.heap.size+1) 54 2 v7 (l++[(y.s,y.p)]).length (kcells (l++[(y.s,y.p)]))):=Hd (by rw[List.length_append];exact hown7);have HR7:=Hd (bG (bA HR2.o (o:=.cells #[.int .i64 y.s,.int .i64 y.p] 54)) hg7 (fun b hb=>by have:=hbl b hb;omega));have hs7:w.heap.size+1≤w7.heap.size:=by have:=hg7.size;simp at this;omega
     clear hX2 hown7 hg7 hbl HX2 HR2
     go_wp2_with (at_builtin;refine wpList_append_run _ rfl (.tmp 18) (.tmp 21) 41 rfl _ _ _ _ rfl rfl hrun ?_)
     clear hrun f0 f1 f2;go_roundw;case rel=>exact⟨k+1,l++[(y.s,y.p)],by omega,by simp,by simp;omega,HP2,HX7,HR7,hs7⟩
     case measure=>simp[intOf];omega
   ·obtain rfl:k=t.fs.length:=by omega
    have hki:decide ((t.fs.length:Int)<(t.fs.length:Int))=false:=by simp
    have HL2:Hi (kys t=ksrt l):=Hd (by rw[HKE.o,HP.o,List.take_length]);have hX:=HX.o;rcases Nat.eq_zero_or_pos l.length with h0 | h0
    ·obtain rfl:=List.length_eq_zero_iff.1 h0;obtain⟨A8,c8,rfl,hc8,_⟩:=own_rd HX.o;have hS:=fun W=>AnyF.slices_SortFunc_none (P:=Tryz.prog) (ρ:=Tryz.ksort_ren) {Tryz.ksort with} A8 c8 (.func (.func 34) #[] #[]) W
     change∀W,Calls Tryz.prog 33 _ _ _ at hS;clear hX;go_wp2_with fail
     refine(hS _).mono ?_;rintro e w2 ⟨rfl,rfl⟩;clear hS;go_wp2_with fail
     refine(clipK_any A8 0 c8 _ (Nat.zero_le _)).mono ?_;rintro e w3 ⟨rfl,rfl⟩;go_wp2;go_ret;exact⟨_,rfl,A8,0,by rw[HL2.o];rfl,by rw[HL2.o];exact Nat.zero_le _,⟨by rw[HL2.o];exact⟨by simp[ksrt,kcells],fun h=>absurd h (by simp[ksrt])⟩,fun b o h=>by have:=own_block HX.o b (by rw[h];rfl);omega⟩,HR.o⟩
    ·obtain⟨A8,c8,rfl,_⟩:=own_rd HX.o
     obtain⟨g,rfl⟩:∃g,A8=some ⟨g,0,none⟩:=by
      rcases hX.2 with⟨_,e⟩ | ⟨g,cap,cur,e,_⟩
      ·omega
      ·injection e with e _ _;exact⟨g,e⟩
     have hgb:w.heap.size+1≤g:=own_block hX g rfl;have HS:=Hd (sortKeys_own (w.heap.size+1) g c8 l wr hX h0 (by omega));clear hX;go_wp2_with fail
     refine HS.o.mono ?_;rintro e w2 ⟨rfl,ho2,hg2⟩;have HB2:=Hd (bG HR.o hg2 (fun b hb=>by injection hb with hb;omega));obtain⟨A9,c9,e9,hc9,hm9,hr9⟩:=own_rd ho2;injection e9 with e9 _ e9';subst e9 e9';have HK9:Hi (Ks w2.heap.size w2 (some ⟨g,0,none⟩) (ksrt l)):=Hd (by unfold Ks;rw[ksrt_length];exact hr9);clear HS ho2 hg2 hr9;go_wp2_with fail
     refine(clipK_any _ _ c8 _ hc9).mono ?_;rintro e w3 ⟨rfl,rfl⟩;go_wp2;go_ret;exact⟨_,rfl,_,_,by rw[HL2.o,ksrt_length];rfl,by rw[HL2.o,ksrt_length];exact Nat.le_refl _,⟨by rw[HL2.o];exact HK9.o,fun b o h=>by injection h with h;injection h with h;omega⟩,HB2.o⟩
end Go.Proofs.YtfbnokjdkhcgoaaGreatDoor
