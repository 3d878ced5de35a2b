/- A part of the proofs of this seat. -/
import Derived.Deep.RegionHeldLaw
import Derived.Deep.CutRange
import Derived.Test.YtfbnokjdkhcgoaaGreatDoorCRelC
set_option linter.unusedVariables false
set_option linter.unusedSimpArgs false
set_option maxRecDepth 1000000
set_option maxHeartbeats 16000000
namespace Go.Proofs.YtfbnokjdkhcgoaaGreatDoor
open Go.RowKit
theorem l3CopyO_any(vb vf:Value)(t:Tab)(w:World)(hT:TaR w vb vf t)(h1:t.bs.length≤1048576)(h2:t.fs.length≤1048576):
    Calls Tryz.prog 157 #[.agg #[vb,vf]] w (Post2 fun v w'=>∃v1 v2,v=.agg #[v1,v2]∧w'.ownsRow w.heap.size 3 1 v1 t.bs.length (intE.cells t.bs)∧w'.ownsRow w.heap.size 80 5 v2 t.fs.length (frE.cells t.fs)∧Below w.heap.size w w'):=by
  obtain⟨Ab,cb,rfl,hbc,hbm,hB⟩:=hT.b;obtain⟨Af,cf,rfl,hfc,hfm,hF⟩:=hT.f;obtain⟨i0,hi0,hz0,hz1,hz2⟩:=info_parts int_info2;obtain⟨j0,hj0,hy0,hy1,hy2⟩:=info_parts fr_info;have hbx:=(Own.new_ w 26 #[.slice Ab t.bs.length cb,.slice Af t.fs.length cf]).alloc (o:=.cells #[.slice none 0 0,.slice none 0 0] 26);have hbo:=ownAt (W:=w.alloc (.cells #[.slice Ab t.bs.length cb,.slice Af t.fs.length cf] 26)) (g:=w.heap.size+1) (t:=26) (cs:=#[.slice none 0 0,.slice none 0 0]) (by simp);have hb0:Below w.heap.size w ((w.alloc (.cells #[.slice Ab t.bs.length cb,.slice Af t.fs.length cf] 26)).alloc (.cells #[.slice none 0 0,.slice none 0 0] 26)):=bA (bA bR);have hs0:((w.alloc (.cells #[.slice Ab t.bs.length cb,.slice Af t.fs.length cf] 26)).alloc (.cells #[.slice none 0 0,.slice none 0 0] 26)).heap.size=w.heap.size+2:=by simp
  generalize hW:(w.alloc (.cells #[.slice Ab t.bs.length cb,.slice Af t.fs.length cf] 26)).alloc (.cells #[.slice none 0 0,.slice none 0 0] 26)=W0 at hbx hbo hb0 hs0;have q0:=hbx.cell_ 0 (v:=.slice Ab t.bs.length cb) rfl;have q1:=hbx.cell_ 1 (v:=.slice Af t.fs.length cf) rfl;have HX0:=Hd hbx;have HO0:=Hd hbo;have HB0:=Hd hb0;have HBR:=Hd hB;have HFR:=Hd hF;clear hbx hbo hb0 hB hF hT
  go_enter Tryz.func157,Tryz.ntmps157
  go_wp2
  go_region_held_law (fun w'=>w'.cell? ⟨w.heap.size,0,none⟩=some (.slice Ab t.bs.length cb)∧w'.cell? ⟨w.heap.size,1,none⟩=some (.slice Af t.fs.length cf)) (go_keep) (first
    | (refine step_copy intE 23 23 3 i0 _ _ Tryz.underlying23 hi0 hz0 hz1 hz2 rfl (by omega) (w.heap.size+2) rfl (.tmp 3) (.tmp 5) rfl rfl _ Ab cb t.bs rfl rfl (ownAt (W:=W0) (by simp[hs0])) (by first | omega | (simp[hs0]<;>omega)) w.heap.size (HBR.o.below (by first | exact bA (bD HB0.o) | exact bA (bA (bD HB0.o)))) h1 (by first | omega | (simp[hs0]<;>omega)) ?_
       intro v1 w1 hown1 hg1;obtain⟨A1,c1,rfl,_⟩:=slm_own rfl hown1;have HB1:Hi (Below w.heap.size w w1):=bG (by first | exact bA (bD HB0.o) | exact bA (bA (bD HB0.o))) hg1 (fun k hk=>by injection hk with hk;omega);have hx1:=own_other (by first | exact HX0.o.drew.alloc (o:=.cells #[] 3) | exact(HX0.o.drew.alloc (o:=.cells #[] 3)).alloc (o:=.cells #[] 80) | exact(HX0.o.drew.alloc (o:=.cells #[] 80)).alloc (o:=.cells #[] 3)) hg1 (by first | omega | (simp[hs0]<;>omega));have ho1:=own_other (by first | exact HO0.o.drew.alloc (o:=.cells #[] 3) | exact(HO0.o.drew.alloc (o:=.cells #[] 3)).alloc (o:=.cells #[] 80) | exact(HO0.o.drew.alloc (o:=.cells #[] 80)).alloc (o:=.cells #[] 3)) hg1 (by first | omega | (simp[hs0]<;>omega));have d0:=hx1.cell_ 0 (v:=.slice Ab t.bs.length cb) rfl;have d1:=hx1.cell_ 1 (v:=.slice Af t.fs.length cf) rfl;have HX1:=Hd hx1;have HO1:=Hd ho1;have HW1:=Hd hown1;have hs1:w.heap.size+3≤w1.heap.size:=Nat.le_trans (by first | omega | (simp[hs0]<;>omega)) hg1.size
       skip
       clear hown1 hg1 hx1 ho1)
    | (refine step_copy intE 23 23 3 i0 _ _ Tryz.underlying23 hi0 hz0 hz1 hz2 rfl (by omega) (w.heap.size+2) rfl (.tmp 3) (.tmp 5) rfl rfl _ Ab cb t.bs rfl rfl (ownAt (W:=W0) (by simp[hs0])).alloc (by first | omega | (simp[hs0]<;>omega)) w.heap.size (HBR.o.below (by first | exact bA (bD HB0.o) | exact bA (bA (bD HB0.o)))) h1 (by first | omega | (simp[hs0]<;>omega)) ?_
       intro v1 w1 hown1 hg1;obtain⟨A1,c1,rfl,_⟩:=slm_own rfl hown1;have HB1:Hi (Below w.heap.size w w1):=bG (by first | exact bA (bD HB0.o) | exact bA (bA (bD HB0.o))) hg1 (fun k hk=>by injection hk with hk;omega);have hx1:=own_other (by first | exact HX0.o.drew.alloc (o:=.cells #[] 3) | exact(HX0.o.drew.alloc (o:=.cells #[] 3)).alloc (o:=.cells #[] 80) | exact(HX0.o.drew.alloc (o:=.cells #[] 80)).alloc (o:=.cells #[] 3)) hg1 (by first | omega | (simp[hs0]<;>omega));have ho1:=own_other (by first | exact HO0.o.drew.alloc (o:=.cells #[] 3) | exact(HO0.o.drew.alloc (o:=.cells #[] 3)).alloc (o:=.cells #[] 80) | exact(HO0.o.drew.alloc (o:=.cells #[] 80)).alloc (o:=.cells #[] 3)) hg1 (by first | omega | (simp[hs0]<;>omega));have d0:=hx1.cell_ 0 (v:=.slice Ab t.bs.length cb) rfl;have d1:=hx1.cell_ 1 (v:=.slice Af t.fs.length cf) rfl;have HX1:=Hd hx1;have HO1:=Hd ho1;have HW1:=Hd hown1;have hs1:w.heap.size+3≤w1.heap.size:=Nat.le_trans (by first | omega | (simp[hs0]<;>omega)) hg1.size;have HF1:=Hd (own_other (ownAt (W:=W0.drew.alloc (.cells #[] 3)) (g:=w.heap.size+3) (t:=80) (cs:=#[]) (by simp[hs0])) hg1 (by first | omega | (simp[hs0]<;>omega)))
       clear hown1 hg1 hx1 ho1)
    | (refine step_copy intE 23 23 3 i0 _ _ Tryz.underlying23 hi0 hz0 hz1 hz2 rfl (by omega) (w.heap.size+2) rfl (.tmp 3) (.tmp 5) rfl rfl _ Ab cb t.bs rfl rfl (ownAt (W:=W0.alloc (.cells #[] 80)) (by simp[hs0])) (by first | omega | (simp[hs0]<;>omega)) w.heap.size (HBR.o.below (by first | exact bA (bD HB0.o) | exact bA (bA (bD HB0.o)))) h1 (by first | omega | (simp[hs0]<;>omega)) ?_
       intro v1 w1 hown1 hg1;obtain⟨A1,c1,rfl,_⟩:=slm_own rfl hown1;have HB1:Hi (Below w.heap.size w w1):=bG (by first | exact bA (bD HB0.o) | exact bA (bA (bD HB0.o))) hg1 (fun k hk=>by injection hk with hk;omega);have hx1:=own_other (by first | exact HX0.o.drew.alloc (o:=.cells #[] 3) | exact(HX0.o.drew.alloc (o:=.cells #[] 3)).alloc (o:=.cells #[] 80) | exact(HX0.o.drew.alloc (o:=.cells #[] 80)).alloc (o:=.cells #[] 3)) hg1 (by first | omega | (simp[hs0]<;>omega));have ho1:=own_other (by first | exact HO0.o.drew.alloc (o:=.cells #[] 3) | exact(HO0.o.drew.alloc (o:=.cells #[] 3)).alloc (o:=.cells #[] 80) | exact(HO0.o.drew.alloc (o:=.cells #[] 80)).alloc (o:=.cells #[] 3)) hg1 (by first | omega | (simp[hs0]<;>omega));have d0:=hx1.cell_ 0 (v:=.slice Ab t.bs.length cb) rfl;have d1:=hx1.cell_ 1 (v:=.slice Af t.fs.length cf) rfl;have HX1:=Hd hx1;have HO1:=Hd ho1;have HW1:=Hd hown1;have hs1:w.heap.size+3≤w1.heap.size:=Nat.le_trans (by first | omega | (simp[hs0]<;>omega)) hg1.size;have HF1:=Hd (own_other (ownAt (W:=W0.drew) (g:=w.heap.size+2) (t:=80) (cs:=#[]) (by simp[hs0])).alloc hg1 (by first | omega | (simp[hs0]<;>omega)))
       clear hown1 hg1 hx1 ho1)
    | (refine step_copy frE 24 24 80 j0 _ _ Tryz.underlying24 hj0 hy0 hy1 hy2 rfl (by omega) (w.heap.size+2) rfl (.tmp 7) (.tmp 9) rfl rfl _ Af cf t.fs rfl rfl (by first | exact HF1.o | exact Own.new_ _ _ _) (by first | omega | (simp[hs0]<;>omega)) w.heap.size (HFR.o.below (by first | exact HB1.o | exact bA HB1.o)) h2 (by first | omega | (simp[hs0]<;>omega)) ?_
       intro v2 w2 hown2 hg2;have hm2:=slm_own rfl hown2;obtain⟨A2,c2,rfl,_⟩:=slm_own rfl hown2
       have hk1:w2.ownsRow (w.heap.size+2) 3 intE.sz (.slice A1 t.bs.length c1) t.bs.length (intE.cells t.bs):=by
         first
           | exact HW1.o.kept hg2 (own_ne (e2:=80) HW1.o HF1.o (by decide))
           | exact(HW1.o.alloc (.cells #[] 80)).kept hg2 (own_ne (e2:=80) (HW1.o.alloc (.cells #[] 80)) (Own.new_ w1 80 #[]) (by decide))
       have HM1:Hi (w2.ownsRow (w.heap.size+2) 3 1 (.slice A1 t.bs.length c1) t.bs.length (intE.cells t.bs)):=hk1;have HM2:Hi (w2.ownsRow (w.heap.size+2) 80 5 (.slice A2 t.fs.length c2) t.fs.length (frE.cells t.fs)):=hown2;have HB2:Hi (Below w.heap.size w w2):=bG (by first | exact HB1.o | exact bA HB1.o) hg2 (fun k hk=>by injection hk with hk;omega);have hx2:=own_other (by first | exact HX1.o | exact HX1.o.alloc (o:=.cells #[] 80)) hg2 (by first | omega | (simp[hs0]<;>omega));have ho2:=own_other (by first | exact HO1.o | exact HO1.o.alloc (o:=.cells #[] 80)) hg2 (by first | omega | (simp[hs0]<;>omega));have f0:=hx2.cell_ 0 (v:=.slice Ab t.bs.length cb) rfl;have f1:=hx2.cell_ 1 (v:=.slice Af t.fs.length cf) rfl;have p0:=ho2.free 0;have p1:=ho2.free 1;have p2:=ho2.cell_ 0 (v:=.slice none 0 0) rfl;have p3:=ho2.cell_ 1 (v:=.slice none 0 0) rfl;have HO2:=Hd ho2
       clear hown2 hg2 hx2 ho2 hm2 hk1))
  all_goals
    go_wp2;have o3:=(HO2.o.set_ 0 (.slice A1 t.bs.length c1)).set_ 1 (.slice A2 t.fs.length c2);have t0:=o3.cell_ 0 (v:=.slice A1 t.bs.length c1) rfl;have t1:=o3.cell_ 1 (v:=.slice A2 t.fs.length c2) rfl;have hN1:=ownsRow_setCell_below (ownsRow_setCell_below HM1.o (a:=⟨w.heap.size+1,0,none⟩) (by show w.heap.size+1<w.heap.size+2;omega) (.slice A1 t.bs.length c1)) (a:=⟨w.heap.size+1,1,none⟩) (by show w.heap.size+1<w.heap.size+2;omega) (.slice A2 t.fs.length c2);have hN2:=ownsRow_setCell_below (ownsRow_setCell_below HM2.o (a:=⟨w.heap.size+1,0,none⟩) (by show w.heap.size+1<w.heap.size+2;omega) (.slice A1 t.bs.length c1)) (a:=⟨w.heap.size+1,1,none⟩) (by show w.heap.size+1<w.heap.size+2;omega) (.slice A2 t.fs.length c2);refine bodyPost_ret (v:=.agg #[.slice A1 t.bs.length c1,.slice A2 t.fs.length c2]) (by simp[results,Tryz.results157,go_sem,t0,t1]) rfl ⟨_,rfl,_,_,rfl,own_mono hN1 (by omega),own_mono hN2 (by omega),bS (bS HB2.o (by simp)) (by simp)⟩
theorem MineE.fru{e:TypeId}{B:Nat}{w:World}{g:Nat}{l:List Fr}(h:MineE frE e B w (some ⟨g,0,none⟩) l){k:Nat}{x:Fr}(hk:l[k]?=some x)(b:Bool):
  MineE frE e B (w.setCell ⟨g,k*5+0,none⟩ (.bool b)) (some ⟨g,0,none⟩) (l.set k {x with used:=b}):=by
 refine h.wcell hk {x with used:=b} 0 (.bool b) (by decide) (fun j u hj=> ?_);simp only[frE]at hj⊢
 match j,hj with
 | 0,hj=>simp at hj;exact .inl ⟨rfl,hj.symm⟩
 | 1,hj=>exact .inr ⟨by decide,hj⟩
 | 2,hj=>exact .inr ⟨by decide,hj⟩
 | 3,hj=>exact .inr ⟨by decide,hj⟩
 | 4,hj=>exact .inr ⟨by decide,hj⟩
 | j+5,hj=>simp at hj
theorem MineE.frs{e:TypeId}{B:Nat}{w:World}{g:Nat}{l:List Fr}(h:MineE frE e B w (some ⟨g,0,none⟩) l){k:Nat}{x:Fr}(hk:l[k]?=some x)(b:Int):
  MineE frE e B (w.setCell ⟨g,k*5+1,none⟩ (.int .i64 b)) (some ⟨g,0,none⟩) (l.set k {x with s:=b}):=by
 refine h.wcell hk {x with s:=b} 1 (.int .i64 b) (by decide) (fun j u hj=> ?_);simp only[frE]at hj⊢
 match j,hj with
 | 0,hj=>exact .inr ⟨by decide,hj⟩
 | 1,hj=>simp at hj;exact .inl ⟨rfl,hj.symm⟩
 | 2,hj=>exact .inr ⟨by decide,hj⟩
 | 3,hj=>exact .inr ⟨by decide,hj⟩
 | 4,hj=>exact .inr ⟨by decide,hj⟩
 | j+5,hj=>simp at hj
theorem MineE.frp{e:TypeId}{B:Nat}{w:World}{g:Nat}{l:List Fr}(h:MineE frE e B w (some ⟨g,0,none⟩) l){k:Nat}{x:Fr}(hk:l[k]?=some x)(b:Int):
  MineE frE e B (w.setCell ⟨g,k*5+2,none⟩ (.int .i64 b)) (some ⟨g,0,none⟩) (l.set k {x with p:=b}):=by
 refine h.wcell hk {x with p:=b} 2 (.int .i64 b) (by decide) (fun j u hj=> ?_);simp only[frE]at hj⊢
 match j,hj with
 | 0,hj=>exact .inr ⟨by decide,hj⟩
 | 1,hj=>exact .inr ⟨by decide,hj⟩
 | 2,hj=>simp at hj;exact .inl ⟨rfl,hj.symm⟩
 | 3,hj=>exact .inr ⟨by decide,hj⟩
 | 4,hj=>exact .inr ⟨by decide,hj⟩
 | j+5,hj=>simp at hj
theorem row_set{B:Nat}{w:World}{g i sz n:Nat}{e ty:TypeId}{v u:Value}{xs:List Value}{cs:Array Value}(h:w.ownsRow B e sz v n xs)(ho:Own w g ty cs)(hne:e≠ty):(w.setCell ⟨g,i,none⟩ u).ownsRow B e sz v n xs:=
 h.kept (row:=some g) ⟨rfl,rfl,rfl,by simp,fun k hk hn=>Below.heap_setCell w _ _ k (by rintro rfl;exact hn rfl)⟩ (own_ne h ho hne)
theorem l12Open_low(B:Nat)(A:Option Addr)(n c:Nat)(w:World)(hb:Bytes B w A n)(hB:B≤w.heap.size)(hc:n≤c)(hn:n≤1048576):
  Calls Tryz.prog 46 #[.slice A n c] w fun e w'=>e=.returned (.pointer (some ⟨w.heap.size,0,none⟩))∧Rdr B w' w.heap.size 0∧Below w.heap.size w w':=by
 by_cases h:n≤2000
 ·go_enter Tryz.func46,Tryz.ntmps46
  go_wp2;go_ret;exact⟨rfl,⟨A,n,c,Own.new_ _ _ _,hb.keep fun q hq=>(bA bR).cell (by omega),h,hB⟩,bA bR⟩
 ·obtain⟨i0,hi0,hz0,hz1,hz2⟩:=info_parts byte_info;have hs:=fun W=>slice_hi (P:=Tryz.prog) W 22 5 i0 1 A n c Tryz.underlying22 hi0 2000 (by omega) (by omega)
  rw[cutA_zero]at hs
  go_enter Tryz.func46,Tryz.ntmps46
  go_wp2;go_ret;exact⟨rfl,⟨A,2000,c,Own.new_ _ _ _,⟨fun j hj=>(hb.keep fun q hq=>(bA bR).cell (by omega)).at_ j (by omega)⟩,Nat.le_refl _,hB⟩,bA bR⟩
abbrev intR(v v':World):Prop:=∀(b:Nat) (cs:Array Value),Own v b 3 cs→Own v' b 3 cs
structure KI where
 rd:List Nat
 P:(Nat→Value)→World→Prop
 loc:∀x y v,(∀s∈rd,x s=y s)→P x v→P y v
 keep:∀x v v',P x v→intR v v'→P x v'
def KI.eq(s:Nat)(u0:Value):KI where
 rd:=[s]
 P:=fun x _=>x s=u0
 loc:=fun x y _ h hp=>by rw[←h s (by simp)];exact hp
 keep:=fun _ _ _ h _=>h
def KI.sat(s:Nat)(q:Value→Prop):KI where
 rd:=[s]
 P:=fun x _=>q (x s)
 loc:=fun x y _ h hp=>by rw[←h s (by simp)];exact hp
 keep:=fun _ _ _ h _=>h
def KI.lit(s:Nat)(cs:Array Value)(n:Nat):KI where
 rd:=[s]
 P:=fun x v=>∃gg:Nat,x s=.slice (some ⟨gg,0,none⟩) n n∧Own v gg 3 cs
 loc:=fun x y _ h hp=>by rw[←h s (by simp)];exact hp
 keep:=fun _ _ _ ⟨gg,h1,h2⟩ ho=>⟨gg,h1,ho _ _ h2⟩
def KI.no:KI where
 rd:=[]
 P:=fun _ _=>True
 loc:=fun _ _ _ _ _=>trivial
 keep:=fun _ _ _ _ _=>trivial
structure PS(w0:World)(g mb:Nat)(vb vf vl vo:Value)(m:Ma)(vs:Value)(fs:List Int)(q:Nat)(v:World):Prop where
 rd:Rdr w0.heap.size v g q
 bl:Below w0.heap.size w0 v
 mm:MaM w0.heap.size v vb vf vl vo m
 fr:SlM intE 3 w0.heap.size v vs fs
 ob:Own v mb 34 #[vb,vf,vl,.int .i64 m.c.hand,.int .i64 m.g.count,.int .i64 m.g.next,.int .i64 m.g.round,vo,.int .i64 m.sp]
section
variable {w0 v v' : World} {g mb q : Nat} {vb vf vl vo vs : Value} {m : Ma} {fs : List Int}
theorem PS.hg(h:PS w0 g mb vb vf vl vo m vs fs q v):w0.heap.size≤g:=by
 obtain⟨_,_,_,_,_,_,h⟩:=h.rd.ok;exact h
theorem PS.below(h:PS w0 g mb vb vf vl vo m vs fs q v)(hb:Below v.heap.size v v'):PS w0 g mb vb vf vl vo m vs fs q v':=
 ⟨rdr_below h.rd hb,bT h.bl hb,h.mm.now hb,h.fr.now hb,h.ob.below hb⟩
theorem PS.oth(h:PS w0 g mb vb vf vl vo m vs fs q v)(hg:v.grownBy v' (some g)):othR v v':=by
 obtain⟨A,n,c,ho,_⟩:=h.rd.ok;exact oth_gr hg ho
theorem PS.read(h:PS w0 g mb vb vf vl vo m vs fs q v){q':Nat}(hr:Rdr w0.heap.size v' g q')(hg:v.grownBy v' (some g)):PS w0 g mb vb vf vl vo m vs fs q' v':=
 ⟨hr,bG h.bl hg (by intro k hk;injection hk with hk;have:=h.hg;omega),h.mm.gr h.rd hg,h.fr.oth (h.oth hg) (by decide),(h.oth hg).2 _ _ _ h.ob (by decide)⟩
theorem PS.set1(h:PS w0 g mb vb vf vl vo m vs fs q v){b i:Nat}{u:Value}{t:TypeId}{cs:Array Value}(ho:Own v b t cs)(hb:w0.heap.size≤b)(hgb:g≠b)(hmb:mb≠b)(n1:¬3=t)(n2:¬80=t)(n3:¬50=t)(n4:¬186=t):
  PS w0 g mb vb vf vl vo m vs fs q (v.setCell ⟨b,i,none⟩ u):=
 ⟨rdr_far h.rd hgb hb,bS h.bl hb,h.mm.oth (stS_set (n:=0) ho).1 n1 n2 n3 n4,h.fr.oth (stS_set (n:=0) ho).1 n1,h.ob.far hmb⟩
end
def PC(w0:World)(g mb nb kb si:Nat)(l:List Nat)(vb vf vl vo:Value)(m:Ma)(vs:Value)(fs:List Int)(q:Nat)(D:Nat→Bool)(v:World):Prop:=
 PS w0 g mb vb vf vl vo m vs fs (q+cn D l) v∧Own v nb 34 (if D si=true then #[vb,vf,vl,.int .i64 m.c.hand,.int .i64 m.g.count,.int .i64 m.g.next,.int .i64 m.g.round,vo,.int .i64 m.sp]else #[.slice none 0 0,.slice none 0 0,.slice none 0 0,.int .i64 0,.int .i64 0,.int .i64 0,.int .i64 0,.slice none 0 0,.int .i64 0])∧∃a b:Int,Own v kb 54 #[.int .i64 a,.int .i64 b]∧small b
section
variable {w0 v v' : World} {g mb nb kb si i q : Nat} {l : List Nat} {vb vf vl vo vs : Value} {m : Ma} {fs : List Int} {D : Nat → Bool}
theorem PC.same(h:PC w0 g mb nb kb si l vb vf vl vo m vs fs q D v)(hi:i∉l)(hs:si≠i):PC w0 g mb nb kb si l vb vf vl vo m vs fs q (fun j=>if j=i then true else D j) v:=by
 unfold PC;rw[cn_same hi];simp only[if_neg hs];exact h
theorem PC.below(h:PC w0 g mb nb kb si l vb vf vl vo m vs fs q D v)(hb:Below v.heap.size v v')(hi:i∉l)(hs:si≠i):PC w0 g mb nb kb si l vb vf vl vo m vs fs q (fun j=>if j=i then true else D j) v':=by
 obtain⟨h1,h2,a,b,h3,h4⟩:=h;unfold PC;rw[cn_same hi];simp only[if_neg hs];exact⟨h1.below hb,h2.below hb,a,b,h3.below hb,h4⟩
theorem PC.read(h:PC w0 g mb nb kb si l vb vf vl vo m vs fs q D v)(hD:D i=false)(hi:i∈l)(hn:l.Nodup)(hs:si≠i)(hr:Rdr w0.heap.size v' g (q+cn D l+1))(hg:v.grownBy v' (some g)):PC w0 g mb nb kb si l vb vf vl vo m vs fs q (fun j=>if j=i then true else D j) v':=by
 obtain⟨h1,h2,a,b,h3,h4⟩:=h;have ho:=h1.oth hg;unfold PC;rw[cn_more hD hi hn,←Nat.add_assoc];simp only[if_neg hs];exact⟨h1.read hr hg,ho.2 _ _ _ h2 (by decide),a,b,ho.2 _ _ _ h3 (by decide),h4⟩
theorem PC.store(h:PC w0 g mb nb kb si l vb vf vl vo m vs fs q D v)(hD:D si=false)(hi:si∉l)(hb:w0.heap.size≤nb)(hgb:g≠nb)(hmb:mb≠nb)(hkb:kb≠nb):
  PC w0 g mb nb kb si l vb vf vl vo m vs fs q (fun j=>if j=si then true else D j) (((((((((v.setCell ⟨nb,0,none⟩ vb).setCell ⟨nb,1,none⟩ vf).setCell ⟨nb,2,none⟩ vl).setCell ⟨nb,3,none⟩ (.int .i64 m.c.hand)).setCell ⟨nb,4,none⟩ (.int .i64 m.g.count)).setCell ⟨nb,5,none⟩ (.int .i64 m.g.next)).setCell ⟨nb,6,none⟩ (.int .i64 m.g.round)).setCell ⟨nb,7,none⟩ vo).setCell ⟨nb,8,none⟩ (.int .i64 m.sp)):=by
 obtain⟨h1,h2,a,b,h3,h4⟩:=h;unfold PC;rw[cn_same hi];simp only[hD,Bool.false_eq_true,if_false]at h2;simp only[if_true];have o1:=h2.set_ 0 vb;have o2:=o1.set_ 1 vf;have o3:=o2.set_ 2 vl;have o4:=o3.set_ 3 (.int .i64 m.c.hand);have o5:=o4.set_ 4 (.int .i64 m.g.count);have o6:=o5.set_ 5 (.int .i64 m.g.next);have o7:=o6.set_ 6 (.int .i64 m.g.round);have o8:=o7.set_ 7 vo;refine⟨?_,h2.set9 _ _ _ _ _ _ _ _ _,a,b, ?_,h4⟩
 ·exact((((((((h1.set1 h2 hb hgb hmb (by decide) (by decide) (by decide) (by decide)).set1 o1 hb hgb hmb (by decide) (by decide) (by decide) (by decide)).set1 o2 hb hgb hmb (by decide) (by decide) (by decide) (by decide)).set1 o3 hb hgb hmb (by decide) (by decide) (by decide) (by decide)).set1 o4 hb hgb hmb (by decide) (by decide) (by decide) (by decide)).set1 o5 hb hgb hmb (by decide) (by decide) (by decide) (by decide)).set1 o6 hb hgb hmb (by decide) (by decide) (by decide) (by decide)).set1 o7 hb hgb hmb (by decide) (by decide) (by decide) (by decide)).set1 o8 hb hgb hmb (by decide) (by decide) (by decide) (by decide)
 ·repeat (refine Own.far ?_ (by exact hkb))
  exact h3
theorem PC.key(h:PC w0 g mb nb kb si l vb vf vl vo m vs fs q D v)(hi:i∉l)(hs:si≠i)(hb:w0.heap.size≤kb)(hgb:g≠kb)(hmb:mb≠kb)(hkb:nb≠kb)(a b:Int)(hs2:small b):
  PC w0 g mb nb kb si l vb vf vl vo m vs fs q (fun j=>if j=i then true else D j) ((v.setCell ⟨kb,0,none⟩ (.int .i64 a)).setCell ⟨kb,1,none⟩ (.int .i64 b)):=by
 obtain⟨h1,h2,a0,b0,h3,h4⟩:=h;unfold PC;rw[cn_same hi];simp only[if_neg hs];have o1:=h3.set_ 0 (.int .i64 a);exact⟨(h1.set1 h3 hb hgb hmb (by decide) (by decide) (by decide) (by decide)).set1 o1 hb hgb hmb (by decide) (by decide) (by decide) (by decide),(h2.far hkb).far hkb,a,b,by simpa using o1.set_ 1 (.int .i64 b),hs2⟩
end
def dn(D:Nat→Bool)(i:Nat):Nat→Bool:=fun j=>if j=i then true else D j
theorem dn_self(D:Nat→Bool)(i:Nat):dn D i i=true:=by unfold dn;rw[if_pos rfl]
theorem dn_ne{D:Nat→Bool}{i j:Nat}(h:j≠i):dn D i j=D j:=by unfold dn;rw[if_neg h]
theorem wp_region_rel4 {P:Program} {ops:Array Oper} {Q:Exit→Act→World→Prop} {id:Nat} {a:Act} {w:World} (hm:P.follows .mixedOrders=true) (ds:List Nat) (rds:List (List Nat)) (C:(Nat→Bool)→World→Prop)
    (R:Nat→(Nat→Bool)→(Nat→Value)→World→Prop) (T:Nat→World→World→Prop) (hB:relB .any ops ds rds=true) (hC:C (fun _=>false) w.drew)
    (hR:∀j D x y v,(∀s∈rds.getD j [],x s=y s)→R j D x v→R j D y v)
    (hT:∀i j D x v v',i≠j→D i=false→R j D x v→T i v v'→R j (dn D i) x v')
    (step:∀i o,ops[i]?=some o→∀D x v,D i=false→C D v→(∀k,(∃e∈o.after,Region.binds .any e=true∧e.on=k)→R k D x v)→∀K:Act→World→Prop,
      (∀u v',T i v v'→C (dn D i) v'→R i (dn D i) (upd x o.dst u) v'→K ((fillA ds x a).put o.dst u) v')→o.wp P (fillA ds x a) v K Q)
    (fin:∀D x v,(∀i,i<ops.size→D i=true)→C D v→(∀i,i<ops.size→R i D x v)→Q .normal (fillA ds x a) v):(Code.region id ops true).wp P Q a w:=by
  refine wp_region_any hm ?_
  refine wpAny_inv (fun L a' v=>∃x,a'=fillA ds x a∧C (fun j=>L.getD j false) v∧L.size=ops.size∧(∀j,L.getD j false=true→R j (fun j=>L.getD j false) x v)∧
    ∀j o,ops[j]?=some o→L.getD j false=true→∀e∈o.after,Region.binds .any e=true→L.getD e.on false=true) ?_ ?_ _ _ _ _ (left_le _ _) ?_
  · rintro L a' v ⟨x,rfl,hCv,hsz,hL,hcl⟩ i hi
    obtain⟨h0,o,ho,hdep⟩:=mem_ready.1 hi;obtain⟨b1,b2,b3,b4⟩:=relB_at hB ho;have hisz:=(Array.getElem?_eq_some_iff.1 ho).1;have h0':L.getD i false=false:=by rw[←getD_both_ (by omega)];exact h0
    unfold wpOp;rw[ho];simp only[Region.wanted,b1,if_true]
    have e0:(fun j=>(L.setIfInBounds i true).getD j false)=dn (fun j=>L.getD j false) i:=funext fun j=>by
      unfold dn;by_cases hij:j=i
      · subst hij;simp[hsz,hisz]
      · rw[if_neg hij,getD_set_ne false (fun h=>hij h.symm)]
    refine .inl (step i o ho _ x v h0' hCv (fun k ⟨e,he,hb,hk⟩=>hk▸hL _ (hdep e he hb)) _ (fun u v' hTv hCv' hRi=> ?_));refine⟨upd x o.dst u,fill_put b2, ?_,by simpa using hsz,fun j hj=> ?_,fun j oj hoj hj e he hb=> ?_⟩
    · show C (fun j=>(L.setIfInBounds i true).getD j false) v'
      rw[e0];exact hCv'
    · rw [e0]
      by_cases hij:i=j
      · subst hij;exact hRi
      · rw[getD_set_ne false hij]at hj
        have hj2:j<ops.size:=by
          rcases Nat.lt_or_ge j L.size with h | h
          · omega
          · simp[Array.getElem?_eq_none h]at hj
        obtain⟨oj,hoj⟩:∃oj,ops[j]?=some oj:=⟨_,Array.getElem?_eq_getElem hj2⟩
        refine hR j _ x _ v' (fun s hs=> ?_) (hT i j _ x v v' hij h0' (hL j hj) hTv);by_cases hd:o.dst=some s
        · obtain⟨e,he,hb,hon⟩:=(relB_at hB hoj).2.2.2 i o s ho hij hd hs
          have h1:=hcl j oj hoj hj e he hb;rw[hon,←getD_both_ (by omega),h0]at h1;cases h1
        · unfold upd;rw[if_neg (fun h=>hd h.symm)]
    · by_cases hij:i=j
      · subst hij
        rw[ho]at hoj;injection hoj with hoj;subst hoj;exact getD_set_true (hdep e he hb)
      · rw[getD_set_ne false hij]at hj
        exact getD_set_true (hcl j oj hoj hj e he hb)
  · rintro L a' v ⟨x,rfl,hCv,hsz,hL,hcl⟩ hr
    have hall:∀n j,j<n→j<ops.size→L.getD j false=true:=by
      intro n
      induction n with
      | zero=>intro j h;exact absurd h (by omega)
      | succ n ih=>
        intro j hj hjs
        obtain⟨oj,hoj⟩:∃oj,ops[j]?=some oj:=⟨_,Array.getElem?_eq_getElem hjs⟩
        by_cases hd:L.getD j true=true
        · rw[←getD_both_ (by omega)];exact hd
        · have hmem:j∈Region.ready .any ops L:=mem_ready.2 ⟨by simpa using hd,oj,hoj,fun e he hb=>by
            have h1:=(relB_at hB hoj).2.2.1 e he hb
            exact ih e.on (by omega) (by omega)⟩
          rw[hr]at hmem;cases hmem
    exact fin _ x v (fun i hi=>hall (i+1) i (by omega) hi) hCv (fun i hi=>hL i (hall (i+1) i (by omega) hi))
  · refine⟨fun s=>a.tmps.getD s undef,(fill_self ds a).symm, ?_,by simp,fun j hj=> ?_,fun j o ho hj=> ?_⟩
    · refine Eq.mp (congrArg (fun d=>C d w.drew) ?_) hC
      funext j
      rcases Nat.lt_or_ge j ops.size with h | h
      · simp[h]
      · simp[h]
    all_goals
      exfalso;rcases Nat.lt_or_ge j ops.size with h | h
      · simp[h]at hj
      · simp[h]at hj
structure GT(q:TypeId→Prop)(B:Nat)(sb:Option Nat)(n:Nat)(v v':World):Prop where
 oth:Oth q v v'
 own:∀(b:Nat) (t:TypeId) (cs:Array Value),Own v b t cs→t≠139→some b≠sb→Own v' b t cs
 bel:Below B v v'
 rd:∀g p,Rdr B v g p→∃p',p'≤p+1000*n∧Rdr B v' g p'
section
variable {q : TypeId → Prop} {B n : Nat} {sb : Option Nat} {v v' v'' : World}
theorem GT.same:GT q B sb n v v:=⟨⟨Nat.le_refl _,fun _ _ _ h _=>h⟩,fun _ _ _ h _ _=>h,Below.refl _ _,fun g p h=>⟨p,by omega,h⟩⟩
theorem GT.below(hb:Below v.heap.size v v')(hB:B≤v.heap.size):GT q B sb n v v':=
 ⟨Oth.of_below hb,fun _ _ _ h _ _=>h.below hb,hb.mono hB,fun g p h=>⟨p,by omega,rdr_below h hb⟩⟩
theorem rdr_pos{w:World}{g p p':Nat}(h:Rdr B w g p)(h':Rdr B w g p'):p=p':=by
 obtain⟨A,m,c,ho,_⟩:=h.ok;obtain⟨A',m',c',ho',_⟩:=h'.ok;unfold Own at ho ho';rw[ho]at ho';simp at ho';omega
theorem GT.read{g p p':Nat}(hq:q 139)(hr:Rdr B v g p)(hr':Rdr B v' g p')(hp:p'≤p+1000)(hg:v.grownBy v' (some g)):GT q B sb 1 v v':=by
 obtain⟨A,m,c,ho,_,_,hBg⟩:=hr.ok;have hot:=oth_gr hg ho;refine⟨⟨hot.1,fun b t cs h hn=>hot.2 b t cs h (fun e=>hn (by rw[e];exact hq))⟩,fun b t cs h ht _=>hot.2 b t cs h ht, ?_,fun g2 p2 h2=> ?_⟩
 ·exact⟨hg.os,hg.tape,hg.output,hg.size,fun k hk=>hg.block k (by have:=ho.lt;omega) (by intro e;injection e with e;omega)⟩
 ·by_cases he:g2=g
  ·subst he;have:=rdr_pos hr h2;subst this;exact⟨_,by omega,hr'⟩
  ·exact⟨p2,by omega,rdr_row h2 hg (by intro e;injection e with e;exact he e) (by intro k e;injection e with e;omega)⟩
theorem GT.set{b i:Nat}{t:TypeId}{cs:Array Value}{u:Value}(ho:Own v b t cs)(hq:q t)(ht:t≠139)(hB:B≤b):GT q B (some b) 0 v (v.setCell ⟨b,i,none⟩ u):=by
 have hty:∀(t2:TypeId) (cs2:Array Value),Own v b t2 cs2→t2=t:=by
  intro t2 cs2 h;unfold Own at h ho;rw[h]at ho;simp at ho;exact ho.2
 refine⟨⟨by simp,fun b2 t2 cs2 h hn=>h.far (p:=⟨b,i,none⟩) (fun e=> ?_)⟩,fun b2 t2 cs2 h _ hne=>h.far (p:=⟨b,i,none⟩) (fun e=>hne (by rw[e])),(Below.refl B v).setCell hB u,fun g p h=>⟨p,by omega,rdr_far h (fun e=> ?_) hB⟩⟩
 ·have e:b2=b:=e;subst e;exact hn (by rw[hty _ _ h];exact hq)
 ·subst e;obtain⟨A,m,c,h2,_⟩:=h.ok;exact(h2.ne ho (fun e=>ht e.symm)) rfl
theorem GT.trans(h:GT q B sb 0 v v')(k:GT q B sb 0 v' v''):GT q B sb 0 v v'':=
 ⟨⟨Nat.le_trans h.oth.1 k.oth.1,fun b t cs o hn=>k.oth.2 b t cs (h.oth.2 b t cs o hn) hn⟩,fun b t cs o ht hs=>k.own b t cs (h.own b t cs o ht hs) ht hs,h.bel.trans k.bel,fun g p o=>by
  obtain⟨p1,e1,o1⟩:=h.rd g p o;obtain⟨p2,e2,o2⟩:=k.rd g p1 o1
  exact⟨p2,by omega,o2⟩⟩
theorem GT.set9{b:Nat}{t:TypeId}{cs:Array Value}(ho:Own v b t cs)(hq:q t)(ht:t≠139)(hB:B≤b)(u0 u1 u2 u3 u4 u5 u6 u7 u8:Value):
  GT q B (some b) 0 v (((((((((v.setCell ⟨b,0,none⟩ u0).setCell ⟨b,1,none⟩ u1).setCell ⟨b,2,none⟩ u2).setCell ⟨b,3,none⟩ u3).setCell ⟨b,4,none⟩ u4).setCell ⟨b,5,none⟩ u5).setCell ⟨b,6,none⟩ u6).setCell ⟨b,7,none⟩ u7).setCell ⟨b,8,none⟩ u8):=by
 have o1:=ho.set_ 0 u0;have o2:=o1.set_ 1 u1;have o3:=o2.set_ 2 u2;have o4:=o3.set_ 3 u3;have o5:=o4.set_ 4 u4;have o6:=o5.set_ 5 u5;have o7:=o6.set_ 6 u6;have o8:=o7.set_ 7 u7;exact((((((((GT.set ho hq ht hB).trans (GT.set o1 hq ht hB)).trans (GT.set o2 hq ht hB)).trans (GT.set o3 hq ht hB)).trans (GT.set o4 hq ht hB)).trans (GT.set o5 hq ht hB)).trans (GT.set o6 hq ht hB)).trans (GT.set o7 hq ht hB)).trans (GT.set o8 hq ht hB)
end
structure SBx where
 op:Nat
 box:Nat
 ty:TypeId
 old:Array Value
 new:Array Value→World→Prop
def sbo:List SBx→Nat→Option Nat
 | [],_=>none
 | e::S,i=>if e.op=i then some e.box else sbo S i
theorem sbo_some{S:List SBx}{i b:Nat}(h:sbo S i=some b):∃e∈S,e.op=i∧e.box=b:=by
 induction S with
 | nil=>cases h
 | cons e S ih=>
  unfold sbo at h;split at h
  ·injection h with h;exact⟨e,by simp,‹_›,h⟩
  ·obtain⟨e2,h1,h2⟩:=ih h;exact⟨e2,by simp[h1],h2⟩
theorem sbo_none{S:List SBx}{i:Nat}(h:sbo S i=none):∀e∈S,e.op≠i:=by
 induction S with
 | nil=>intro e he;cases he
 | cons e S ih=>
  unfold sbo at h;split at h
  ·cases h
  ·intro e2 he;rcases List.mem_cons.1 he with h2 | h2
   ·rw[h2];assumption
   ·exact ih h e2 h2
def nn(nums:List Nat)(i:Nat):Nat:=if i∈nums then 1 else 0
theorem cn_dn{nums:List Nat}{D:Nat→Bool}{i:Nat}(hn:nums.Nodup)(hD:D i=false):cn (dn D i) nums=cn D nums+nn nums i:=by
 unfold nn dn;split
 ·exact cn_more hD ‹_› hn
 ·exact cn_same ‹_›
structure GStat(q:TypeId→Prop)(nums:List Nat)(F:List (Nat×TypeId×Array Value))(M:World→Prop)(S:List SBx):Prop where
 nd:nums.Nodup
 hF:∀e∈F,e.2.1≠139∧∀s∈S,s.box≠e.1
 hM:∀v v',Oth q v v'→M v→M v'
 hS:∀e∈S,e.ty≠139∧(∀s∈S,s.box=e.box→s.op=e.op)∧(∀s∈S,s.op=e.op→s=e)∧(∀cs v v',Oth q v v'→e.new cs v→e.new cs v')
structure GC(B:Nat)(w0:World)(rs:List (Nat×Nat))(nums:List Nat)(F:List (Nat×TypeId×Array Value))(M:World→Prop)(S:List SBx)(D:Nat→Bool)(v:World):Prop where
 bl:Below B w0 v
 rd:∀e∈rs,∃p,p≤e.2+1000*cn D nums∧Rdr B v e.1 p
 ob:∀e∈F,Own v e.1 e.2.1 e.2.2
 mm:M v
 st:∀e∈S,∃cs,Own v e.box e.ty cs∧(D e.op=false→cs=e.old)∧(D e.op=true→e.new cs v)
abbrev gtt(q:TypeId→Prop)(B:Nat)(nums:List Nat)(S:List SBx)(i:Nat)(v v':World):Prop:=GT q B (sbo S i) (nn nums i) v v'
section
variable {q : TypeId → Prop} {B i : Nat} {w0 v v' : World} {rs : List (Nat × Nat)} {nums : List Nat} {F : List (Nat × TypeId × Array Value)} {M : World → Prop} {S : List SBx} {D : Nat → Bool}
theorem GC.step(h:GC B w0 rs nums F M S D v)(hs:GStat q nums F M S)(hD:D i=false)(ht:gtt q B nums S i v v')(hi0:sbo S i=none):GC B w0 rs nums F M S (dn D i) v':=by
 have hi:=sbo_none hi0;refine⟨h.bl.trans ht.bel,fun e he=> ?_,fun e he=> ?_,hs.hM _ _ ht.oth h.mm,fun e he=> ?_⟩
 ·obtain⟨p,h1,h2⟩:=h.rd e he;obtain⟨p',h3,h4⟩:=ht.rd _ _ h2;exact⟨p',by rw[cn_dn hs.nd hD];omega,h4⟩
 ·refine ht.own _ _ _ (h.ob e he) (hs.hF e he).1 fun e1=> ?_
  obtain⟨s,h1,h2,h3⟩:=sbo_some e1.symm;exact(hs.hF e he).2 s h1 h3
 ·obtain⟨cs,h1,h2,h3⟩:=h.st e he;obtain⟨k1,k2,k3,k4⟩:=hs.hS e he;refine⟨cs,ht.own _ _ _ h1 k1 fun e1=> ?_,fun hd=>h2 (by rwa [dn_ne (hi e he)]at hd),fun hd=>k4 _ _ _ ht.oth (h3 (by rwa [dn_ne (hi e he)]at hd))⟩;obtain⟨s,m1,m2,m3⟩:=sbo_some e1.symm;exact hi s m1 m2
theorem GC.store{e0:SBx}{cs0:Array Value}(h:GC B w0 rs nums F M S D v)(hs:GStat q nums F M S)(hD:D i=false)(ht:gtt q B nums S i v v')(hm:e0∈S)(hi:e0.op=i)(ho:Own v' e0.box e0.ty cs0)(hn:e0.new cs0 v'):GC B w0 rs nums F M S (dn D i) v':=by
 refine⟨h.bl.trans ht.bel,fun e he=> ?_,fun e he=> ?_,hs.hM _ _ ht.oth h.mm,fun e he=> ?_⟩
 ·obtain⟨p,h1,h2⟩:=h.rd e he;obtain⟨p',h3,h4⟩:=ht.rd _ _ h2;exact⟨p',by rw[cn_dn hs.nd hD];omega,h4⟩
 ·refine ht.own _ _ _ (h.ob e he) (hs.hF e he).1 fun e1=> ?_
  obtain⟨s,h1,h2,h3⟩:=sbo_some e1.symm;exact(hs.hF e he).2 s h1 h3
 ·obtain⟨cs,h1,h2,h3⟩:=h.st e he;obtain⟨k1,k2,k3,k4⟩:=hs.hS e he;by_cases hei:e.op=i
  ·obtain rfl:=k3 e0 hm (by rw[hi,hei]);exact⟨cs0,ho,(fun hd=>by rw[hei,dn_self]at hd;cases hd),fun _=>hn⟩
  ·refine⟨cs,ht.own _ _ _ h1 k1 fun e1=> ?_,fun hd=>h2 (by rwa [dn_ne hei]at hd),fun hd=>k4 _ _ _ ht.oth (h3 (by rwa [dn_ne hei]at hd))⟩;obtain⟨s,m1,m2,m3⟩:=sbo_some e1.symm;exact hei ((k2 s m1 m3).symm.trans m2)
end
structure KG(q:TypeId→Prop)(B:Nat)(nums:List Nat)(S:List SBx) where
 rd:List Nat
 P:(Nat→Bool)→(Nat→Value)→World→Prop
 loc:∀D x y v,(∀s∈rd,x s=y s)→P D x v→P D y v
 keep:∀i D x v v',D i=false→P D x v→gtt q B nums S i v v'→P (dn D i) x v'
section
variable {q : TypeId → Prop} {B : Nat} {nums : List Nat} {S : List SBx}
def KG.eq(s:Nat)(u0:Value):KG q B nums S where
 rd:=[s]
 P:=fun _ x _=>x s=u0
 loc:=fun _ x y _ h hp=>by rw[←h s (by simp)];exact hp
 keep:=fun _ _ _ _ _ _ h _=>h
def KG.sat(s:Nat)(f:Value→Prop):KG q B nums S where
 rd:=[s]
 P:=fun _ x _=>f (x s)
 loc:=fun _ x y _ h hp=>by rw[←h s (by simp)];exact hp
 keep:=fun _ _ _ _ _ _ h _=>h
def KG.no:KG q B nums S where
 rd:=[]
 P:=fun _ _ _=>True
 loc:=fun _ _ _ _ _ _=>trivial
 keep:=fun _ _ _ _ _ _ _ _=>trivial
def KG.lit(hq:¬q 3)(s:Nat)(cs:Array Value)(n:Nat):KG q B nums S where
 rd:=[s]
 P:=fun _ x v=>∃gg:Nat,x s=.slice (some ⟨gg,0,none⟩) n n∧Own v gg 3 cs
 loc:=fun _ x y _ h hp=>by rw[←h s (by simp)];exact hp
 keep:=fun _ _ _ _ _ _ ⟨gg,h1,h2⟩ ht=>⟨gg,h1,ht.oth.2 _ _ _ h2 hq⟩
def KG.rdr(hn:nums.Nodup)(s:Nat):KG q B nums S where
 rd:=[s]
 P:=fun D x v=>∃gr p:Nat,x s=.pointer (some ⟨gr,0,none⟩)∧p≤1000*cn D nums∧Rdr B v gr p
 loc:=fun _ x y _ h hp=>by rw[←h s (by simp)];exact hp
 keep:=fun i D _ _ _ hD ⟨gr,p,h1,h2,h3⟩ ht=>by
  obtain⟨p',h4,h5⟩:=ht.rd _ _ h3;exact⟨gr,p',h1,by rw[cn_dn hn hD];omega,h5⟩
def KG.val(s:Nat)(f:Value→World→Prop)(hf:∀u v v',Oth q v v'→f u v→f u v'):KG q B nums S where
 rd:=[s]
 P:=fun _ x v=>f (x s) v
 loc:=fun _ x y _ h hp=>by rw[←h s (by simp)];exact hp
 keep:=fun _ _ _ _ _ _ h ht=>hf _ _ _ ht.oth h
end
theorem cloneBool_any(v:Value)(l:List _)(w:World)(h:SlR boE w v l)(hl:l.length≤1048576):
  Calls Tryz.prog 79 #[v] w (Post2 fun v' w'=>SlM boE 4 w.heap.size w' v' l∧Below w.heap.size w w'):=by
 obtain⟨A,c,rfl,hlc,hcm,hR⟩:=h;obtain⟨i0,hi0,hz0,hz1,hz2⟩:=info_parts bo_info;have hnil:=eql_snil Tryz.underlying35
 cases A with
 | none=>
  have h0:l=[]:=by
   rcases Nat.eq_zero_or_pos l.length with h | h
   ·exact List.length_eq_zero_iff.1 h
   ·obtain⟨b,o,e,_⟩:=hR.at_ h;cases e
  subst h0
  go_enter Tryz.func79,Tryz.ntmps79
  go_wp2;go_ret;exact⟨_,rfl,SlM.nil_ _,bR⟩
 | some ad=>
  have hO:=owns_lit (base:=w.heap.size) (e:=4) w boE.sz (Nat.le_refl _);have hR2:=hR.alloc (.cells #[] 4);obtain⟨v',w',hrun,hown,hg,_⟩:=run_copy boE 35 35 4 i0 _ _ Tryz.underlying35 hi0 hz0 hz1 hz2 rfl (by omega) w.heap.size _ _ hO _ _ c l hR2 hl (by simp);have HM:=Hd (slm_own rfl hown);have HB:Hi (Below w.heap.size w w'):=bG (bA bR) hg (fun k hk=>own_block hO k hk);clear hO hR2 hown hg
  go_enter Tryz.func79,Tryz.ntmps79
  go_wp2_with (at_builtin;refine wpList_append_run _ rfl (.tmp 5) (.tmp 6) 35 rfl _ _ _ _ rfl rfl hrun ?_)
  go_ret;exact⟨_,rfl,HM.o,HB.o⟩
theorem clipBool_any(A:Option Addr)(n c:Nat)(w:World)(hn:n≤c):Calls Tryz.prog 78 #[.slice A n c] w fun r w'=>r=.returned (.slice A n n)∧w=w':=by
 obtain⟨i0,hi0,_⟩:=info_parts bo_info;have hs:=fun W=>slice_max (P:=Tryz.prog) W 35 4 i0 A n c Tryz.underlying35 hi0 hn
 go_enter Tryz.func78,Tryz.ntmps78
 go_wp2;go_ret;exact⟨rfl,rfl⟩
theorem Mclone_any(vb vf vl vo vk:Value)(M:Me)(w:World)(hM:MeR w vb vf vl vo vk M)(h1:M.m.t.bs.length≤1048576)(h2:M.m.t.fs.length≤1048576)(h3:M.m.c.ls.length≤1048576)(h4:M.m.g.os.length≤1048576)(h5:M.mk.length≤1048576):
  Calls Tryz.prog 39 #[.agg #[vb,vf,vl,.int .i64 M.m.c.hand,.int .i64 M.m.g.count,.int .i64 M.m.g.next,.int .i64 M.m.g.round,vo,.int .i64 M.m.sp,vk,.int .i64 M.h]] w (Post2 fun v w'=>∃v1 v2 v3 v4 v5,v=.agg #[v1,v2,v3,.int .i64 M.m.c.hand,.int .i64 M.m.g.count,.int .i64 M.m.g.next,.int .i64 M.m.g.round,v4,.int .i64 M.m.sp,v5,.int .i64 M.h]∧MeM w.heap.size w' v1 v2 v3 v4 v5 M∧Below w.heap.size w w'):=by
 obtain⟨W0,hW,hbx,hbo,hb0,hs0⟩:=box2 w #[vb,vf,vl,.int .i64 M.m.c.hand,.int .i64 M.m.g.count,.int .i64 M.m.g.next,.int .i64 M.m.g.round,vo,.int .i64 M.m.sp,vk,.int .i64 M.h] 37 #[.slice none 0 0,.slice none 0 0,.slice none 0 0,.int .i64 0,.int .i64 0,.int .i64 0,.int .i64 0,.slice none 0 0,.int .i64 0,.slice none 0 0,.int .i64 0] 37;have HX0:=Hd hbx;have HO0:=Hd hbo;have HB0:=Hd hb0;have HM:=Hd hM;clear hbx hbo hb0 hM;obtain⟨q0a,q1a,q2a,q3a,q4a,q5a,q6a,q7a,q8a,q9a,q10a⟩:=c11 HX0.o
 go_enter Tryz.func39,Tryz.ntmps39
 go_wp2_with fail
 refine(mclone_any vb vf vl vo M.m _ (HM.o.m.now HB0.o) h1 h2 h3 h4).mono ?_;rintro e w1 ⟨_,rfl,q1,q2,q3,q4,rfl,hM1,hb1⟩;obtain⟨A1,c1,rfl,_⟩:=hM1.t.b;obtain⟨A2,c2,rfl,_⟩:=hM1.t.f;obtain⟨A3,c3,rfl,_⟩:=hM1.l;obtain⟨A4,c4,rfl,_⟩:=hM1.o;have HB1:=Hd (bT HB0.o hb1);have HX1:=Hd (HX0.o.below hb1);have HO1:=Hd (HO0.o.below hb1);have hs1:w.heap.size+2≤w1.heap.size:=Nat.le_trans (Nat.le_of_eq hs0.symm) hb1.size;have HM1:=Hd (hM1.mono (B':=w.heap.size+2) (Nat.le_of_eq hs0.symm));clear q0a q1a q2a q3a q4a q5a q6a q7a q8a q9a q10a;clear hM1 hb1;obtain⟨q0b,q1b,q2b,q3b,q4b,q5b,q6b,q7b,q8b,q9b,q10b⟩:=c11 HX1.o;obtain⟨z0b,z1b,z2b,z3b,z4b,z5b,z6b,z7b,z8b,z9b,z10b⟩:=f11 HX1.o;have hlx:=HX1.o.lt;obtain⟨w2,hw2,hx2,hot2,hsz2,hfar2,hbel2⟩:=put9 HX1.o (.slice A1 M.m.t.bs.length c1) (.slice A2 M.m.t.fs.length c2) (.slice A3 M.m.c.ls.length c3) (.int .i64 M.m.c.hand) (.int .i64 M.m.g.count) (.int .i64 M.m.g.next) (.int .i64 M.m.g.round) (.slice A4 M.m.g.os.length c4) (.int .i64 M.m.sp);have HX2:=Hd hx2;have HM2:=Hd (HM1.o.othm hot2);have HO2:=Hd (hfar2 _ _ _ (by omega) HO1.o);have HB2:=Hd (hbel2 w (Nat.le_refl _) HB1.o);clear hx2 hot2 hfar2 hbel2;go_upto_region 2 with fail
 try rw[hw2]
 clear hw2;clear q0b q1b q2b q3b q4b q5b q6b q7b q8b q9b q10b;clear z0b z1b z2b z3b z4b z5b z6b z7b z8b z9b z10b;clear hlx;have q9:=HX2.c 9 (vk) rfl;go_wp2_with fail
 refine(cloneBool_any vk M.mk _ (HM.o.k.now HB2.o) h5).mono ?_;rintro e w3 ⟨_,rfl,hK3,hb3⟩;obtain⟨A5,c5,rfl,hc5,hd5,hm5⟩:=hK3;have HB3:=Hd (bT HB2.o hb3);have HX3:=Hd (HX2.o.below hb3);have HO3:=Hd (HO2.o.below hb3);have HM3:=Hd (HM2.o.now hb3);have hs3:w.heap.size+2≤w3.heap.size:=by have:=hb3.size;omega
 have HK3:Hi (SlM boE 4 (w.heap.size+2) w3 (.slice A5 M.mk.length M.mk.length) M.mk):=slm_of rfl (Nat.le_refl _) (by unfold maxLen;omega) (hm5.mono (by omega));clear hb3 hm5 q9;go_wp2_with fail
 refine(clipBool_any A5 M.mk.length c5 _ hc5).mono ?_;rintro e _ ⟨rfl,rfl⟩;obtain⟨q0b,q1b,q2b,q3b,q4b,q5b,q6b,q7b,q8b,q9b,q10b⟩:=c11 HX3.o;obtain⟨z0b,z1b,z2b,z3b,z4b,z5b,z6b,z7b,z8b,z9b,z10b⟩:=f11 HX3.o;have hlx:=HX3.o.lt;obtain⟨w4,hw4,hx4,hot4,hsz4,hfar4,hbel4⟩:=put1_9 HX3.o (.slice A5 M.mk.length M.mk.length);have HX4:=Hd hx4;have HMM:Hi (MeM (w.heap.size+2) w4 (.slice A1 M.m.t.bs.length c1) (.slice A2 M.m.t.fs.length c2) (.slice A3 M.m.c.ls.length c3) (.slice A4 M.m.g.os.length c4) (.slice A5 M.mk.length M.mk.length) M):=(MeM.mk HM3.o HK3.o).othm hot4;have HO4:=Hd (hfar4 _ _ _ (by omega) HO3.o);have HB4:=Hd (hbel4 w (Nat.le_refl _) HB3.o);clear hx4 hot4 hfar4 hbel4;go_upto_region 3 with fail
 try rw[hw4]
 clear hw4;clear q0b q1b q2b q3b q4b q5b q6b q7b q8b q9b q10b;clear z0b z1b z2b z3b z4b z5b z6b z7b z8b z9b z10b;clear hlx;obtain⟨q0b,q1b,q2b,q3b,q4b,q5b,q6b,q7b,q8b,q9b,q10b⟩:=c11 HX4.o;obtain⟨q0o,q1o,q2o,q3o,q4o,q5o,q6o,q7o,q8o,q9o,q10o⟩:=c11 HO4.o;obtain⟨z0o,z1o,z2o,z3o,z4o,z5o,z6o,z7o,z8o,z9o,z10o⟩:=f11 HO4.o;have hlo:=HO4.o.lt;go_wp2;obtain⟨_,rfl,hoz,hotz,_,_,hbz⟩:=put11 HO4.o (.slice A1 M.m.t.bs.length c1) (.slice A2 M.m.t.fs.length c2) (.slice A3 M.m.c.ls.length c3) (.int .i64 M.m.c.hand) (.int .i64 M.m.g.count) (.int .i64 M.m.g.next) (.int .i64 M.m.g.round) (.slice A4 M.m.g.os.length c4) (.int .i64 M.m.sp) (.slice A5 M.mk.length M.mk.length) (.int .i64 M.h);obtain⟨q0t,q1t,q2t,q3t,q4t,q5t,q6t,q7t,q8t,q9t,q10t⟩:=c11 hoz;refine bodyPost_ret (v:=.agg #[.slice A1 M.m.t.bs.length c1,.slice A2 M.m.t.fs.length c2,.slice A3 M.m.c.ls.length c3,.int .i64 M.m.c.hand,.int .i64 M.m.g.count,.int .i64 M.m.g.next,.int .i64 M.m.g.round,.slice A4 M.m.g.os.length c4,.int .i64 M.m.sp,.slice A5 M.mk.length M.mk.length,.int .i64 M.h]) (by simp[results,Tryz.results39,go_sem,q0t,q1t,q2t,q3t,q4t,q5t,q6t,q7t,q8t,q9t,q10t]) rfl ⟨_,rfl,_,_,_,_,_,rfl,(HMM.o.othm hotz).mono (by omega),hbz w (by omega) HB4.o⟩
end Go.Proofs.YtfbnokjdkhcgoaaGreatDoor
