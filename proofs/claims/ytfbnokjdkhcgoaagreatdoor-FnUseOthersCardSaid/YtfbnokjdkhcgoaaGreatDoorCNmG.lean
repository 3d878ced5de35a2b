/- A part of the proofs of this seat. -/
import Derived.Deep.CutRange
import Derived.Deep.OwnRows
import Derived.Test.YtfbnokjdkhcgoaaGreatDoorCClk
set_option linter.unusedVariables false
set_option linter.unusedSimpArgs false
set_option maxRecDepth 1000000
set_option maxHeartbeats 16000000
namespace Go.Proofs.YtfbnokjdkhcgoaaGreatDoor
open Go.RowKit
theorem op_make{P:Program}{o:Oper}{a:Act}{w:World}{K:Act→World→Prop}{Q:Exit→Act→World→Prop}(x:Operand)(t:TypeId)(ho:o.op=.makeSlice t x x)(y v':Value)(w':World)(hx:a.eval x=y)
  (hrun:(Instr.makeSlice t y y).run P w=.ok v' w') (h:K (a.put o.dst v') w'):o.wp P a w K Q:=by
 unfold Oper.wp execOp;simp only[ho,hx,Sem.run_bind,Sem.run_pure,Result.andThen_ok,hrun];exact h
theorem make_BoolF(n:Nat)(hn:n≤1048576):∃cs:Array Value,cs=madeCells #[.bool false] n∧∀w:World,(Instr.makeSlice 35 (.int .i64 (n:Int)) (.int .i64 (n:Int))).run Tryz.prog w=.ok (.slice (some ⟨w.heap.size,0,none⟩) n n) (w.alloc (.cells cs 4)):=by
 refine⟨_,rfl,fun w=> ?_⟩;obtain⟨i0,hi0,hz0,hz1,hz2⟩:=info_parts bo_info;exact run_make_row 35 4 i0 _ Tryz.underlying35 hi0 hz0 hz1 rfl .i64 .i64 n (by rw[hz2];omega) (by omega) w
theorem newB{b n:Nat}{v:World}{cs:Array Value}(hc:cs=madeCells #[.bool false] n)(hn:n≤1048576)(hb:b≤v.heap.size):SlM boE 4 b (v.alloc (.cells cs 4)) (.slice (some ⟨v.heap.size,0,none⟩) n n) (List.replicate n false):=by
 subst hc
 have h:=EOwn.slm (E:=boE) (e:=4) (w:=v.alloc (.cells (madeCells #[.bool false] n) 4)) (g:=v.heap.size) (B:=b) (l:=List.replicate n false) ⟨_,Own.new_ v 4 _,by simp[size_madeCells,boE],fun j hj=>by
  have hk:j<n:=by simp[boE]at hj;exact hj
  clear hj
  have e:boE.cells (List.replicate n false)=List.replicate n (.bool false):=by
   clear hk
   induction n with
   | zero=>rfl
   | succ n ih=>rw[List.replicate_succ,List.replicate_succ,←ih (by omega)];rfl
  rw[e,List.getElem?_replicate,if_pos hk]
  simp[madeCells,hk,Nat.mod_one]⟩ hb (by simp only[List.length_replicate,maxLen];omega)
 simpa using h
theorem sNewMemory_g(vb vf vl vo:Value)(m:Ma)(w:World)(hM:MaR w vb vf vl vo m)(hv:mav m=true)(h1:m.t.bs.length≤1048576)(h2:m.t.fs.length≤1048576)(h3:m.c.ls.length≤1048576)(h4:m.g.os.length≤1048576):
  Calls Tryz.prog 122 #[.agg #[vb,vf,vl,.int .i64 m.c.hand,.int .i64 m.g.count,.int .i64 m.g.next,.int .i64 m.g.round,vo,.int .i64 m.sp]] w (Post2 fun v w'=>∃v1 v2 v3 v4 v5,v=.tuple #[.agg #[v1,v2,v3,.int .i64 (⟨m,List.replicate m.t.fs.length false,0⟩:Me).m.c.hand,.int .i64 (⟨m,List.replicate m.t.fs.length false,0⟩:Me).m.g.count,.int .i64 (⟨m,List.replicate m.t.fs.length false,0⟩:Me).m.g.next,.int .i64 (⟨m,List.replicate m.t.fs.length false,0⟩:Me).m.g.round,v4,.int .i64 (⟨m,List.replicate m.t.fs.length false,0⟩:Me).m.sp,v5,.int .i64 (⟨m,List.replicate m.t.fs.length false,0⟩:Me).h],.bool true]∧MeM w.heap.size w' v1 v2 v3 v4 v5 (⟨m,List.replicate m.t.fs.length false,0⟩:Me)∧Below w.heap.size w w'):=by
 obtain⟨Af,cf,rfl,_⟩:=hM.t.f;obtain⟨C0,hC0,hmk⟩:=make_BoolF m.t.fs.length h2
 obtain⟨mk,hmk1,hmk2⟩:∃mk,mk=List.replicate m.t.fs.length false∧∀v:World,w.heap.size≤v.heap.size→SlM boE 4 w.heap.size (v.alloc (.cells C0 4)) (.slice (some ⟨v.heap.size,0,none⟩) m.t.fs.length m.t.fs.length) mk:=⟨_,rfl,fun v hv=>newB hC0 h2 hv⟩
 rw[←hmk1];clear hmk1;obtain⟨W0,hW,hbx,hbo,hb0,hs0⟩:=box2 w #[vb,.slice Af m.t.fs.length cf,vl,.int .i64 m.c.hand,.int .i64 m.g.count,.int .i64 m.g.next,.int .i64 m.g.round,vo,.int .i64 m.sp] 34 #[.slice none 0 0,.slice none 0 0,.slice none 0 0,.int .i64 0,.int .i64 0,.int .i64 0,.int .i64 0,.slice none 0 0,.int .i64 0,.slice none 0 0,.int .i64 0] 37;have HX:=Hd hbx;have HO:=Hd hbo;have HB:=Hd hb0;have HM:=Hd hM;have HMK:=Hd hmk;obtain⟨r0x,r1x,r2x,r3x,r4x,r5x,r6x,r7x,r8x⟩:=cells9 hbx;obtain⟨z0x,z1x,z2x,z3x,z4x,z5x,z6x,z7x,z8x⟩:=free9 hbx;clear hbx hbo hb0 hM hmk
 go_enter Tryz.func122,Tryz.ntmps122
 go_upto_region 1 with fail
 try rw[hW]
 clear hW;go_wp2_with fail
 refine(sMachineValid_any _ _ _ _ m _ (HM.o.now HB.o)).mono ?_;rintro e w1 ⟨rfl,hb1⟩;rw[hv];have HX0:=Hd (HX.o.below hb1);have HO0:=Hd (HO.o.below hb1);have HB0:=Hd (bT HB.o hb1);clear HX HO HB;go_upto_region 3 with fail
 clear hb1;refine wp_region_kp (by kernel_rfl) [8,9,10,11,12,13,14,15,3] [8,9,10,11,12,13,14,15,8,3] 37 (fun g=>g≠w.heap.size+1) (w.heap.size) 8 [KP.eq (.agg #[vb,.slice Af m.t.fs.length cf,vl,.int .i64 m.c.hand,.int .i64 m.g.count,.int .i64 m.g.next,.int .i64 m.g.round,vo,.int .i64 m.sp]),KP.ma okT_me (w.heap.size) (m),KP.eq (.pointer (some ⟨w.heap.size,0,none⟩)),KP.eq (.pointer (some ⟨w.heap.size,1,none⟩)),KP.eq (.slice Af m.t.fs.length cf),KP.eq (.int .i64 m.t.fs.length),KP.bo okT_me (w.heap.size) (mk),KP.me okT_me (w.heap.size) (⟨m,mk,0⟩),KP.eq (.bool true),KP.eq (.bool true)] (fun u v=>∃e1 e2 e3 e4 e5,Own v (w.heap.size+1) 37 #[e1,e2,e3,.int .i64 (⟨m,mk,0⟩:Me).m.c.hand,.int .i64 (⟨m,mk,0⟩:Me).m.g.count,.int .i64 (⟨m,mk,0⟩:Me).m.g.next,.int .i64 (⟨m,mk,0⟩:Me).m.g.round,e4,.int .i64 (⟨m,mk,0⟩:Me).m.sp,e5,.int .i64 (⟨m,mk,0⟩:Me).h]∧MeM w.heap.size v e1 e2 e3 e4 e5 (⟨m,mk,0⟩:Me)) (fun v=>(Below (w.heap.size) w v)∧(Own v (w.heap.size) 34 #[vb,.slice Af m.t.fs.length cf,vl,.int .i64 m.c.hand,.int .i64 m.g.count,.int .i64 m.g.next,.int .i64 m.g.round,vo,.int .i64 m.sp])∧(∃cs:Array Value,cs.size=11∧Own v (w.heap.size+1) 37 cs)) (by kernel_rfl) rfl ⟨bD HB0.o,HX0.o.drew,⟨_,rfl,HO0.o.drew⟩⟩ (fun v h=>Nat.le_trans (by omega) h.1.size) (fun v v' ht ⟨hb,h_x,hcr⟩=>⟨hb.trans ht.bel,ht.oth.2 _ _ _ h_x (by decide),(let ⟨cs,h1,h2⟩:=hcr;let ⟨cs',h3,h4⟩:=ht.any _ cs h2;⟨cs',h3.trans h1,h4⟩)⟩) (fun u v v' hb ⟨e1,e2,e3,e4,e5,ho,hm⟩=>⟨e1,e2,e3,e4,e5,ho.below hb,hm.now hb⟩) ?_ ?_
 ·intro i o ho x v hC hd K hK
  match i,ho with
  | 0,ho=>
   cases ho;simp only[fillA,Act.put,sA9,sB9,sC9]at hK⊢;obtain⟨hbw,hx_x,hcr⟩:=hC;obtain⟨z0,z1,z2,z3,z4,z5,z6,z7,z8⟩:=cells9 hx_x;go_simp;exact hK _ _ kpT_same rfl
  | 1,ho=>
   cases ho;simp only[fillA,Act.put,sA9,sB9,sC9]at hK⊢;obtain⟨hbw,hx_x,hcr⟩:=hC;have d0:=hd 0 ⟨⟨0,.data⟩,by simp,rfl,rfl⟩ (by decide);change x 8=.agg #[vb,.slice Af m.t.fs.length cf,vl,.int .i64 m.c.hand,.int .i64 m.g.count,.int .i64 m.g.next,.int .i64 m.g.round,vo,.int .i64 m.sp]at d0;simp only[d0]at hK⊢;go_wp2_with fail
   refine(l6Copy_any vb (.slice Af m.t.fs.length cf) vl vo m _ (HM.o.now hbw) h1 h2 h3 h4).mono ?_;rintro e v' ⟨_,rfl,f1,f2,f3,f4,rfl,hm1,hb⟩;go_simp;exact hK _ _ (kpT_below (by decide) hb) ⟨_,_,_,_,rfl,hm1.mono hbw.size⟩
  | 2,ho=>
   cases ho;simp only[fillA,Act.put,sA9,sB9,sC9]at hK⊢;go_simp;exact hK _ _ kpT_same rfl
  | 3,ho=>
   cases ho;simp only[fillA,Act.put,sA9,sB9,sC9]at hK⊢;have d0:=hd 2 ⟨⟨2,.data⟩,by simp,rfl,rfl⟩ (by decide);change x 10=.pointer (some ⟨w.heap.size,0,none⟩)at d0;simp only[d0]at hK⊢;go_simp;exact hK _ _ kpT_same rfl
  | 4,ho=>
   cases ho;simp only[fillA,Act.put,sA9,sB9,sC9]at hK⊢;obtain⟨hbw,hx_x,hcr⟩:=hC;have z1:=hx_x.cell_ 1 (v:=.slice Af m.t.fs.length cf) rfl;have d0:=hd 3 ⟨⟨3,.data⟩,by simp,rfl,rfl⟩ (by decide);change x 11=.pointer (some ⟨w.heap.size,1,none⟩)at d0;simp only[d0]at hK⊢;go_simp;exact hK _ _ kpT_same rfl
  | 5,ho=>
   cases ho;simp only[fillA,Act.put,sA9,sB9,sC9]at hK⊢;obtain⟨hbw,hx_x,hcr⟩:=hC;have d0:=hd 4 ⟨⟨4,.data⟩,by simp,rfl,rfl⟩ (by decide);change x 12=.slice Af m.t.fs.length cf at d0;simp only[d0]at hK⊢;go_simp;exact hK _ _ kpT_same rfl
  | 6,ho=>
   cases ho;simp only[fillA,Act.put,sA9,sB9,sC9]at hK⊢;obtain⟨hbw,hx_x,hcr⟩:=hC;have d0:=hd 5 ⟨⟨5,.data⟩,by simp,rfl,rfl⟩ (by decide);change x 13=.int .i64 m.t.fs.length at d0;refine op_make (.tmp 13) 35 rfl _ _ _ d0 (HMK.o v) ?_;exact hK _ _ (kpT_below (by decide) (bA bR)) (hmk2 v hbw.size)
  | 7,ho=>
   cases ho;simp only[fillA,Act.put,sA9,sB9,sC9]at hK⊢;have d0:=hd 1 ⟨⟨1,.data⟩,by simp,rfl,rfl⟩ (by decide);obtain⟨e1,e2,e3,e4,d0,hmX⟩:=d0;change x 9=_ at d0;have d1:=hd 6 ⟨⟨6,.data⟩,by simp,rfl,rfl⟩ (by decide);obtain⟨Ab,cb,d1,hcb,hmb,hRb⟩:=d1;change x 14=_ at d1;simp only[d0,d1]at hK⊢;go_simp;exact hK (.agg #[_,_,_,.int .i64 m.c.hand,.int .i64 m.g.count,.int .i64 m.g.next,.int .i64 m.g.round,_,.int .i64 m.sp,_,.int .i64 0]) _ kpT_same ⟨_,_,_,_,_,rfl,hmX,⟨_,_,rfl,hcb,hmb,hRb⟩⟩
  | 8,ho=>
   cases ho;simp only[fillA,Act.put,sA9,sB9,sC9]at hK⊢;obtain⟨hbw,hx_x,cs,hcs,hob⟩:=hC;have d1:=hd 7 ⟨⟨7,.data⟩,by simp,rfl,rfl⟩ (by decide);obtain⟨e1,e2,e3,e4,e5,d1,hmX⟩:=d1;change x 15=_ at d1;obtain⟨A1,c1,rfl,_⟩:=hmX.m.t.b;obtain⟨A2,c2,rfl,_⟩:=hmX.m.t.f;obtain⟨A3,c3,rfl,_⟩:=hmX.m.l;obtain⟨A4,c4,rfl,_⟩:=hmX.m.o;obtain⟨A5,c5,rfl,_⟩:=id hmX.k;obtain⟨a0,a1,a2,a3,a4,a5,a6,a7,a8,a9,a10,rfl⟩:=arr11 hcs;obtain⟨q0y,q1y,q2y,q3y,q4y,q5y,q6y,q7y,q8y,q9y,q10y⟩:=c11 hob;obtain⟨z0y,z1y,z2y,z3y,z4y,z5y,z6y,z7y,z8y,z9y,z10y⟩:=f11 hob;have hlo:=hob.lt;simp only[d1]at hK⊢;go_simp;have hS:tS 37 (fun g=>g≠w.heap.size+1) w.heap.size v (sets (w.heap.size+1) 0 [.slice A1 m.t.bs.length c1,.slice A2 m.t.fs.length c2,.slice A3 m.c.ls.length c3,.int .i64 m.c.hand,.int .i64 m.g.count,.int .i64 m.g.next,.int .i64 m.g.round,.slice A4 m.g.os.length c4,.int .i64 m.sp,.slice A5 mk.length c5,.int .i64 0] v):=tS.sets hob (by omega) (by simp) 0 _;exact hK undef _ (kpT_store hS) ⟨_,_,_,_,_,set11 hob (.slice A1 m.t.bs.length c1) (.slice A2 m.t.fs.length c2) (.slice A3 m.c.ls.length c3) (.int .i64 m.c.hand) (.int .i64 m.g.count) (.int .i64 m.g.next) (.int .i64 m.g.round) (.slice A4 m.g.os.length c4) (.int .i64 m.sp) (.slice A5 mk.length c5) (.int .i64 0),hmX.tS okT_me hS⟩
  | 9,ho=>
   cases ho;simp only[fillA,Act.put,sA9,sB9,sC9]at hK⊢;go_simp;exact hK _ _ kpT_same rfl
  | _+10,ho=>simp at ho
 intro xa wz hC hd;obtain⟨e1,e2,e3,e4,e5,ho,hm⟩:=hd 8 (by decide);have HBZ:=Hd hC.1;simp only[fillA,Act.put,sA9,sB9,sC9];obtain⟨q0t,q1t,q2t,q3t,q4t,q5t,q6t,q7t,q8t,q9t,q10t⟩:=c11 ho;have dL3:=hd 9 (by decide);change xa 3=.bool true at dL3;clear hd hC;go_wp2;refine bodyPost_ret (v:=.tuple #[.agg #[e1,e2,e3,.int .i64 (⟨m,mk,0⟩:Me).m.c.hand,.int .i64 (⟨m,mk,0⟩:Me).m.g.count,.int .i64 (⟨m,mk,0⟩:Me).m.g.next,.int .i64 (⟨m,mk,0⟩:Me).m.g.round,e4,.int .i64 (⟨m,mk,0⟩:Me).m.sp,e5,.int .i64 (⟨m,mk,0⟩:Me).h],.bool true]) (by simp[results,Tryz.results122,go_sem,q0t,q1t,q2t,q3t,q4t,q5t,q6t,q7t,q8t,q9t,q10t,dL3]) rfl ⟨_,rfl,_,_,_,_,_,rfl,hm,HBZ.o⟩
structure Us(w:World)(G:Nat)(v1 v2 v3 v4 v5:Value)(N:Me)(v:World):Prop where
 ob:Own v G 37 #[v1,v2,v3,.int .i64 N.m.c.hand,.int .i64 N.m.g.count,.int .i64 N.m.g.next,.int .i64 N.m.g.round,v4,.int .i64 N.m.sp,v5,.int .i64 N.h]
 mm:MeM (w.heap.size+2) v v1 v2 v3 v4 v5 N
 rb:Own v (w.heap.size+1) 37 #[.slice none 0 0,.slice none 0 0,.slice none 0 0,.int .i64 0,.int .i64 0,.int .i64 0,.int .i64 0,.slice none 0 0,.int .i64 0,.slice none 0 0,.int .i64 0]
 bl:Below w.heap.size w v
section
variable {w : World} {G : Nat} {v1 v2 v3 v4 v5 : Value} {N : Me} {v v' : World}
theorem Us.below(k:Us w G v1 v2 v3 v4 v5 N v)(hb:Below v.heap.size v v'):Us w G v1 v2 v3 v4 v5 N v':=
 ⟨k.ob.below hb,k.mm.now hb,k.rb.below hb,bT k.bl hb⟩
theorem Us.mach(k:Us w G v1 v2 v3 v4 v5 N v)(hG:w.heap.size+2≤G){u1 u2 u3 u4:Value}{m:Ma}(hm:MaM (w.heap.size+2) v u1 u2 u3 u4 m):
  ∃W,((((((((v.setCell ⟨G,0,none⟩ u1).setCell ⟨G,1,none⟩ u2).setCell ⟨G,2,none⟩ u3).setCell ⟨G,3,none⟩ (.int .i64 m.c.hand)).setCell ⟨G,4,none⟩ (.int .i64 m.g.count)).setCell ⟨G,5,none⟩ (.int .i64 m.g.next)).setCell ⟨G,6,none⟩ (.int .i64 m.g.round)).setCell ⟨G,7,none⟩ u4).setCell ⟨G,8,none⟩ (.int .i64 m.sp)=W∧
   Us w G u1 u2 u3 u4 v5 ⟨m,N.mk,N.h⟩ W∧W.heap.size=v.heap.size∧∀(g':Nat) (t':TypeId) (cs:Array Value),g'≠G→Own v g' t' cs→Own W g' t' cs:=by
 obtain⟨W,e,h1,h2,h3,h4,h5⟩:=put9 k.ob u1 u2 u3 (.int .i64 m.c.hand) (.int .i64 m.g.count) (.int .i64 m.g.next) (.int .i64 m.g.round) u4 (.int .i64 m.sp);exact⟨W,e,⟨h1,⟨hm.othm h2,k.mm.k.oth h2 (by decide)⟩,h4 _ _ _ (by omega) k.rb,h5 w (by omega) k.bl⟩,h3,h4⟩
theorem Us.all(k:Us w G v1 v2 v3 v4 v5 N v)(hG:w.heap.size+2≤G){u1 u2 u3 u4 u5:Value}{M:Me}(hm:MeM (w.heap.size+2) v u1 u2 u3 u4 u5 M):
  ∃W,((((((((((v.setCell ⟨G,0,none⟩ u1).setCell ⟨G,1,none⟩ u2).setCell ⟨G,2,none⟩ u3).setCell ⟨G,3,none⟩ (.int .i64 M.m.c.hand)).setCell ⟨G,4,none⟩ (.int .i64 M.m.g.count)).setCell ⟨G,5,none⟩ (.int .i64 M.m.g.next)).setCell ⟨G,6,none⟩ (.int .i64 M.m.g.round)).setCell ⟨G,7,none⟩ u4).setCell ⟨G,8,none⟩ (.int .i64 M.m.sp)).setCell ⟨G,9,none⟩ u5).setCell ⟨G,10,none⟩ (.int .i64 M.h)=W∧
   Us w G u1 u2 u3 u4 u5 M W∧W.heap.size=v.heap.size∧∀(g':Nat) (t':TypeId) (cs:Array Value),g'≠G→Own v g' t' cs→Own W g' t' cs:=by
 obtain⟨W,e,h1,h2,h3,h4,h5⟩:=put11 k.ob u1 u2 u3 (.int .i64 M.m.c.hand) (.int .i64 M.m.g.count) (.int .i64 M.m.g.next) (.int .i64 M.m.g.round) u4 (.int .i64 M.m.sp) u5 (.int .i64 M.h);exact⟨W,e,⟨h1,hm.othm h2,h4 _ _ _ (by omega) k.rb,h5 w (by omega) k.bl⟩,h3,h4⟩
theorem Us.mark{g5 n c5:Nat}(k:Us w G v1 v2 v3 v4 (.slice (some ⟨g5,0,none⟩) n c5) N v){i:Nat}{x:Bool}(hk:N.mk[i]?=some x)(b:Bool):
  ∃W,v.setCell ⟨g5,i,none⟩ (.bool b)=W∧Us w G v1 v2 v3 v4 (.slice (some ⟨g5,0,none⟩) n c5) ⟨N.m,N.mk.set i b,N.h⟩ W∧W.heap.size=v.heap.size:=by
 obtain⟨A',c',e',hc',hm',hK⟩:=k.mm.k;injection e' with e1 e2 e3;subst e1 e2 e3;obtain⟨g,cs,e,hg,ho,hs⟩:=hK.own (by have:=(List.getElem?_eq_some_iff.1 hk).1;omega);injection e with e;injection e with e1 _ _;subst e1;have h1:=(stS_set (n:=cs.size) (i:=i) (u:=.bool b) ho).1;exact⟨_,rfl,⟨k.ob.far (p:=⟨g5,i,none⟩) (k.ob.ne ho (by decide)),⟨k.mm.m.oth h1 (by decide) (by decide) (by decide) (by decide),slm_of (by rw[List.length_set]) (by rw[List.length_set];exact hc') hm' (hK.wbo hk b)⟩,k.rb.far (p:=⟨g5,i,none⟩) (k.rb.ne ho (by decide)),bS k.bl (by show w.heap.size≤g5;omega)⟩,by simp⟩
theorem Us.fz{g5 n c5:Nat}(k:Us w G v1 v2 v3 v4 (.slice (some ⟨g5,0,none⟩) n c5) N v){i:Nat}{x:Bool}(hk:N.mk[i]?=some x):v.cell? ⟨g5,i,none⟩=some (.bool x)∧v.frozen? ⟨g5,i,none⟩=false∧g5<v.heap.size:=by
 obtain⟨A',c',e',hc',hm',hK⟩:=k.mm.k;injection e' with e1 e2 e3;subst e1 e2 e3;obtain⟨g,cs,e,hg,ho,hs⟩:=hK.own (by have:=(List.getElem?_eq_some_iff.1 hk).1;omega);injection e with e;injection e with e1 _ _;subst e1;obtain⟨b,o,e2,hb,hc⟩:=Rd.b1 hK.is hk;injection e2 with e2;injection e2 with e3 e4 _;subst e3 e4;exact⟨by simpa using hc,ho.free i,ho.lt⟩
end
theorem MeM.open{b:Nat}{w:World}{v1 v2 v3 v4 v5:Value}{N:Me}(h:MeM b w v1 v2 v3 v4 v5 N)(hn:1≤N.mk.length):∃A1 c1 A2 c2 A3 c3 A4 c4 g5 c5,v1=.slice A1 N.m.t.bs.length c1∧v2=.slice A2 N.m.t.fs.length c2∧v3=.slice A3 N.m.c.ls.length c3∧v4=.slice A4 N.m.g.os.length c4∧v5=.slice (some ⟨g5,0,none⟩) N.mk.length c5:=by
 obtain⟨A1,c1,e1,_⟩:=h.m.t.b;obtain⟨A2,c2,e2,_⟩:=h.m.t.f;obtain⟨A3,c3,e3,_⟩:=h.m.l;obtain⟨A4,c4,e4,_⟩:=h.m.o;obtain⟨A5,c5,e5,_,_,hK⟩:=h.k;obtain⟨g5,cs5,e6,_⟩:=hK.own (by omega);exact⟨A1,c1,A2,c2,A3,c3,A4,c4,g5,c5,e1,e2,e3,e4,by rw[e5,e6]⟩
theorem MeM.mk5{b:Nat}{w:World}{v1 v2 v3 v4 v5:Value}{N:Me}(h:MeM b w v1 v2 v3 v4 v5 N)(hn:1≤N.mk.length):∃g5 c5,v5=.slice (some ⟨g5,0,none⟩) N.mk.length c5:=by
 obtain⟨_,_,_,_,_,_,_,_,g5,c5,_,_,_,_,e⟩:=h.open hn;exact⟨g5,c5,e⟩
theorem MaM.open{b:Nat}{w:World}{v1 v2 v3 v4:Value}{m:Ma}(h:MaM b w v1 v2 v3 v4 m):∃A1 c1 A2 c2 A3 c3 A4 c4,v1=.slice A1 m.t.bs.length c1∧v2=.slice A2 m.t.fs.length c2∧v3=.slice A3 m.c.ls.length c3∧v4=.slice A4 m.g.os.length c4:=by
 obtain⟨A1,c1,e1,_⟩:=h.t.b;obtain⟨A2,c2,e2,_⟩:=h.t.f;obtain⟨A3,c3,e3,_⟩:=h.l;obtain⟨A4,c4,e4,_⟩:=h.o;exact⟨A1,c1,A2,c2,A3,c3,A4,c4,e1,e2,e3,e4⟩
theorem sClearMarks_g(vb vf vl vo vk:Value)(M:Me)(w:World)(hM:MeR w vb vf vl vo vk M)(hv:mev M=true):
  Calls Tryz.prog 125 #[.agg #[vb,vf,vl,.int .i64 M.m.c.hand,.int .i64 M.m.g.count,.int .i64 M.m.g.next,.int .i64 M.m.g.round,vo,.int .i64 M.m.sp,vk,.int .i64 M.h]] w (Post2 fun v w'=>∃v1 v2 v3 v4 v5 mk,v=.tuple #[.agg #[v1,v2,v3,.int .i64 (⟨M.m,mk,M.h⟩:Me).m.c.hand,.int .i64 (⟨M.m,mk,M.h⟩:Me).m.g.count,.int .i64 (⟨M.m,mk,M.h⟩:Me).m.g.next,.int .i64 (⟨M.m,mk,M.h⟩:Me).m.g.round,v4,.int .i64 (⟨M.m,mk,M.h⟩:Me).m.sp,v5,.int .i64 (⟨M.m,mk,M.h⟩:Me).h],.bool true]∧MeM w.heap.size w' v1 v2 v3 v4 v5 ⟨M.m,mk,M.h⟩∧mk.length=M.mk.length∧(∀i:Nat,mk[i]?≠some true)∧Below w.heap.size w w'):=by
 obtain⟨a1,a2,a3,a4,a5,a6⟩:=mev_len hv;obtain⟨C0,hC0,hmk⟩:=make_BoolF M.mk.length (by omega)
 obtain⟨mk,hmk1,hmk3,hmk2⟩:∃mk:List Bool,mk.length=M.mk.length∧Hi (∀i:Nat,mk[i]?≠some true)∧∀v:World,w.heap.size+2≤v.heap.size→SlM boE 4 (w.heap.size+2) (v.alloc (.cells C0 4)) (.slice (some ⟨v.heap.size,0,none⟩) M.mk.length M.mk.length) mk:=⟨List.replicate M.mk.length false,by simp,(fun i h=>by rw[List.getElem?_replicate]at h;split at h<;>cases h),fun v hv=>newB hC0 (by omega) hv⟩
 have HM:=Hd hM;have HMK:=Hd hmk;clear hM hmk hC0;obtain⟨W0,hW,hbx,hbo,hb0,hs0⟩:=box2 w #[vb,vf,vl,.int .i64 M.m.c.hand,.int .i64 M.m.g.count,.int .i64 M.m.g.next,.int .i64 M.m.g.round,vo,.int .i64 M.m.sp,vk,.int .i64 M.h] 37 #[.slice none 0 0,.slice none 0 0,.slice none 0 0,.int .i64 0,.int .i64 0,.int .i64 0,.int .i64 0,.slice none 0 0,.int .i64 0,.slice none 0 0,.int .i64 0] 37;have HX0:=Hd hbx;have HO0:=Hd hbo;have HB0:=Hd hb0;clear hbx hbo hb0;obtain⟨q0a,q1a,q2a,q3a,q4a,q5a,q6a,q7a,q8a,q9a,q10a⟩:=c11 HX0.o
 go_enter Tryz.func125,Tryz.ntmps125
 go_wp2_with fail
 refine(sMemoryValid_any vb vf vl vo vk M _ (HM.o.now HB0.o)).mono ?_;rintro e w1 ⟨rfl,hb1⟩;rw[hv];clear q0a q1a q2a q3a q4a q5a q6a q7a q8a q9a q10a;have HX1:=Hd (HX0.o.below hb1);have HO1:=Hd (HO0.o.below hb1);have HB1:=Hd (bT HB0.o hb1);have hs1:w.heap.size+2≤w1.heap.size:=by have:=hb1.size;omega
 clear hb1 HX0 HO0 HB0 hW;obtain⟨q0b,q1b,q2b,q3b,q4b,q5b,q6b,q7b,q8b,q9b,q10b⟩:=c11 HX1.o;go_wp2_with fail
 refine(l7Copy_any vb vf vl vo vk M _ (HM.o.now HB1.o) a1 a2 a3 a4 (by omega) a6).mono ?_;rintro e w3 ⟨_,rfl,q1,q2,q3,q4,q5,rfl,hM3,hb3⟩;clear q0b q1b q2b q3b q4b q5b q6b q7b q8b q9b q10b;have hM3':=hM3.mono hs1;obtain⟨A1,c1,A2,c2,A3,c3,A4,c4,g5,c5,rfl,rfl,rfl,rfl,rfl⟩:=hM3'.open a6;obtain⟨w4,hW4,ho4,hb4,hs4⟩:=box1 w3 #[.slice A1 M.m.t.bs.length c1,.slice A2 M.m.t.fs.length c2,.slice A3 M.m.c.ls.length c3,.int .i64 M.m.c.hand,.int .i64 M.m.g.count,.int .i64 M.m.g.next,.int .i64 M.m.g.round,.slice A4 M.m.g.os.length c4,.int .i64 M.m.sp,.slice (some ⟨g5,0,none⟩) M.mk.length c5,.int .i64 M.h] 37;have HO4:=Hd ho4;have HM4:=Hd (hM3'.now hb4);have HR4:=Hd ((HO1.o.below hb3).below hb4);have HX4:=Hd ((HX1.o.below hb3).below hb4);have HB4:=Hd (bT (bT HB1.o hb3) hb4);have hG:w.heap.size+2≤w3.heap.size:=by have:=hb3.size;omega
 clear hM3 hM3' hb3 ho4 hb4 HX1 HO1 HB1;go_upto_region 4 with fail
 try rw[hW4]
 clear hW4;have hmkw:=HMK.o;obtain⟨w5,hW5,ho5,hot5,hs5,hf5,hb5⟩:=put1_9 HO4.o (.slice (some ⟨w3.heap.size+1,0,none⟩) M.mk.length M.mk.length);obtain⟨w6,hW6,_,hb6,hs6⟩:=box1 w5 C0 4;have hml:=hmk2 w5 (by omega);rw[hW6,hs5,hs4]at hml;obtain⟨q0c,q1c,q2c,q3c,q4c,q5c,q6c,q7c,q8c,q9c,q10c⟩:=c11 HO4.o;obtain⟨z0c,z1c,z2c,z3c,z4c,z5c,z6c,z7c,z8c,z9c,z10c⟩:=f11 HO4.o;have hl4:=HO4.o.lt;have x9:=HX4.c 9 (vk) rfl;obtain⟨Ak,ck,rfl,_⟩:=id HM.o.k;go_upto_region 5 with fail
 try rw[hW5]
 try rw[hW6]

 clear q0c q1c q2c q3c q4c q5c q6c q7c q8c q9c q10c;clear z0c z1c z2c z3c z4c z5c z6c z7c z8c z9c z10c;clear x9;have HO6:=Hd (ho5.below hb6);have HR6:=Hd ((hf5 _ _ _ (by omega) HR4.o).below hb6);have HB6:=Hd (bT (hb5 w (by omega) HB4.o) hb6)
 have HM6:Hi (MeM (w.heap.size+2) w6 (.slice A1 M.m.t.bs.length c1) (.slice A2 M.m.t.fs.length c2) (.slice A3 M.m.c.ls.length c3) (.slice A4 M.m.g.os.length c4) (.slice (some ⟨w3.heap.size+1,0,none⟩) M.mk.length M.mk.length) ⟨M.m,mk,M.h⟩):=⟨(HM4.o.m.othm hot5).now hb6,hml⟩
 have hG6:w.heap.size+2≤w6.heap.size:=by omega
 clear ho5 hot5 hf5 hb5 hb6 hW5 hW6 HO4 HM4 HR4 HX4 HB4 hml hmkw;obtain⟨q0d,q1d,q2d,q3d,q4d,q5d,q6d,q7d,q8d,q9d,q10d⟩:=c11 HO6.o;obtain⟨q0x,q1x,q2x,q3x,q4x,q5x,q6x,q7x,q8x,q9x,q10x⟩:=c11 HR6.o;obtain⟨z0x,z1x,z2x,z3x,z4x,z5x,z6x,z7x,z8x,z9x,z10x⟩:=f11 HR6.o;have hl6:=HR6.o.lt;go_wp2;obtain⟨_,rfl,hoz,hotz,hsz,_,hbz⟩:=put11 HR6.o (.slice A1 M.m.t.bs.length c1) (.slice A2 M.m.t.fs.length c2) (.slice A3 M.m.c.ls.length c3) (.int .i64 M.m.c.hand) (.int .i64 M.m.g.count) (.int .i64 M.m.g.next) (.int .i64 M.m.g.round) (.slice A4 M.m.g.os.length c4) (.int .i64 M.m.sp) (.slice (some ⟨w3.heap.size+1,0,none⟩) M.mk.length M.mk.length) (.int .i64 M.h);obtain⟨q0t,q1t,q2t,q3t,q4t,q5t,q6t,q7t,q8t,q9t,q10t⟩:=c11 hoz

 refine bodyPost_ret (v:=.tuple #[.agg #[.slice A1 M.m.t.bs.length c1,.slice A2 M.m.t.fs.length c2,.slice A3 M.m.c.ls.length c3,.int .i64 M.m.c.hand,.int .i64 M.m.g.count,.int .i64 M.m.g.next,.int .i64 M.m.g.round,.slice A4 M.m.g.os.length c4,.int .i64 M.m.sp,.slice (some ⟨w3.heap.size+1,0,none⟩) M.mk.length M.mk.length,.int .i64 M.h],.bool true]) (by simp[results,Tryz.results125,go_sem,q0t,q1t,q2t,q3t,q4t,q5t,q6t,q7t,q8t,q9t,q10t]) rfl ⟨_,rfl,_,_,_,_,_,mk,rfl,(HM6.o.othm hotz).mono (by omega),hmk1,hmk3.o,hbz w (by omega) HB6.o⟩
end Go.Proofs.YtfbnokjdkhcgoaaGreatDoor
