/- A part of the proofs of this seat. -/
import Derived.Test.YtfbnokjdkhcgoaaGreatDoorCW4
import Derived.Test.YtfbnokjdkhcgoaaGreatDoorCTagS
set_option linter.unusedVariables false
set_option linter.unusedSimpArgs false
set_option maxRecDepth 1000000
set_option maxHeartbeats 16000000
namespace Go.Proofs.YtfbnokjdkhcgoaaGreatDoor
open Go.RowKit
theorem ownsRow_gr{B B':Nat}{w w':World}{g p sz n:Nat}{e:TypeId}{v:Value}{xs:List Value}(h:w.ownsRow B e sz v n xs)(hr:Rdr B' w g p)(hg:w.grownBy w' (some g))(hne:e≠139):w'.ownsRow B e sz v n xs:=by
 obtain⟨A,k,c,ho,_⟩:=hr.ok;exact h.kept hg (own_ne h ho hne)
theorem gG{w0 w w':World}{g:Nat}{row:Option Nat}(h:w0.grownBy w (some g))(hg:w.grownBy w' row)(hr:∀k,row=some k→w0.heap.size≤k):w0.grownBy w' (some g):=
 ⟨hg.os.trans h.os,hg.tape.trans h.tape,hg.output.trans h.output,Nat.le_trans h.size hg.size,fun k hk hne=>(hg.block k (Nat.lt_of_lt_of_le hk h.size) (fun e=>by have:=hr k e.symm;omega)).trans (h.block k hk hne)⟩
theorem rdr_row{B:Nat}{w w':World}{g p:Nat}{row:Option Nat}(h:Rdr B w g p)(hg:w.grownBy w' row)(hne:some g≠row)(hB:∀k,row=some k→B≤k):Rdr B w' g p:=by
 obtain⟨A,n,c,ho,hb,hn,hBg⟩:=h.ok;exact⟨A,n,c,own_other ho hg hne,hb.keep fun q hq=>World.cell?_of_block (hg.block q.block (by have:=ho.lt;omega) (fun e=>by have:=hB _ e.symm;omega)),hn,hBg⟩
def T5(gb:Nat)(t:Tg)(A2:Option Addr)(c2:Nat)(i:Nat)(v v':World):Prop:=
 if i=10 then stS 32 4 v v' else if i=8 then v.grownBy v' (Value.slice A2 t.os.length c2).ownBlock∧Own v gb 32 #[.int .i64 t.count,.int .i64 t.next,.int .i64 t.round,.slice A2 t.os.length c2]else othR v v'
def R5(B g w2 gb:Nat)(t:Tg)(A2:Option Addr)(c2:Nat)(j:Nat)(x:Nat→Value)(v:World):Prop:=match j with
 | 0=>x 24=.pointer (some ⟨gb,3,none⟩)
 | 1=>x 25=.slice A2 t.os.length c2
 | 2=>x 26=.pointer (some ⟨g,0,none⟩)
 | 3=>isN (x 27)
 | 4=>x 28=.pointer (some ⟨g,0,none⟩)
 | 5=>isN (x 29)
 | 6=>isK (x 30)
 | 7=>∃(gg:Nat) (a b:Int),x 31=.slice (some ⟨gg,0,none⟩) 1 1∧Own v gg 186 #[.int .i64 a,.int .i64 b]∧some gg≠(Value.slice A2 t.os.length c2).ownBlock
 | 8=>∃(A7:Option Addr) (c7:Nat) (l:List (Int×Int)),x 32=.slice A7 (t.os.length+1) c7∧l.length=t.os.length+1∧SlM owE 186 w2 v (.slice A7 (t.os.length+1) c7) l
 | 9=>x 33=.pointer (some ⟨gb,3,none⟩)
 | 10=>∃(A7:Option Addr) (c7:Nat) (l:List (Int×Int)),l.length=t.os.length+1∧SlM owE 186 w2 v (.slice A7 (t.os.length+1) c7) l∧Own v gb 32 #[.int .i64 t.count,.int .i64 t.next,.int .i64 t.round,.slice A7 (t.os.length+1) c7]
 | _=>True
theorem R5_loc{B g w2 gb:Nat}{t:Tg}{A2:Option Addr}{c2:Nat}:∀j x y v,(∀s∈([[24],[25],[26],[27],[28],[29],[30],[31],[32],[33],[]]:List (List Nat)).getD j [],x s=y s)→R5 B g w2 gb t A2 c2 j x v→R5 B g w2 gb t A2 c2 j y v:=by
 intro j x y v h hp
 match j,h,hp with
 | 0,h,hp=>exact(h 24 (by simp)).symm.trans hp
 | 1,h,hp=>exact(h 25 (by simp)).symm.trans hp
 | 2,h,hp=>exact(h 26 (by simp)).symm.trans hp
 | 3,h,hp=>show isN (y 27);rw[←h 27 (by simp)];exact hp
 | 4,h,hp=>exact(h 28 (by simp)).symm.trans hp
 | 5,h,hp=>show isN (y 29);rw[←h 29 (by simp)];exact hp
 | 6,h,hp=>show isK (y 30);rw[←h 30 (by simp)];exact hp
 | 7,h,hp=>obtain⟨gg,a,b,h1,h2⟩:=hp;exact⟨gg,a,b,(h 31 (by simp)).symm.trans h1,h2⟩
 | 8,h,hp=>obtain⟨A7,c7,l,h1,h2⟩:=hp;exact⟨A7,c7,l,(h 32 (by simp)).symm.trans h1,h2⟩
 | 9,h,hp=>exact(h 33 (by simp)).symm.trans hp
 | 10,h,hp=>exact hp
 | _+11,h,hp=>trivial
theorem R5_keep{B g w2 gb:Nat}{t:Tg}{A2:Option Addr}{c2:Nat}:∀i j x v v',i≠j→R5 B g w2 gb t A2 c2 j x v→T5 gb t A2 c2 i v v'→R5 B g w2 gb t A2 c2 j x v':=by
 intro i j x v v' hij hp ht;unfold T5 at ht
 match j,hij,hp with
 | 0,_,hp=>exact hp
 | 1,_,hp=>exact hp
 | 2,_,hp=>exact hp
 | 3,_,hp=>exact hp
 | 4,_,hp=>exact hp
 | 5,_,hp=>exact hp
 | 6,_,hp=>exact hp
 | 9,_,hp=>exact hp
 | 7,_,hp=>
  obtain⟨gg,a,b,h1,h2,h3⟩:=hp;refine⟨gg,a,b,h1, ?_,h3⟩;by_cases h10:i=10
  ·rw[if_pos h10]at ht;exact ht.1.2 _ _ _ h2 (by decide)
  ·rw[if_neg h10]at ht;by_cases h8:i=8
   ·rw[if_pos h8]at ht;exact own_other h2 ht.1 h3
   ·rw[if_neg h8]at ht;exact ht.2 _ _ _ h2 (by decide)
 | 8,hij,hp=>
  obtain⟨A7,c7,l,h1,h2,h3⟩:=hp;refine⟨A7,c7,l,h1,h2, ?_⟩;by_cases h10:i=10
  ·rw[if_pos h10]at ht;exact h3.oth ht.1 (by decide)
  ·rw[if_neg h10,if_neg hij]at ht;exact h3.oth ht (by decide)
 | 10,hij,hp=>
  obtain⟨A7,c7,l,h2,h3,h4⟩:=hp;rw[if_neg hij]at ht;by_cases h8:i=8
  ·rw[if_pos h8]at ht;exfalso;have h5:=ht.2;unfold Own at h4 h5;rw[h4]at h5;injection h5 with h5;injection h5 with h5;simp at h5
  ·rw[if_neg h8]at ht;exact⟨A7,c7,l,h2,h3.oth ht (by decide),ht.2 _ _ _ h4 (by decide)⟩
 | _+11,_,_=>trivial
def C5(B g q rb gb:Nat)(t:Tg)(A2:Option Addr)(c2:Nat)(w:World)(D:Nat→Bool)(v:World):Prop:=
 Rdr B v g (q+cn D [3,5])∧w.grownBy v (some g)∧Own v rb 32 #[.int .i64 0,.int .i64 0,.int .i64 0,.slice none 0 0]∧
  (D 10=false→Own v gb 32 #[.int .i64 t.count,.int .i64 t.next,.int .i64 t.round,.slice A2 t.os.length c2])∧(D 8=false→v.ownsRow (w.heap.size+2) 186 2 (.slice A2 t.os.length c2) t.os.length (owE.cells t.os))
section
variable {B g q rb gb : Nat} {t : Tg} {A2 : Option Addr} {c2 i : Nat} {w v v' : World} {D : Nat → Bool}
theorem C5.same(h:C5 B g q rb gb t A2 c2 w D v)(h1:i∉[3,5])(h2:i≠10)(h3:i≠8):C5 B g q rb gb t A2 c2 w (fun j=>if j=i then true else D j) v:=by
 obtain⟨a,b,c,d,e⟩:=h;exact⟨by rw[cn_same h1];exact a,b,c,fun hd=>d (upd_f h2 hd),fun hd=>e (upd_f h3 hd)⟩
theorem C5.below(h:C5 B g q rb gb t A2 c2 w D v)(hb:Below v.heap.size v v')(h1:i∉[3,5])(h2:i≠10)(h3:i≠8):C5 B g q rb gb t A2 c2 w (fun j=>if j=i then true else D j) v':=by
 obtain⟨a,b,c,d,e⟩:=h;exact⟨by rw[cn_same h1];exact rdr_below a hb,gT b (gr_below hb),c.below hb,fun hd=>(d (upd_f h2 hd)).below hb,fun hd=>own_kept (e (upd_f h3 hd)) hb⟩
theorem C5.read(h:C5 B g q rb gb t A2 c2 w D v)(hD:D i=false)(h1:i∈[3,5])(h2:i≠10)(h3:i≠8)(hr:Rdr B v' g (q+cn D [3,5]+1))(hg:v.grownBy v' (some g)):C5 B g q rb gb t A2 c2 w (fun j=>if j=i then true else D j) v':=by
 obtain⟨a,b,c,d,e⟩:=h;obtain⟨A,n,cc,ho,_⟩:=a.ok;have hoth:=oth_gr hg ho;refine⟨by rw[cn_more hD h1 (by decide),←Nat.add_assoc];exact hr,gT b hg,hoth.2 _ _ _ c (by decide),fun hd=>hoth.2 _ _ _ (d (upd_f h2 hd)) (by decide),fun hd=>ownsRow_gr (e (upd_f h3 hd)) a hg (by decide)⟩
end
def W5P(B g q:Nat)(t:Tg)(w:World)(v:Value)(w':World):Prop:=∃(t':Tg) (v1:Value) (p:Nat),v=.agg #[.int .i64 t'.count,.int .i64 t'.next,.int .i64 t'.round,v1]∧SlM owE 186 B w' v1 t'.os∧t'.os.length≤t.os.length+1∧Rdr B w' g p∧p≤q+3∧w.grownBy w' (some g)
theorem l5Wrong_any(B g q:Nat)(vo:Value)(t:Tg)(w:World)(hrd:Rdr B w g q)(hq:q≤900000)(hT:SlM owE 186 B w vo t.os)(hl:t.os.length≤1000)(hBw:B≤w.heap.size):
  Calls Tryz.prog 189 #[.pointer (some ⟨g,0,none⟩),.agg #[.int .i64 t.count,.int .i64 t.next,.int .i64 t.round,vo]] w (Post2 fun v w'=>W5P B g q t w v w'):=by
 have hgw:=rdr_lt hrd;have HT:=Hd hT;obtain⟨A,cc,rfl,_⟩:=hT;have hbx:=(Own.new_ w 32 #[.int .i64 t.count,.int .i64 t.next,.int .i64 t.round,.slice A t.os.length cc]).alloc (o:=.cells #[.int .i64 0,.int .i64 0,.int .i64 0,.slice none 0 0] 32);have hbo:=ownAt (W:=w.alloc (.cells #[.int .i64 t.count,.int .i64 t.next,.int .i64 t.round,.slice A t.os.length cc] 32)) (g:=w.heap.size+1) (t:=32) (cs:=#[.int .i64 0,.int .i64 0,.int .i64 0,.slice none 0 0]) (by simp);have hb0:Below w.heap.size w ((w.alloc (.cells #[.int .i64 t.count,.int .i64 t.next,.int .i64 t.round,.slice A t.os.length cc] 32)).alloc (.cells #[.int .i64 0,.int .i64 0,.int .i64 0,.slice none 0 0] 32)):=bA (bA bR);have hs0:((w.alloc (.cells #[.int .i64 t.count,.int .i64 t.next,.int .i64 t.round,.slice A t.os.length cc] 32)).alloc (.cells #[.int .i64 0,.int .i64 0,.int .i64 0,.slice none 0 0] 32)).heap.size=w.heap.size+2:=by simp
 generalize hW:(w.alloc (.cells #[.int .i64 t.count,.int .i64 t.next,.int .i64 t.round,.slice A t.os.length cc] 32)).alloc (.cells #[.int .i64 0,.int .i64 0,.int .i64 0,.slice none 0 0] 32)=W0 at hbx hbo hb0 hs0;have q0:=hbx.cell_ 0 (v:=.int .i64 t.count) rfl;have q1:=hbx.cell_ 1 (v:=.int .i64 t.next) rfl;have q2:=hbx.cell_ 2 (v:=.int .i64 t.round) rfl;have q3:=hbx.cell_ 3 (v:=.slice A t.os.length cc) rfl;have HR0:=Hd hbo;have HB0:=Hd hb0;have HRD0:=Hd (rdr_below hrd hb0);clear hbx hbo hb0 hrd
 go_enter Tryz.func189,Tryz.ntmps189
 go_wp2_with fail
 refine(l5CopyO_any _ t _ (HT.o.r.now HB0.o) (by omega)).mono ?_;rintro e w1 ⟨_,rfl,v1,rfl,hN1,hb1⟩;clear q0 q1 q2 q3;obtain⟨A2,c2,rfl,_⟩:=own_rd hN1;have ho2:=Own.new_ w1 32 #[.int .i64 t.count,.int .i64 t.next,.int .i64 t.round,.slice A2 t.os.length c2];have hb2:Below w1.heap.size w1 (w1.alloc (.cells #[.int .i64 t.count,.int .i64 t.next,.int .i64 t.round,.slice A2 t.os.length c2] 32)):=bA bR;generalize hW2:w1.alloc (.cells #[.int .i64 t.count,.int .i64 t.next,.int .i64 t.round,.slice A2 t.os.length c2] 32)=w2 at ho2 hb2;have HN:=Hd (own_mono (own_kept hN1 hb2) (show w.heap.size+2≤W0.heap.size by omega));have HO:=Hd ho2;have HR:=Hd ((HR0.o.below hb1).below hb2);have HRD:=Hd (rdr_below (rdr_below HRD0.o hb1) hb2);have HGR:=Hd (gr_below (g:=g) (bT (bT HB0.o hb1) hb2));have hgt:w.heap.size+2≤w1.heap.size:=by have:=hb1.size;omega
 clear hN1 hb1 ho2 hb2 HR0 HB0 HRD0 HT;generalize hgb:w1.heap.size=gb at*;go_wp2_with fail
 refine(pick_any B g q 20 w2 HRD.o (by omega) (by omega)).mono ?_;rintro e w4 ⟨x,rfl,hx0,hx1,hrd,hg⟩;have ho4:=own_gr HO.o hg (by have:=rdr_lt HRD.o;omega);have hr4:=own_gr HR.o hg (by have:=rdr_lt HRD.o;omega);have hm4:=ownsRow_gr HN.o HRD.o hg (by decide);have hgr4:=gT HGR.o hg;clear HO HR HN HRD HGR;have HO:=Hd ho4;have HR:=Hd hr4;have HN:=Hd hm4;have HRD:=Hd hrd;have HGR:=Hd hgr4;clear ho4 hr4 hm4 hgr4 hrd hg;clear hx0 hx1 hW2 hW;by_cases hx:x=0
 ·have e0:(x == 0)=true:=by rw[beq_iff_eq];exact hx
  clear hx;have o1:=HO.c 1 (.int .i64 t.next) rfl;go_wp2_with fail
  refine(num_lit B g (q+1) [-1,9,0] w4 _ _ rfl rfl HRD.o (by omega) (by simp) (by simp)).mono ?_;rintro e w5 ⟨z,rfl,hz5,hrd,hg⟩;clear o1;have ho5:=own_gr HO.o hg (by have:=rdr_lt HRD.o;omega);have hr5:=own_gr HR.o hg (by have:=rdr_lt HRD.o;omega);have hm5:=ownsRow_gr HN.o HRD.o hg (by decide);have hgr5:=gT HGR.o hg;clear HO HR HN HRD HGR;have HO:=Hd ho5;have HR:=Hd hr5;have HN:=Hd hm5;have HRD:=Hd hrd;have HGR:=Hd hgr5;clear ho5 hr5 hm5 hgr5 hrd hg;have p1:=HO.c 1 (.int .i64 t.next) rfl;have pf:=HO.o.free 1;have hl5:=HO.o.lt;have ho6:=HO.o.set_ 1 (.int .i64 z);have hr6:=HR.o.far (p:=⟨gb,1,none⟩) (u:=.int .i64 z) (by show w.heap.size+1≠gb;omega)
  have hm6:(w5.setCell ⟨gb,1,none⟩ (.int .i64 z)).ownsRow (w.heap.size+2) 186 2 (.slice A2 t.os.length c2) t.os.length (owE.cells t.os):=by
   have hst:=(stS_set (n:=4) (i:=1) (u:=.int .i64 z) HO.o).1;refine HN.o.kept (row:=some gb) ⟨rfl,rfl,rfl,by simp,fun k hk hne=>Below.heap_setCell w5 _ _ k (by rintro rfl;exact hne rfl)⟩ (own_ne HN.o HO.o (by decide))
  have hd6:=rdr_set1 (b:=gb) (i:=1) (u:=.int .i64 z) (by omega) HRD.o;have hg6:=g_set (b:=gb) (i:=1) (u:=.int .i64 z) (by omega) HGR.o;generalize hW6:w5.setCell ⟨gb,1,none⟩ (.int .i64 z)=w6 at ho6 hr6 hm6 hd6 hg6;clear HO HR HN HRD HGR;have HO:Hi (Own w6 gb 32 #[.int .i64 t.count,.int .i64 z,.int .i64 t.round,.slice A2 t.os.length c2]):=ho6;have HR:=Hd hr6;have HN:=Hd hm6;have HRD:=Hd hd6;have HGR:=Hd hg6;clear ho6 hr6 hm6 hd6 hg6;have HMM:=Hd (slm_own (l:=t.os) rfl HN.o);have HLL:Hi (t.os.length≤t.os.length+1):=Nat.le_succ _;have r0:=HR.c 0 (.int .i64 0) rfl;have r1:=HR.c 1 (.int .i64 0) rfl;have r2:=HR.c 2 (.int .i64 0) rfl;have r3:=HR.c 3 (.slice none 0 0) rfl;have f0:=HR.o.free 0;have f1:=HR.o.free 1;have f2:=HR.o.free 2;have f3:=HR.o.free 3;have hlr:=HR.o.lt;have o0:=HO.c 0 (.int .i64 t.count) rfl;have o1:=HO.c 1 (.int .i64 z) rfl;have o2:=HO.c 2 (.int .i64 t.round) rfl;have o3:=HO.c 3 (.slice A2 t.os.length c2) rfl;have hlo:=HO.o.lt;go_wp2;have hA:=HR.o.set_ 0 (.int .i64 t.count);have hB:=hA.set_ 1 (.int .i64 z);have hC:=hB.set_ 2 (.int .i64 t.round);have hE:=hC.set_ 3 (.slice A2 t.os.length c2);have t0:=hE.cell_ 0 (v:=.int .i64 t.count) rfl;have t1:=hE.cell_ 1 (v:=.int .i64 z) rfl;have t2:=hE.cell_ 2 (v:=.int .i64 t.round) rfl;have t3:=hE.cell_ 3 (v:=.slice A2 t.os.length c2) rfl;have hMM:=HMM.o;refine bodyPost_ret (v:=.agg #[.int .i64 t.count,.int .i64 z,.int .i64 t.round,.slice A2 t.os.length c2]) (by simp[results,Tryz.results189,go_sem,t0,t1,t2,t3]) rfl ?_;refine⟨_,rfl,⟨t.count,z,t.round,t.os⟩,_,_,rfl, ?_, ?_,rdr_set1 (by omega) (rdr_set1 (by omega) (rdr_set1 (by omega) (rdr_set1 (by omega) HRD.o))),by omega,g_set (by omega) (g_set (by omega) (g_set (by omega) (g_set (by omega) HGR.o)))⟩
  ·exact((((hMM.farT HR.o (i:=0) (by decide)).farT hA (i:=1) (by decide)).farT hB (i:=2) (by decide)).farT hC (i:=3) (by decide)).mono (by omega)
  ·show List.length t.os≤_;exact HLL.o
 have e0:(x == 0)=false:=by rw[beq_eq_false_iff_ne];exact hx
 clear hx;by_cases hx:x=1
 ·have e1:(x == 1)=true:=by rw[beq_iff_eq];exact hx
  clear hx;have o1:=HO.c 0 (.int .i64 t.count) rfl;go_wp2_with fail
  refine(num_lit B g (q+1) [0,9,1] w4 _ _ rfl rfl HRD.o (by omega) (by simp) (by simp)).mono ?_;rintro e w5 ⟨z,rfl,hz5,hrd,hg⟩;clear o1;have ho5:=own_gr HO.o hg (by have:=rdr_lt HRD.o;omega);have hr5:=own_gr HR.o hg (by have:=rdr_lt HRD.o;omega);have hm5:=ownsRow_gr HN.o HRD.o hg (by decide);have hgr5:=gT HGR.o hg;clear HO HR HN HRD HGR;have HO:=Hd ho5;have HR:=Hd hr5;have HN:=Hd hm5;have HRD:=Hd hrd;have HGR:=Hd hgr5;clear ho5 hr5 hm5 hgr5 hrd hg;have p1:=HO.c 0 (.int .i64 t.count) rfl;have pf:=HO.o.free 0;have hl5:=HO.o.lt;have ho6:=HO.o.set_ 0 (.int .i64 z);have hr6:=HR.o.far (p:=⟨gb,0,none⟩) (u:=.int .i64 z) (by show w.heap.size+1≠gb;omega)
  have hm6:(w5.setCell ⟨gb,0,none⟩ (.int .i64 z)).ownsRow (w.heap.size+2) 186 2 (.slice A2 t.os.length c2) t.os.length (owE.cells t.os):=by
   have hst:=(stS_set (n:=4) (i:=0) (u:=.int .i64 z) HO.o).1;refine HN.o.kept (row:=some gb) ⟨rfl,rfl,rfl,by simp,fun k hk hne=>Below.heap_setCell w5 _ _ k (by rintro rfl;exact hne rfl)⟩ (own_ne HN.o HO.o (by decide))
  have hd6:=rdr_set1 (b:=gb) (i:=0) (u:=.int .i64 z) (by omega) HRD.o;have hg6:=g_set (b:=gb) (i:=0) (u:=.int .i64 z) (by omega) HGR.o;generalize hW6:w5.setCell ⟨gb,0,none⟩ (.int .i64 z)=w6 at ho6 hr6 hm6 hd6 hg6;clear HO HR HN HRD HGR;have HO:Hi (Own w6 gb 32 #[.int .i64 z,.int .i64 t.next,.int .i64 t.round,.slice A2 t.os.length c2]):=ho6;have HR:=Hd hr6;have HN:=Hd hm6;have HRD:=Hd hd6;have HGR:=Hd hg6;clear ho6 hr6 hm6 hd6 hg6;have HMM:=Hd (slm_own (l:=t.os) rfl HN.o);have HLL:Hi (t.os.length≤t.os.length+1):=Nat.le_succ _;have r0:=HR.c 0 (.int .i64 0) rfl;have r1:=HR.c 1 (.int .i64 0) rfl;have r2:=HR.c 2 (.int .i64 0) rfl;have r3:=HR.c 3 (.slice none 0 0) rfl;have f0:=HR.o.free 0;have f1:=HR.o.free 1;have f2:=HR.o.free 2;have f3:=HR.o.free 3;have hlr:=HR.o.lt;have o0:=HO.c 0 (.int .i64 z) rfl;have o1:=HO.c 1 (.int .i64 t.next) rfl;have o2:=HO.c 2 (.int .i64 t.round) rfl;have o3:=HO.c 3 (.slice A2 t.os.length c2) rfl;have hlo:=HO.o.lt;go_wp2;have hA:=HR.o.set_ 0 (.int .i64 z);have hB:=hA.set_ 1 (.int .i64 t.next);have hC:=hB.set_ 2 (.int .i64 t.round);have hE:=hC.set_ 3 (.slice A2 t.os.length c2);have t0:=hE.cell_ 0 (v:=.int .i64 z) rfl;have t1:=hE.cell_ 1 (v:=.int .i64 t.next) rfl;have t2:=hE.cell_ 2 (v:=.int .i64 t.round) rfl;have t3:=hE.cell_ 3 (v:=.slice A2 t.os.length c2) rfl;have hMM:=HMM.o;refine bodyPost_ret (v:=.agg #[.int .i64 z,.int .i64 t.next,.int .i64 t.round,.slice A2 t.os.length c2]) (by simp[results,Tryz.results189,go_sem,t0,t1,t2,t3]) rfl ?_;refine⟨_,rfl,⟨z,t.next,t.round,t.os⟩,_,_,rfl, ?_, ?_,rdr_set1 (by omega) (rdr_set1 (by omega) (rdr_set1 (by omega) (rdr_set1 (by omega) HRD.o))),by omega,g_set (by omega) (g_set (by omega) (g_set (by omega) (g_set (by omega) HGR.o)))⟩
  ·exact((((hMM.farT HR.o (i:=0) (by decide)).farT hA (i:=1) (by decide)).farT hB (i:=2) (by decide)).farT hC (i:=3) (by decide)).mono (by omega)
  ·show List.length t.os≤_;exact HLL.o
 have e1:(x == 1)=false:=by rw[beq_eq_false_iff_ne];exact hx
 clear hx;by_cases hx:x=2
 ·have e2:(x == 2)=true:=by rw[beq_iff_eq];exact hx
  clear hx;have hgl:=rdr_lt HRD.o;have hbl:∀k,(Value.slice A2 t.os.length c2).ownBlock=some k→w.heap.size+2≤k:=own_block HN.o;have hgr0:some g≠(Value.slice A2 t.os.length c2).ownBlock:=fun h=>by have:=hbl g h.symm;omega
  have hrr0:some (w.heap.size+1)≠(Value.slice A2 t.os.length c2).ownBlock:=fun h=>by have:=hbl _ h.symm;omega
  have hgb0:some gb≠(Value.slice A2 t.os.length c2).ownBlock:=by
   rcases own_ne HN.o HO.o (by decide)with h | h
   ·rw[h];simp
   ·exact fun e=>h e.symm
  go_wp2
  refine wp_region_rel3 (by kernel_rfl) [24,25,26,27,28,29,30,31,32,33] [[24],[25],[26],[27],[28],[29],[30],[31],[32],[33],[]] (C5 B g (q+1) (w.heap.size+1) gb t A2 c2 w) (R5 B g (w.heap.size+2) gb t A2 c2) (T5 gb t A2 c2) (by kernel_rfl)
   ⟨by rw[cn_zero];exact rdr_below HRD.o (bD bR),gT HGR.o (gr_below (bD bR)),HR.o.drew,fun _=>HO.o.drew,fun _=>own_kept HN.o (bD bR)⟩ R5_loc R5_keep ?_ ?_
  ·intro i o ho D x v hD hcl hC hd K hK
   match i,ho with
   | 0,ho=>
    cases ho;simp only[fillA,Act.put,sA9,sB9,sC9]at hK⊢;go_simp;exact hK _ _ (Oth.of_below bR) (hC.same (by decide) (by decide) (by decide)) rfl
   | 1,ho=>
    cases ho;simp only[fillA,Act.put,sA9,sB9,sC9]at hK⊢;have d0:=hd 0 ⟨⟨0,.data⟩,by simp,rfl,rfl⟩;change x 24=.pointer (some ⟨gb,3,none⟩)at d0
    have h8:D 8=false:=by
     cases h:D 8 with
     | false=>rfl
     | true=>have:=hcl 8 _ rfl h ⟨1,.data⟩ (by simp) rfl;rw[hD]at this;cases this
    have h10:D 10=false:=by
     cases h:D 10 with
     | false=>rfl
     | true=>have:=hcl 10 _ rfl h ⟨8,.data⟩ (by simp) rfl;rw[h8]at this;cases this
    have z3:=(hC.2.2.2.1 h10).cell_ 3 (v:=.slice A2 t.os.length c2) rfl;simp only[d0]at hK⊢;go_simp;exact hK _ _ (Oth.of_below bR) (hC.same (by decide) (by decide) (by decide)) rfl
   | 2,ho=>
    cases ho;simp only[fillA,Act.put,sA9,sB9,sC9]at hK⊢;go_simp;exact hK _ _ (Oth.of_below bR) (hC.same (by decide) (by decide) (by decide)) rfl
   | 3,ho=>
    cases ho;simp only[fillA,Act.put,sA9,sB9,sC9]at hK⊢;have d2:=hd 2 ⟨⟨2,.data⟩,by simp,rfl,rfl⟩;change x 26=.pointer (some ⟨g,0,none⟩)at d2;simp only[d2]at hK⊢;have hcn:cn D [3,5]≤2:=cn_le D _;go_wp2_with fail
    refine(pick_any B g (q+1+cn D [3,5]) 3 v hC.1 (by omega) (by omega)).mono ?_;rintro e v' ⟨z,rfl,_,_,hrd,hgr⟩;go_simp;obtain⟨Ar,nr,cr,hor,_⟩:=hC.1.ok;exact hK _ _ (oth_gr hgr hor) (hC.read hD (by decide) (by decide) (by decide) hrd hgr) ⟨_,rfl⟩
   | 4,ho=>
    cases ho;simp only[fillA,Act.put,sA9,sB9,sC9]at hK⊢;go_simp;exact hK _ _ (Oth.of_below bR) (hC.same (by decide) (by decide) (by decide)) rfl
   | 5,ho=>
    cases ho;simp only[fillA,Act.put,sA9,sB9,sC9]at hK⊢;have d2:=hd 4 ⟨⟨4,.data⟩,by simp,rfl,rfl⟩;change x 28=.pointer (some ⟨g,0,none⟩)at d2;simp only[d2]at hK⊢;have hcn:cn D [3,5]≤2:=cn_le D _;go_wp2_with fail
    refine(pick_any B g (q+1+cn D [3,5]) 3 v hC.1 (by omega) (by omega)).mono ?_;rintro e v' ⟨z,rfl,_,_,hrd,hgr⟩;go_simp;obtain⟨Ar,nr,cr,hor,_⟩:=hC.1.ok;exact hK _ _ (oth_gr hgr hor) (hC.read hD (by decide) (by decide) (by decide) hrd hgr) ⟨_,rfl⟩
   | 6,ho=>
    cases ho;simp only[fillA,Act.put,sA9,sB9,sC9]at hK⊢;obtain⟨a,d3⟩:=hd 3 ⟨⟨3,.data⟩,by simp,rfl,rfl⟩;obtain⟨b,d5⟩:=hd 5 ⟨⟨5,.data⟩,by simp,rfl,rfl⟩;simp only[d3,d5]at hK⊢;go_simp;exact hK _ _ (Oth.of_below bR) (hC.same (by decide) (by decide) (by decide)) ⟨_,_,rfl⟩
   | 7,ho=>
    cases ho;simp only[fillA,Act.put,sA9,sB9,sC9]at hK⊢;obtain⟨a,b,d6⟩:=hd 6 ⟨⟨6,.data⟩,by simp,rfl,rfl⟩
    have h8:D 8=false:=by
     cases h:D 8 with
     | false=>rfl
     | true=>have:=hcl 8 _ rfl h ⟨7,.data⟩ (by simp) rfl;rw[hD]at this;cases this
    have hrow:=hC.2.2.2.2 h8;simp only[d6]at hK⊢;go_simp;exact hK _ _ (Oth.of_below (bA bR)) (hC.below (bA bR) (by decide) (by decide) (by decide)) ⟨_,a,b,rfl,Own.new_ _ _ _,fun h=>by have:=(hrow.lt _ h.symm).2;omega⟩
   | 8,ho=>
    cases ho;simp only[fillA,Act.put,sA9,sB9,sC9]at hK⊢;have d1:=hd 1 ⟨⟨1,.data⟩,by simp,rfl,rfl⟩;change x 25=.slice A2 t.os.length c2 at d1;obtain⟨gg,a,b,d7,hog,hgn⟩:=hd 7 ⟨⟨7,.data⟩,by simp,rfl,rfl⟩
    have h10:D 10=false:=by
     cases h:D 10 with
     | false=>rfl
     | true=>have:=hcl 10 _ rfl h ⟨8,.data⟩ (by simp) rfl;rw[hD]at this;cases this
    have hrow:=hC.2.2.2.2 hD;have hbx:=hC.2.2.2.1 h10
    have hr:Rd v.heap.size v 2 (some ⟨gg,0,none⟩) 1 (owE.cells [(a,b)]):=⟨rfl,fun _=>⟨gg,0,rfl,hog.lt,fun j u hu=>by
     rw[Nat.zero_add,hog.cell j]
     simpa[owE,Enc.cells]using hu⟩⟩
    obtain⟨i0,hi0,hy0,hy1,hy2⟩:=info_parts ow_info;simp only[d1,d7]at hK⊢;refine wp_append_rd v (.tmp 25) (.tmp 31) 30 rfl (w.heap.size+2) 186 i0 _ 2 16 Tryz.underlying30 hi0 hy0 hy1 hy2 rfl (by decide) (.slice A2 t.os.length c2) t.os.length (owE.cells t.os) rfl hrow _ (some ⟨gg,0,none⟩) 1 1 (owE.cells [(a,b)]) rfl hr (owE.cells_one _) (by simp only[maxLen];omega) (by omega) (by have:=hC.2.1.size;have:=hbx.lt;omega) ?_;intro v7 w7 hown7 hg7 _;have hn7:(t.os++[(a,b)]).length=t.os.length+1:=by simp
    rw[←owE.cells_append]at hown7;have hsl:=slm_own (l:=t.os++[(a,b)]) hn7.symm hown7;have hsl':=hsl;obtain⟨A7,c7,e7,_⟩:=hsl';rw[hn7]at e7;subst e7
    have hC7:C5 B g (q+1) (w.heap.size+1) gb t A2 c2 w (fun j=>if j=8 then true else D j) w7:=by
     obtain⟨ca,cb,cc,cd,_⟩:=hC;refine⟨by rw[cn_same (by decide)];exact rdr_row ca hg7 hgr0 (fun k hk=>by have:=hbl k hk;omega),gG cb hg7 (fun k hk=>by have:=hbl k hk;omega),own_other cc hg7 hrr0,fun h=>own_other (cd (upd_f (by decide) h)) hg7 hgb0,fun h=>by simp at h⟩
    exact hK _ _ ⟨hg7,hbx⟩ hC7 ⟨A7,c7,_,rfl,hn7,hsl⟩
   | 9,ho=>
    cases ho;simp only[fillA,Act.put,sA9,sB9,sC9]at hK⊢;go_simp;exact hK _ _ (Oth.of_below bR) (hC.same (by decide) (by decide) (by decide)) rfl
   | 10,ho=>
    cases ho;simp only[fillA,Act.put,sA9,sB9,sC9]at hK⊢;have d9:=hd 9 ⟨⟨9,.data⟩,by simp,rfl,rfl⟩;change x 33=.pointer (some ⟨gb,3,none⟩)at d9;obtain⟨A7,c7,l,d8,hll,hsl⟩:=hd 8 ⟨⟨8,.data⟩,by simp,rfl,rfl⟩;have hbx:=hC.2.2.2.1 hD;have z3:=hbx.cell_ 3 (v:=.slice A2 t.os.length c2) rfl;have y3:=hbx.free 3;have hlb:=hbx.lt;simp only[d8,d9]at hK⊢;go_simp;have hst:=stS_set (n:=4) (i:=3) (u:=.slice A7 (t.os.length+1) c7) hbx;refine hK undef _ hst ?_ ⟨A7,c7,l,hll,hsl.oth hst.1 (by decide),hbx.set_ 3 _⟩;obtain⟨ca,cb,cc,cd,ce⟩:=hC;refine⟨by rw[cn_same (by decide)];exact rdr_set1 (by omega) ca,g_set (by omega) cb,cc.far (by show w.heap.size+1≠gb;omega),fun h=>by simp at h,fun h=> ?_⟩;exact(ce (upd_f (by decide) h)).kept (row:=some gb) ⟨rfl,rfl,rfl,by simp,fun k hk hne=>Below.heap_setCell v _ _ k (by rintro rfl;exact hne rfl)⟩ (own_ne (ce (upd_f (by decide) h)) hbx (by decide))
   | _+11,ho=>simp at ho
  ·intro D xx w6 hD hC hd;obtain⟨hrd,hgr,hrr,_,_⟩:=hC;rw[cn_all (l:=[3,5]) (fun i hi=>hD i (by simp at hi;simp;omega))]at hrd;obtain⟨A7,c7,l,hll,hsl,hob⟩:=hd 10 (by decide);simp only[fillA,Act.put,sA9,sB9,sC9];change Rdr B w6 g (q+1+2)at hrd;clear HO HR HN HRD HGR hd hD;have HO:=Hd hob;have HR:=Hd hrr;have HRD:=Hd hrd;have HGR:=Hd hgr;have HMM:=Hd hsl;have HLL:Hi (l.length≤t.os.length+1):=Nat.le_of_eq hll;clear hob hrr hrd hgr hsl hll hbl hgr0 hrr0 hgb0;have r0:=HR.c 0 (.int .i64 0) rfl;have r1:=HR.c 1 (.int .i64 0) rfl;have r2:=HR.c 2 (.int .i64 0) rfl;have r3:=HR.c 3 (.slice none 0 0) rfl;have f0:=HR.o.free 0;have f1:=HR.o.free 1;have f2:=HR.o.free 2;have f3:=HR.o.free 3;have hlr:=HR.o.lt;have o0:=HO.c 0 (.int .i64 t.count) rfl;have o1:=HO.c 1 (.int .i64 t.next) rfl;have o2:=HO.c 2 (.int .i64 t.round) rfl;have o3:=HO.c 3 (.slice A7 (t.os.length+1) c7) rfl;have hlo:=HO.o.lt;go_wp2;have hA:=HR.o.set_ 0 (.int .i64 t.count);have hB:=hA.set_ 1 (.int .i64 t.next);have hC:=hB.set_ 2 (.int .i64 t.round);have hE:=hC.set_ 3 (.slice A7 (t.os.length+1) c7);have t0:=hE.cell_ 0 (v:=.int .i64 t.count) rfl;have t1:=hE.cell_ 1 (v:=.int .i64 t.next) rfl;have t2:=hE.cell_ 2 (v:=.int .i64 t.round) rfl;have t3:=hE.cell_ 3 (v:=.slice A7 (t.os.length+1) c7) rfl;have hMM:=HMM.o;refine bodyPost_ret (v:=.agg #[.int .i64 t.count,.int .i64 t.next,.int .i64 t.round,.slice A7 (t.os.length+1) c7]) (by simp[results,Tryz.results189,go_sem,t0,t1,t2,t3]) rfl ?_;refine⟨_,rfl,⟨t.count,t.next,t.round,l⟩,_,_,rfl, ?_, ?_,rdr_set1 (by omega) (rdr_set1 (by omega) (rdr_set1 (by omega) (rdr_set1 (by omega) HRD.o))),by omega,g_set (by omega) (g_set (by omega) (g_set (by omega) (g_set (by omega) HGR.o)))⟩
   ·exact((((hMM.farT HR.o (i:=0) (by decide)).farT hA (i:=1) (by decide)).farT hB (i:=2) (by decide)).farT hC (i:=3) (by decide)).mono (by omega)
   ·show List.length l≤_;exact HLL.o
 have e2:(x == 2)=false:=by rw[beq_eq_false_iff_ne];exact hx
 clear hx;by_cases hx:x=3
 ·have e3:(x == 3)=true:=by rw[beq_iff_eq];exact hx
  clear hx;have o1:=HO.c 2 (.int .i64 t.round) rfl;go_wp2_with fail
  refine(num_lit B g (q+1) [-1,1000001,1000000] w4 _ _ rfl rfl HRD.o (by omega) (by simp) (by simp)).mono ?_;rintro e w5 ⟨z,rfl,hz5,hrd,hg⟩;clear o1;have ho5:=own_gr HO.o hg (by have:=rdr_lt HRD.o;omega);have hr5:=own_gr HR.o hg (by have:=rdr_lt HRD.o;omega);have hm5:=ownsRow_gr HN.o HRD.o hg (by decide);have hgr5:=gT HGR.o hg;clear HO HR HN HRD HGR;have HO:=Hd ho5;have HR:=Hd hr5;have HN:=Hd hm5;have HRD:=Hd hrd;have HGR:=Hd hgr5;clear ho5 hr5 hm5 hgr5 hrd hg;have p1:=HO.c 2 (.int .i64 t.round) rfl;have pf:=HO.o.free 2;have hl5:=HO.o.lt;have ho6:=HO.o.set_ 2 (.int .i64 z);have hr6:=HR.o.far (p:=⟨gb,2,none⟩) (u:=.int .i64 z) (by show w.heap.size+1≠gb;omega)
  have hm6:(w5.setCell ⟨gb,2,none⟩ (.int .i64 z)).ownsRow (w.heap.size+2) 186 2 (.slice A2 t.os.length c2) t.os.length (owE.cells t.os):=by
   have hst:=(stS_set (n:=4) (i:=2) (u:=.int .i64 z) HO.o).1;refine HN.o.kept (row:=some gb) ⟨rfl,rfl,rfl,by simp,fun k hk hne=>Below.heap_setCell w5 _ _ k (by rintro rfl;exact hne rfl)⟩ (own_ne HN.o HO.o (by decide))
  have hd6:=rdr_set1 (b:=gb) (i:=2) (u:=.int .i64 z) (by omega) HRD.o;have hg6:=g_set (b:=gb) (i:=2) (u:=.int .i64 z) (by omega) HGR.o;generalize hW6:w5.setCell ⟨gb,2,none⟩ (.int .i64 z)=w6 at ho6 hr6 hm6 hd6 hg6;clear HO HR HN HRD HGR;have HO:Hi (Own w6 gb 32 #[.int .i64 t.count,.int .i64 t.next,.int .i64 z,.slice A2 t.os.length c2]):=ho6;have HR:=Hd hr6;have HN:=Hd hm6;have HRD:=Hd hd6;have HGR:=Hd hg6;clear ho6 hr6 hm6 hd6 hg6;have HMM:=Hd (slm_own (l:=t.os) rfl HN.o);have HLL:Hi (t.os.length≤t.os.length+1):=Nat.le_succ _;have r0:=HR.c 0 (.int .i64 0) rfl;have r1:=HR.c 1 (.int .i64 0) rfl;have r2:=HR.c 2 (.int .i64 0) rfl;have r3:=HR.c 3 (.slice none 0 0) rfl;have f0:=HR.o.free 0;have f1:=HR.o.free 1;have f2:=HR.o.free 2;have f3:=HR.o.free 3;have hlr:=HR.o.lt;have o0:=HO.c 0 (.int .i64 t.count) rfl;have o1:=HO.c 1 (.int .i64 t.next) rfl;have o2:=HO.c 2 (.int .i64 z) rfl;have o3:=HO.c 3 (.slice A2 t.os.length c2) rfl;have hlo:=HO.o.lt;go_wp2;have hA:=HR.o.set_ 0 (.int .i64 t.count);have hB:=hA.set_ 1 (.int .i64 t.next);have hC:=hB.set_ 2 (.int .i64 z);have hE:=hC.set_ 3 (.slice A2 t.os.length c2);have t0:=hE.cell_ 0 (v:=.int .i64 t.count) rfl;have t1:=hE.cell_ 1 (v:=.int .i64 t.next) rfl;have t2:=hE.cell_ 2 (v:=.int .i64 z) rfl;have t3:=hE.cell_ 3 (v:=.slice A2 t.os.length c2) rfl;have hMM:=HMM.o;refine bodyPost_ret (v:=.agg #[.int .i64 t.count,.int .i64 t.next,.int .i64 z,.slice A2 t.os.length c2]) (by simp[results,Tryz.results189,go_sem,t0,t1,t2,t3]) rfl ?_;refine⟨_,rfl,⟨t.count,t.next,z,t.os⟩,_,_,rfl, ?_, ?_,rdr_set1 (by omega) (rdr_set1 (by omega) (rdr_set1 (by omega) (rdr_set1 (by omega) HRD.o))),by omega,g_set (by omega) (g_set (by omega) (g_set (by omega) (g_set (by omega) HGR.o)))⟩
  ·exact((((hMM.farT HR.o (i:=0) (by decide)).farT hA (i:=1) (by decide)).farT hB (i:=2) (by decide)).farT hC (i:=3) (by decide)).mono (by omega)
  ·show List.length t.os≤_;exact HLL.o
 have e3:(x == 3)=false:=by rw[beq_eq_false_iff_ne];exact hx
 clear hx;have HMM:=Hd (slm_own (l:=t.os) rfl HN.o);have HLL:Hi (t.os.length≤t.os.length+1):=Nat.le_succ _;have r0:=HR.c 0 (.int .i64 0) rfl;have r1:=HR.c 1 (.int .i64 0) rfl;have r2:=HR.c 2 (.int .i64 0) rfl;have r3:=HR.c 3 (.slice none 0 0) rfl;have f0:=HR.o.free 0;have f1:=HR.o.free 1;have f2:=HR.o.free 2;have f3:=HR.o.free 3;have hlr:=HR.o.lt;have o0:=HO.c 0 (.int .i64 t.count) rfl;have o1:=HO.c 1 (.int .i64 t.next) rfl;have o2:=HO.c 2 (.int .i64 t.round) rfl;have o3:=HO.c 3 (.slice A2 t.os.length c2) rfl;have hlo:=HO.o.lt;go_wp2;have hA:=HR.o.set_ 0 (.int .i64 t.count);have hB:=hA.set_ 1 (.int .i64 t.next);have hC:=hB.set_ 2 (.int .i64 t.round);have hE:=hC.set_ 3 (.slice A2 t.os.length c2);have t0:=hE.cell_ 0 (v:=.int .i64 t.count) rfl;have t1:=hE.cell_ 1 (v:=.int .i64 t.next) rfl;have t2:=hE.cell_ 2 (v:=.int .i64 t.round) rfl;have t3:=hE.cell_ 3 (v:=.slice A2 t.os.length c2) rfl;have hMM:=HMM.o;refine bodyPost_ret (v:=.agg #[.int .i64 t.count,.int .i64 t.next,.int .i64 t.round,.slice A2 t.os.length c2]) (by simp[results,Tryz.results189,go_sem,t0,t1,t2,t3]) rfl ?_;refine⟨_,rfl,⟨t.count,t.next,t.round,t.os⟩,_,_,rfl, ?_, ?_,rdr_set1 (by omega) (rdr_set1 (by omega) (rdr_set1 (by omega) (rdr_set1 (by omega) HRD.o))),by omega,g_set (by omega) (g_set (by omega) (g_set (by omega) (g_set (by omega) HGR.o)))⟩
 ·exact((((hMM.farT HR.o (i:=0) (by decide)).farT hA (i:=1) (by decide)).farT hB (i:=2) (by decide)).farT hC (i:=3) (by decide)).mono (by omega)
 ·show List.length t.os≤_;exact HLL.o
end Go.Proofs.YtfbnokjdkhcgoaaGreatDoor
