/- A part of the proofs of this seat. -/
import Derived.Test.YtfbnokjdkhcgoaaGreatDoorCMark
set_option linter.unusedVariables false
set_option linter.unusedSimpArgs false
set_option maxRecDepth 1000000
set_option maxHeartbeats 16000000
namespace Go.Proofs.YtfbnokjdkhcgoaaGreatDoor
open Go.RowKit
theorem unmOK_false{t:Tab}{s p:Int}(h:fOK t s p=false):unmV t s p=tabz:=by unfold unmV;rw[h];rfl
def rl(fs:List Fr)(a n:Int)(i:Nat):List Fr:=(fs.take i).map (relink a n)++fs.drop i
theorem rl_zero(fs:List Fr)(a n:Int):rl fs a n 0=fs:=by simp[rl]
theorem rl_all(fs:List Fr)(a n:Int):rl fs a n fs.length=fs.map (relink a n):=by simp[rl]
theorem rl_len(fs:List Fr)(a n:Int)(i:Nat):(rl fs a n i).length=fs.length:=by simp[rl];omega
theorem rl_at{fs:List Fr}{a n:Int}{i:Nat}{f:Fr}(h:fs[i]?=some f):(rl fs a n i)[i]?=some f:=by
 obtain⟨hlt,_⟩:=List.getElem?_eq_some_iff.1 h;unfold rl;rw[List.getElem?_append_right (by simp;omega)];simp[Nat.min_eq_left (Nat.le_of_lt hlt),h]
theorem rl_step{fs:List Fr}{a n:Int}{i:Nat}{f:Fr}(h:fs[i]?=some f):rl fs a n (i+1)=(rl fs a n i).set i (relink a n f):=by
 obtain⟨hlt,he⟩:=List.getElem?_eq_some_iff.1 h;apply List.ext_getElem?;intro j;rw[List.getElem?_set];unfold rl;by_cases hj:i=j
 ·subst hj;rw[if_pos rfl,if_pos (by simp;omega),List.getElem?_append_left (by simp;omega),List.getElem?_map,List.getElem?_take_of_lt (by omega),h];rfl
 ·rw[if_neg hj];by_cases hj2:j<i
  ·rw[List.getElem?_append_left (by simp;omega),List.getElem?_append_left (by simp;omega),List.getElem?_map,List.getElem?_map,List.getElem?_take_of_lt (by omega),List.getElem?_take_of_lt (by omega)]
  ·rw[List.getElem?_append_right (by simp;omega),List.getElem?_append_right (by simp;omega),List.getElem?_drop,List.getElem?_drop];simp
   congr 1
   omega
theorem UnmapPage_any (vb vf:Value) (t:Tab) (s p:Int) (w:World) (hT:TaR w vb vf t) (hfree:Free w):
  Calls Tryz.prog 84 #[.agg #[vb,vf],.agg #[.int .i64 s,.int .i64 p]] w (Post2 fun v w'=>∃v1 v2,v=.tuple #[.agg #[v1,v2],.bool (fOK t s p)]∧TaM w.heap.size w' v1 v2 (unmV t s p)∧Below w.heap.size w w'):=by
 have ht0:=((Own.new_ w 26 #[vb,vf]).alloc (o:=.cells #[.int .i64 s,.int .i64 p] 54)).alloc (o:=.cells #[.slice none 0 0,.slice none 0 0] 26);have hk0:=(Own.new_ (w.alloc (.cells #[vb,vf] 26)) 54 #[.int .i64 s,.int .i64 p]).alloc (o:=.cells #[.slice none 0 0,.slice none 0 0] 26);have hr0:=Own.new_ ((w.alloc (.cells #[vb,vf] 26)).alloc (.cells #[.int .i64 s,.int .i64 p] 54)) 26 #[.slice none 0 0,.slice none 0 0];have hb0:Below w.heap.size w (((w.alloc (.cells #[vb,vf] 26)).alloc (.cells #[.int .i64 s,.int .i64 p] 54)).alloc (.cells #[.slice none 0 0,.slice none 0 0] 26)):=bA (bA (bA bR));rw[show(w.alloc (.cells #[vb,vf] 26)).heap.size=w.heap.size+1 by simp]at hk0;rw[show((w.alloc (.cells #[vb,vf] 26)).alloc (.cells #[.int .i64 s,.int .i64 p] 54)).heap.size=w.heap.size+1+1 by simp]at hr0;have hs0:(((w.alloc (.cells #[vb,vf] 26)).alloc (.cells #[.int .i64 s,.int .i64 p] 54)).alloc (.cells #[.slice none 0 0,.slice none 0 0] 26)).heap.size=w.heap.size+3:=by simp
 generalize hW:((w.alloc (.cells #[vb,vf] 26)).alloc (.cells #[.int .i64 s,.int .i64 p] 54)).alloc (.cells #[.slice none 0 0,.slice none 0 0] 26)=W0 at ht0 hk0 hr0 hb0 hs0;have HT0:=Hd ht0;have HK0:=Hd hk0;have HR0:=Hd hr0;have HB0:=Hd hb0;clear ht0 hk0 hr0 hb0;have t00:=HT0.c 0 (vb) rfl;have t10:=HT0.c 1 (vf) rfl;have k00:=HK0.c 0 (.int .i64 s) rfl;have k10:=HK0.c 1 (.int .i64 p) rfl;have HTR:=Hd hT;have HF:=Hd hfree;clear hT hfree
 go_enter Tryz.func84,Tryz.ntmps84
 go_wp2_with fail
 refine(TableValid_any vb vf t _ (HTR.o.now HB0.o) (HF.o.now HB0.o)).mono ?_;rintro e w1 ⟨rfl,hb1⟩;have HT1:=Hd (HT0.o.below hb1);have HK1:=Hd (HK0.o.below hb1);have HR1:=Hd (HR0.o.below hb1);have HB1:=Hd (bT HB0.o hb1);clear hb1;have t01:=HT1.o.cell_ 0 rfl;have t11:=HT1.o.cell_ 1 rfl;have k01:=HK1.c 0 (.int .i64 s) rfl;have k11:=HK1.c 1 (.int .i64 p) rfl;have r01:=HR1.c 0 (.slice none 0 0) rfl;have r11:=HR1.c 1 (.slice none 0 0) rfl;have fr01:=HR1.o.free 0;have fr11:=HR1.o.free 1;clear t00 t10 k00 k10;try clear r00 r10 fr00 fr10
 cases h1:tv t with
 | false=>
  have HA:Hi (fOK t s p=false):=by show _=_;unfold fOK;rw[h1];rfl
  have HV:=Hd (unmOK_false HA.o);go_wp2;have o3:=(HR1.o.set_ 0 (.slice none 0 0)).set_ 1 (.slice none 0 0);have e0:=o3.cell_ 0 (v:=.slice none 0 0) rfl;have e1:=o3.cell_ 1 (v:=.slice none 0 0) rfl;refine bodyPost_ret (v:=.tuple #[.agg #[.slice none 0 0,.slice none 0 0],.bool false]) (by simp[results,Tryz.results84,go_sem,e0,e1]) rfl ⟨_,rfl,_,_,by rw[HA.o], ?_,bS (bS HB1.o (by simp;omega)) (by simp;omega)⟩;rw[HV.o];exact tam_z
 | true =>
  go_wp2_with fail
  refine(keyValid_any _ _ _).mono ?_;rintro e w2 ⟨rfl,hb2⟩;have HT2:=Hd (HT1.o.below hb2);have HK2:=Hd (HK1.o.below hb2);have HR2:=Hd (HR1.o.below hb2);have HB2:=Hd (bT HB1.o hb2);clear hb2;have t02:=HT2.o.cell_ 0 rfl;have t12:=HT2.o.cell_ 1 rfl;have k02:=HK2.c 0 (.int .i64 s) rfl;have k12:=HK2.c 1 (.int .i64 p) rfl;have r02:=HR2.c 0 (.slice none 0 0) rfl;have r12:=HR2.c 1 (.slice none 0 0) rfl;have fr02:=HR2.o.free 0;have fr12:=HR2.o.free 1;clear t01 t11 k01 k11;try clear r01 r11 fr01 fr11
  cases h2:kval (s,p)with
  | false=>
   have HA:Hi (fOK t s p=false):=by show _=_;unfold fOK;rw[h1,h2];rfl
   have HV:=Hd (unmOK_false HA.o);go_wp2;have o3:=(HR2.o.set_ 0 (.slice none 0 0)).set_ 1 (.slice none 0 0);have e0:=o3.cell_ 0 (v:=.slice none 0 0) rfl;have e1:=o3.cell_ 1 (v:=.slice none 0 0) rfl;refine bodyPost_ret (v:=.tuple #[.agg #[.slice none 0 0,.slice none 0 0],.bool false]) (by simp[results,Tryz.results84,go_sem,e0,e1]) rfl ⟨_,rfl,_,_,by rw[HA.o], ?_,bS (bS HB2.o (by simp;omega)) (by simp;omega)⟩;rw[HV.o];exact tam_z
  | true =>
   go_wp2_with fail
   refine(find_any vb vf t s p _ (HTR.o.now HB2.o)).mono ?_;rintro e w3 ⟨rfl,hb3⟩;have HT3:=Hd (HT2.o.below hb3);have HK3:=Hd (HK2.o.below hb3);have HR3:=Hd (HR2.o.below hb3);have HB3:=Hd (bT HB2.o hb3);clear hb3;have t03:=HT3.o.cell_ 0 rfl;have t13:=HT3.o.cell_ 1 rfl;have k03:=HK3.c 0 (.int .i64 s) rfl;have k13:=HK3.c 1 (.int .i64 p) rfl;have r03:=HR3.c 0 (.slice none 0 0) rfl;have r13:=HR3.c 1 (.slice none 0 0) rfl;have fr03:=HR3.o.free 0;have fr13:=HR3.o.free 1;clear t02 t12 k02 k12;try clear r02 r12 fr02 fr12
   by_cases h3:0≤fndI t.fs s p
   case neg=>
    have HA:Hi (fOK t s p=false):=by show _=_;unfold fOK;rw[h1,h2,decide_eq_false h3];rfl
    have HV:=Hd (unmOK_false HA.o);have h3b:fndI t.fs s p<0:=by omega
    go_wp2;have o3:=(HR3.o.set_ 0 (.slice none 0 0)).set_ 1 (.slice none 0 0);have e0:=o3.cell_ 0 (v:=.slice none 0 0) rfl;have e1:=o3.cell_ 1 (v:=.slice none 0 0) rfl;refine bodyPost_ret (v:=.tuple #[.agg #[.slice none 0 0,.slice none 0 0],.bool false]) (by simp[results,Tryz.results84,go_sem,e0,e1]) rfl ⟨_,rfl,_,_,by rw[HA.o], ?_,bS (bS HB3.o (by simp;omega)) (by simp;omega)⟩;rw[HV.o];exact tam_z
   case pos=>
    obtain⟨⟨_,hlen,hb1',hlen2⟩,_⟩:=tv_parts h1;obtain⟨k,f,hk,ef,hfu,hfk⟩:=fndI_lt h3;have HA:Hi (fOK t s p=true):=by show _=_;unfold fOK;rw[h1,h2,decide_eq_true h3];rfl
    have HV:Hi (unmV t s p=unmT t s p):=by show _=_;unfold unmV;rw[HA.o];rfl
    have h3b:¬fndI t.fs s p<0:=by omega
    have HN:=Hd hk;rw[hk]at h3 h3b⊢;have HEF:=Hd ef;clear hk ef hfk;go_wp2_with fail
    refine(tclone_any vb _ t _ (HTR.o.now HB3.o) (by omega) (by omega)).mono ?_;rintro e w4 ⟨v1,v2,rfl,hM4,hb4⟩;have HM4S:Hi (w3.heap.size≤w4.heap.size):=hb4.size;have HT4:=Hd (HT3.o.below hb4);have HK4:=Hd (HK3.o.below hb4);have HR4:=Hd (HR3.o.below hb4);have HB4:=Hd (bT HB3.o hb4);clear hb4;have t04:=HT4.o.cell_ 0 rfl;have t14:=HT4.o.cell_ 1 rfl;have k04:=HK4.c 0 (.int .i64 s) rfl;have k14:=HK4.c 1 (.int .i64 p) rfl;have r04:=HR4.c 0 (.slice none 0 0) rfl;have r14:=HR4.c 1 (.slice none 0 0) rfl;have fr04:=HR4.o.free 0;have fr14:=HR4.o.free 1;clear t03 t13 k03 k13;try clear r03 r13 fr03 fr13
    have hfl:=(List.getElem?_eq_some_iff.1 HEF.o).1;obtain⟨g1,c1,g2,c2,rfl,rfl,e1,e2,l1,l2,hne,a1,a2,b1,b2,m1,m2⟩:=hM4.open_ hb1' (by omega);have ho5:=Own.new_ w4 26 #[.slice (some ⟨g1,0,none⟩) t.bs.length c1,.slice (some ⟨g2,0,none⟩) t.fs.length c2];have hb5:Below w4.heap.size w4 (w4.alloc (.cells #[.slice (some ⟨g1,0,none⟩) t.bs.length c1,.slice (some ⟨g2,0,none⟩) t.fs.length c2] 26)):=bA bR;generalize hW5:w4.alloc (.cells #[.slice (some ⟨g1,0,none⟩) t.bs.length c1,.slice (some ⟨g2,0,none⟩) t.fs.length c2] 26)=w5 at ho5 hb5;have M1:=Hd (m1.below hb5);have M2:=Hd (m2.below hb5);have HT5:=Hd (HT4.o.below hb5);have HK5:=Hd (HK4.o.below hb5);have HR5:=Hd (HR4.o.below hb5);have HB5:=Hd (bT HB4.o hb5);clear hb5;have t05:=HT5.o.cell_ 0 rfl;have t15:=HT5.o.cell_ 1 rfl;have k05:=HK5.c 0 (.int .i64 s) rfl;have k15:=HK5.c 1 (.int .i64 p) rfl;have r05:=HR5.c 0 (.slice none 0 0) rfl;have r15:=HR5.c 1 (.slice none 0 0) rfl;have fr05:=HR5.o.free 0;have fr15:=HR5.o.free 1;clear t04 t14 k04 k14;try clear r04 r14 fr04 fr14
    have o50:=ho5.cell_ 0 (v:=.slice (some ⟨g1,0,none⟩) t.bs.length c1) rfl;have o51:=ho5.cell_ 1 (v:=.slice (some ⟨g2,0,none⟩) t.fs.length c2) rfl;have HO5:=Hd ho5;clear hM4 ho5 m1 m2;go_wp2_with fail
    refine(find_any vb vf t s p _ (HTR.o.now HB5.o)).mono ?_;rintro e w6 ⟨rfl,hb6⟩;rw[HN.o];have O6:=Hd (HO5.o.below hb6);have M16:=Hd (M1.o.below hb6);have M26:=Hd (M2.o.below hb6);have HT6:=Hd (HT5.o.below hb6);have HK6:=Hd (HK5.o.below hb6);have HR6:=Hd (HR5.o.below hb6);have HB6:=Hd (bT HB5.o hb6);clear hb6;have t06:=HT6.o.cell_ 0 rfl;have t16:=HT6.o.cell_ 1 rfl;have k06:=HK6.c 0 (.int .i64 s) rfl;have k16:=HK6.c 1 (.int .i64 p) rfl;have r06:=HR6.c 0 (.slice none 0 0) rfl;have r16:=HR6.c 1 (.slice none 0 0) rfl;have fr06:=HR6.o.free 0;have fr16:=HR6.o.free 1;clear t05 t15 k05 k15;try clear r05 r15 fr05 fr15
    obtain⟨Ab,cb,rfl,hbc,hbm,hB⟩:=HTR.o.b;obtain⟨Af,cf,rfl,hfc,hfm,hF⟩:=HTR.o.f;obtain⟨b4,o4,rfl,hb4,d0,d1,d2,d3,d4⟩:=(hF.now (Nat.le_refl _) HB6.o).fr HEF.o;clear d0 d1 d2 d3;go_wp2_with fail
    refine(hash_any s p t.bs.length _ h2 ⟨by omega,by omega⟩).mono ?_;rintro e w7 ⟨rfl,hb7⟩;have O7:=O6.o.below hb7;have o70:=O7.cell_ 0 (v:=.slice (some ⟨g1,0,none⟩) t.bs.length c1) rfl;have o71:=O7.cell_ 1 (v:=.slice (some ⟨g2,0,none⟩) t.fs.length c2) rfl;have M17:=Hd (M16.o.below hb7);have M27:=Hd (M26.o.below hb7);have HO7:=Hd O7;have HT7:=Hd (HT6.o.below hb7);have HK7:=Hd (HK6.o.below hb7);have HR7:=Hd (HR6.o.below hb7);have HB7:=Hd (bT HB6.o hb7);clear hb7;have t07:=HT7.o.cell_ 0 rfl;have t17:=HT7.o.cell_ 1 rfl;have k07:=HK7.c 0 (.int .i64 s) rfl;have k17:=HK7.c 1 (.int .i64 p) rfl;have r07:=HR7.c 0 (.slice none 0 0) rfl;have r17:=HR7.c 1 (.slice none 0 0) rfl;have fr07:=HR7.o.free 0;have fr17:=HR7.o.free 1;clear t06 t16 k06 k16;try clear r06 r16 fr06 fr16
    obtain⟨hbk,heq⟩:=bkt_in h2 hb1';rw[heq];have HBK:=Hd hbk;generalize hbb:bkt t s p=b at*
    obtain⟨n0,en0⟩:∃n0,t.bs[b]?=some n0:=⟨_,List.getElem?_eq_getElem hbk⟩
    obtain⟨bq,oq,eq1,_,z0⟩:=M17.o.is.i1 en0;injection eq1 with eq1;injection eq1 with eq1 eq2;subst eq1 eq2;rw[Nat.zero_add]at z0;have hpos:=HF.o.lt;have hsz3:=HB3.o.size;have hsz4:=HM4S.o;have hg1:0<g1:=by omega
    have hg2:0<g2:=by omega
    obtain⟨_,cs1,u1,_,Q1,_⟩:=M17.o.own (by omega);injection u1 with u1;injection u1 with u1;subst u1;have z1:=Q1.free b
    have hut:unmT t s p=if n0=(k:Int)then⟨t.bs.set b f.n,t.fs.set k frz⟩else⟨t.bs,(t.fs.map (relink k f.n)).set k frz⟩:=by
     unfold unmT;simp only[HN.o,Int.toNat_natCast,List.getD_eq_getElem?_getD,HEF.o,Option.getD_some];rw[hbb,en0];rfl
    have HUT:=Hd hut;clear Q1 hut en0 d4;have HRO:=HR7.o;have hr1:w.heap.size+1+1≠g1:=by have:=HR3.o.lt;omega
    have hr2:w.heap.size+1+1≠g2:=by have:=HR3.o.lt;omega
    have hr3:g1≠w.heap.size+1+1:=fun h=>hr1 h.symm
    have hr4:g2≠w.heap.size+1+1:=fun h=>hr2 h.symm
    have hne':g2≠g1:=fun h=>hne h.symm
    obtain⟨_,cs2,u2,_,Q2,_⟩:=M27.o.own (by omega);injection u2 with u2;injection u2 with u2;subst u2;have ho1:w4.heap.size≠g2:=HO7.o.ne Q2 (by decide);have ho2:g2≠w4.heap.size:=fun h=>ho1 h.symm
    obtain⟨_,cs1,u1,_,Q1,_⟩:=M17.o.own (by omega);injection u1 with u1;injection u1 with u1;subst u1;have ho3:w4.heap.size≠g1:=HO7.o.ne Q1 (by decide);have ho4:g1≠w4.heap.size:=fun h=>ho3 h.symm
    clear Q1 Q2 HRO;by_cases hbe:n0=(k:Int)
    ·subst hbe;clear o70 o71;have o70:=HO7.c 0 (.slice (some ⟨g1,0,none⟩) t.bs.length c1) rfl;have nb:=M17.o.wint hbk f.n;have nf:=M27.o.other (p:=⟨g1,b,none⟩) (u:=.int .i64 f.n) hne;have hr8:=HR7.o.far (p:=⟨g1,b,none⟩) (u:=.int .i64 f.n) hr1;have ho8:=HO7.o.far (p:=⟨g1,b,none⟩) (u:=.int .i64 f.n) ho3;have hb8:Below w.heap.size w (w7.setCell ⟨g1,b,none⟩ (.int .i64 f.n)):=bS HB7.o (by show w.heap.size≤g1;omega);have hf8:=HF.o.now hb8;generalize hW8:w7.setCell ⟨g1,b,none⟩ (.int .i64 f.n)=w8 at nb nf hr8 ho8 hf8 hb8;have NB8:=Hd nb;have NF8:=Hd nf;have HR8:=Hd hr8;have HO8:=Hd ho8;have HF8:=Hd hf8;have HB8:=Hd hb8;have HLEN:Hi ((t.fs)[k]?=some f):=HEF.o;have hut:unmT t s p=⟨t.bs.set b f.n,t.fs.set k frz⟩:=by rw[HUT.o,if_pos rfl]
     clear nb nf hr8 ho8 hf8 hb8 r07 r17 fr07 fr17;have o80:=HO8.c 0 (.slice (some ⟨g1,0,none⟩) t.bs.length c1) rfl;have o81:=HO8.c 1 (.slice (some ⟨g2,0,none⟩) t.fs.length c2) rfl;have y0:=HF8.o.c0;have y1:=HF8.o.c1;have y2:=HF8.o.c2;have y3:=HF8.o.c3;have y4:=HF8.o.c4;obtain⟨_,cs9,u9,_,Q9,_⟩:=NF8.o.own (by have:=(List.getElem?_eq_some_iff.1 HLEN.o).1;omega);injection u9 with u9;injection u9 with u9;subst u9;have z2:=Q9.free (k*5);have z3:=Q9.free (k*5+1);have z4:=Q9.free (k*5+2);have z5:=Q9.free (k*5+3);have z6:=Q9.free (k*5+4);obtain⟨bq,oq,eq1,_,v0,v1,v2,v3,v4⟩:=NF8.o.is.fr HLEN.o;injection eq1 with eq1;injection eq1 with eq1 eq2;subst eq1 eq2;rw[Nat.zero_add]at v0 v1 v2 v3 v4;have r08:=HR8.c 0 (.slice none 0 0) rfl;have r18:=HR8.c 1 (.slice none 0 0) rfl;have fr08:=HR8.o.free 0;have fr18:=HR8.o.free 1;have hrl:=HR8.o.lt;have hol:=HO8.o.lt;have hkf:=(List.getElem?_eq_some_iff.1 HLEN.o).1;clear Q9;go_wp2;have nf2:=NF8.o.wfr hkf frz;have nb2:=((((NB8.o.other (p:=⟨g2,k*5,none⟩) (u:=.bool false) hne').other (p:=⟨g2,k*5+1,none⟩) (u:=.int .i64 0) hne').other (p:=⟨g2,k*5+2,none⟩) (u:=.int .i64 0) hne').other (p:=⟨g2,k*5+3,none⟩) (u:=.int .i64 0) hne').other (p:=⟨g2,k*5+4,none⟩) (u:=.int .i64 (-1)) hne';have hr2:=((((HR8.o.far (p:=⟨g2,k*5,none⟩) (u:=.bool false) hr2).far (p:=⟨g2,k*5+1,none⟩) (u:=.int .i64 0) hr2).far (p:=⟨g2,k*5+2,none⟩) (u:=.int .i64 0) hr2).far (p:=⟨g2,k*5+3,none⟩) (u:=.int .i64 0) hr2).far (p:=⟨g2,k*5+4,none⟩) (u:=.int .i64 (-1)) hr2;have o3:=(hr2.set_ 0 (.slice (some ⟨g1,0,none⟩) t.bs.length c1)).set_ 1 (.slice (some ⟨g2,0,none⟩) t.fs.length c2);have e0:=o3.cell_ 0 (v:=.slice (some ⟨g1,0,none⟩) t.bs.length c1) rfl;have e1:=o3.cell_ 1 (v:=.slice (some ⟨g2,0,none⟩) t.fs.length c2) rfl;have hlt3:=HR3.o.lt;have Q3:=(nf2.far (p:=⟨w.heap.size+1+1,0,none⟩) (u:=.slice (some ⟨g1,0,none⟩) t.bs.length c1) hlt3).far (p:=⟨w.heap.size+1+1,1,none⟩) (u:=.slice (some ⟨g2,0,none⟩) t.fs.length c2) hlt3;have Q4:=(nb2.far (p:=⟨w.heap.size+1+1,0,none⟩) (u:=.slice (some ⟨g1,0,none⟩) t.bs.length c1) hlt3).far (p:=⟨w.heap.size+1+1,1,none⟩) (u:=.slice (some ⟨g2,0,none⟩) t.fs.length c2) hlt3;refine bodyPost_ret (v:=.tuple #[.agg #[.slice (some ⟨g1,0,none⟩) t.bs.length c1,.slice (some ⟨g2,0,none⟩) t.fs.length c2],.bool true]) (by simp[results,Tryz.results84,go_sem,e0,e1]) rfl ⟨_,rfl,_,_,by rw[HA.o], ?_, ?_⟩
     ·rw[HV.o,hut];exact⟨slm_of (by simp) (by simpa using a1) a2 (Q4.mono hsz3),slm_of (by simp) (by simpa using b1) b2 (Q3.mono hsz3)⟩
     ·repeat (refine bS ?_ (by simp<;>omega))
      exact HB8.o
    ·have hne1:(n0 == (k:Int))=false:=by rw[beq_eq_false_iff_ne];exact hbe
     have hut:unmT t s p=⟨t.bs,(t.fs.map (relink k f.n)).set k frz⟩:=by rw[HUT.o,if_neg hbe]
     clear r07 r17 fr07 fr17;go_wp2;go_loopw [57] (fun u wr=>∃i:Nat,i≤t.fs.length∧u=.int .i64 i∧MineE intE 3 w3.heap.size wr (some ⟨g1,0,none⟩) t.bs∧MineE frE 80 w3.heap.size wr (some ⟨g2,0,none⟩) (rl t.fs k f.n i)∧Own wr (w.heap.size+1+1) 26 #[.slice none 0 0,.slice none 0 0]∧Own wr w4.heap.size 26 #[.slice (some ⟨g1,0,none⟩) t.bs.length c1,.slice (some ⟨g2,0,none⟩) t.fs.length c2]∧Below w.heap.size w wr) (fun u _=>t.fs.length-(intOf u).toNat)
     case atStart=>exact⟨0,by omega,rfl,M17.o,by rw[rl_zero];exact M27.o,HR7.o,HO7.o,HB7.o⟩
     case round=>
      obtain⟨i,hi,rfl,hnb,hnf,hhr,hho,hhb⟩:=hrel;have NB8:=Hd hnb;have NF8:=Hd hnf;have HR8:=Hd hhr;have HO8:=Hd hho;have HB8:=Hd hhb;clear hnb hnf hhr hho hhb o70 o71 z0 z1;by_cases hlt:i<t.fs.length
      ·obtain⟨fi,ei⟩:∃fi,t.fs[i]?=some fi:=⟨_,List.getElem?_eq_getElem hlt⟩
       have hat:=rl_at (a:=(k:Int)) (n:=f.n) ei;have hll:=rl_len t.fs (k:Int) f.n i;obtain⟨bq,oq,eq1,_,v0,v1,v2,v3,v4⟩:=NF8.o.is.fr hat;injection eq1 with eq1;injection eq1 with eq1 eq2;subst eq1 eq2;rw[Nat.zero_add]at v0 v1 v2 v3 v4;obtain⟨_,cs9,u9,_,Q9,_⟩:=NF8.o.own (by omega);injection u9 with u9;injection u9 with u9;subst u9;have z6:=Q9.free (i*5+4);have o81:=HO8.c 1 (.slice (some ⟨g2,0,none⟩) t.fs.length c2) rfl;have hol:=HO8.o.lt;have HST:=Hd (rl_step (a:=(k:Int)) (n:=f.n) ei);have HAT:=Hd hat;clear Q9 v1 v2 v3 ei hat;by_cases hre:fi.used=true∧fi.n=(k:Int)
       ·have HRE:Hi (relink k f.n fi={fi with n:=f.n}):=if_pos hre;have hu:=hre.1;have hn:=hre.2;rw[hu]at v0;rw[hn]at v4;have nf9:=NF8.o.wnext HAT.o f.n;have nb9:=NB8.o.other (p:=⟨g2,i*5+4,none⟩) (u:=.int .i64 f.n) hne';have hr9:=HR8.o.far (p:=⟨g2,i*5+4,none⟩) (u:=.int .i64 f.n) hr2;have ho9:=HO8.o.far (p:=⟨g2,i*5+4,none⟩) (u:=.int .i64 f.n) ho1;have NF9:=Hd nf9;have NB9:=Hd nb9;have HR9:=Hd hr9;have HO9:=Hd ho9;clear nf9 nb9 hr9 ho9 hre hu hn;go_wp2;go_roundw;case rel=>exact⟨i+1,by omega,by go_num,NB9.o,by rw[HST.o,HRE.o];exact NF9.o,HR9.o,HO9.o,bS HB8.o (by show w.heap.size≤g2;omega)⟩
        case measure=>simp[intOf];omega
       ·have HRE:Hi (relink k f.n fi=fi):=if_neg hre
        have HSM:Hi (rl t.fs k f.n (i+1)=rl t.fs k f.n i):=by
         show _=_;rw[HST.o,HRE.o]
         exact List.ext_getElem? fun j=>by
          rw[List.getElem?_set];split
          ·rename_i hij;subst hij;rw[HAT.o,if_pos (by omega)]
          ·rfl
        cases hu:fi.used with
        | false=>
         rw[hu]at v0;clear v4 z6 hre hu;go_wp2;go_roundw;case rel=>exact⟨i+1,by omega,by go_num,NB8.o,by rw[HSM.o];exact NF8.o,HR8.o,HO8.o,HB8.o⟩
         case measure=>simp[intOf];omega
        | true=>
         rw[hu]at v0;have hn2:(fi.n == (k:Int))=false:=by rw[beq_eq_false_iff_ne];exact fun h=>hre ⟨hu,h⟩
         clear z6 hre hu;go_wp2;go_roundw;case rel=>exact⟨i+1,by omega,by go_num,NB8.o,by rw[HSM.o];exact NF8.o,HR8.o,HO8.o,HB8.o⟩
         case measure=>simp[intOf];omega
      ·obtain rfl:i=t.fs.length:=by omega
       have HF8:=Hd (HF.o.now HB8.o);have hra:=rl_all t.fs k f.n;rw[hra]at NF8;have HLEN:Hi ((t.fs.map (relink k f.n))[k]?=some (relink k f.n f)):=by show _=_;rw[List.getElem?_map,HEF.o];rfl
       have hll:(t.fs.map (relink k f.n)).length=t.fs.length:=List.length_map ..;have o80:=HO8.c 0 (.slice (some ⟨g1,0,none⟩) t.bs.length c1) rfl;have o81:=HO8.c 1 (.slice (some ⟨g2,0,none⟩) t.fs.length c2) rfl;have y0:=HF8.o.c0;have y1:=HF8.o.c1;have y2:=HF8.o.c2;have y3:=HF8.o.c3;have y4:=HF8.o.c4;obtain⟨_,cs9,u9,_,Q9,_⟩:=NF8.o.own (by have:=(List.getElem?_eq_some_iff.1 HLEN.o).1;omega);injection u9 with u9;injection u9 with u9;subst u9;have z2:=Q9.free (k*5);have z3:=Q9.free (k*5+1);have z4:=Q9.free (k*5+2);have z5:=Q9.free (k*5+3);have z6:=Q9.free (k*5+4);obtain⟨bq,oq,eq1,_,v0,v1,v2,v3,v4⟩:=NF8.o.is.fr HLEN.o;injection eq1 with eq1;injection eq1 with eq1 eq2;subst eq1 eq2;rw[Nat.zero_add]at v0 v1 v2 v3 v4;have r08:=HR8.c 0 (.slice none 0 0) rfl;have r18:=HR8.c 1 (.slice none 0 0) rfl;have fr08:=HR8.o.free 0;have fr18:=HR8.o.free 1;have hrl:=HR8.o.lt;have hol:=HO8.o.lt;have hkf:=(List.getElem?_eq_some_iff.1 HLEN.o).1;clear Q9;go_wp2;have nf2:=NF8.o.wfr hkf frz;have nb2:=((((NB8.o.other (p:=⟨g2,k*5,none⟩) (u:=.bool false) hne').other (p:=⟨g2,k*5+1,none⟩) (u:=.int .i64 0) hne').other (p:=⟨g2,k*5+2,none⟩) (u:=.int .i64 0) hne').other (p:=⟨g2,k*5+3,none⟩) (u:=.int .i64 0) hne').other (p:=⟨g2,k*5+4,none⟩) (u:=.int .i64 (-1)) hne';have hr2:=((((HR8.o.far (p:=⟨g2,k*5,none⟩) (u:=.bool false) hr2).far (p:=⟨g2,k*5+1,none⟩) (u:=.int .i64 0) hr2).far (p:=⟨g2,k*5+2,none⟩) (u:=.int .i64 0) hr2).far (p:=⟨g2,k*5+3,none⟩) (u:=.int .i64 0) hr2).far (p:=⟨g2,k*5+4,none⟩) (u:=.int .i64 (-1)) hr2;have o3:=(hr2.set_ 0 (.slice (some ⟨g1,0,none⟩) t.bs.length c1)).set_ 1 (.slice (some ⟨g2,0,none⟩) t.fs.length c2);have e0:=o3.cell_ 0 (v:=.slice (some ⟨g1,0,none⟩) t.bs.length c1) rfl;have e1:=o3.cell_ 1 (v:=.slice (some ⟨g2,0,none⟩) t.fs.length c2) rfl;have hlt3:=HR3.o.lt;have Q3:=(nf2.far (p:=⟨w.heap.size+1+1,0,none⟩) (u:=.slice (some ⟨g1,0,none⟩) t.bs.length c1) hlt3).far (p:=⟨w.heap.size+1+1,1,none⟩) (u:=.slice (some ⟨g2,0,none⟩) t.fs.length c2) hlt3;have Q4:=(nb2.far (p:=⟨w.heap.size+1+1,0,none⟩) (u:=.slice (some ⟨g1,0,none⟩) t.bs.length c1) hlt3).far (p:=⟨w.heap.size+1+1,1,none⟩) (u:=.slice (some ⟨g2,0,none⟩) t.fs.length c2) hlt3;refine bodyPost_ret (v:=.tuple #[.agg #[.slice (some ⟨g1,0,none⟩) t.bs.length c1,.slice (some ⟨g2,0,none⟩) t.fs.length c2],.bool true]) (by simp[results,Tryz.results84,go_sem,e0,e1]) rfl ⟨_,rfl,_,_,by rw[HA.o], ?_, ?_⟩
       ·rw[HV.o,hut];exact⟨slm_of (by simp) (by simpa using a1) a2 (Q4.mono hsz3),slm_of (by simp) (by simpa using b1) b2 (Q3.mono hsz3)⟩
       ·repeat (refine bS ?_ (by simp<;>omega))
        exact HB8.o
end Go.Proofs.YtfbnokjdkhcgoaaGreatDoor
