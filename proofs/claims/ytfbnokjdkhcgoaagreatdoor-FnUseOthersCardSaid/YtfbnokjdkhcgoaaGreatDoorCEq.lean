/- A part of the proofs of this seat. -/
import Derived.Test.YtfbnokjdkhcgoaaGreatDoorCDwG
set_option linter.unusedVariables false
set_option linter.unusedSimpArgs false
set_option maxRecDepth 1000000
set_option maxHeartbeats 16000000
namespace Go.Proofs.YtfbnokjdkhcgoaaGreatDoor
open Go.RowKit
theorem neq_ln(f g:Ln)(w:World):(binOp .neq 50 (lnV f) (lnV g)).run Tryz.prog w=.ok (.bool !(decide (f=g))) w:=neq_of (fun e w=>eqIn_ln e f g w) w
theorem eqIn_ow(e:Nat)(a b c d:Int)(w:World):(Op.equalIn (e+3) 186 (.agg #[.int .i64 a,.int .i64 b]) (.agg #[.int .i64 c,.int .i64 d])).run Tryz.prog w=.ok (keq a b c d) w:=by
 have hu:Tryz.prog.underlying 186=some (.struct (Tryz.prog.fieldsOf 186)):=by kernel_rfl
 have hp:Tryz.prog.stoodInHeld 186=false:=by kernel_rfl
 have hf:(Tryz.prog.fieldsOf 186).toList.map (fun f=>(f.name,f.type,f.offset))=[("Space",3,0),("Tag",3,1)]:=by kernel_rfl
 rw[run_equalIn_struct w (e+2) _ _ _ hu hp];obtain⟨f,g,hl,h1,h2⟩:=two_of hf;rw[hl];simp only[Prod.mk.injEq]at h1 h2;obtain⟨n1,t1,o1⟩:=h1;obtain⟨n2,t2,o2⟩:=h2;simp[Op.eqFields,n1,t1,o1,n2,t2,o2,part,run_equalIn_int,Tryz.underlying3,go_sem,keq];by_cases e1:a=c<;>by_cases e2:b=d<;>simp[e1,e2]
theorem neq_ow(a b c d:Int)(w:World):(binOp .neq 186 (.agg #[.int .i64 a,.int .i64 b]) (.agg #[.int .i64 c,.int .i64 d])).run Tryz.prog w=.ok (.bool !(keq a b c d)) w:=neq_of (fun e w=>eqIn_ow e a b c d w) w
section
variable {q : TypeId → Prop} {B : Nat} {nums : List Nat} {S : List SBx}
def kgs(ks:List (KG q B nums S))(j:Nat)(D:Nat→Bool)(x:Nat→Value)(v:World):Prop:=match ks[j]? with | some k=>k.P D x v | none=>True
theorem kgs_loc{ks:List (KG q B nums S)}:∀j D x y v,(∀s∈(ks.map KG.rd).getD j [],x s=y s)→kgs ks j D x v→kgs ks j D y v:=by
 intro j D x y v h hp;unfold kgs at hp⊢
 cases hk:ks[j]? with
 | none=>trivial
 | some k=>
  rw[hk]at hp;refine k.loc D x y v (fun s hs=>h s ?_) hp;rw[List.getD_eq_getElem?_getD,List.getElem?_map,hk];exact hs
theorem kgs_keep{ks:List (KG q B nums S)}:∀i j D x v v',i≠j→D i=false→kgs ks j D x v→gtt q B nums S i v v'→kgs ks j (dn D i) x v':=by
 intro i j D x v v' hij hD hp ht;unfold kgs at hp⊢
 cases hk:ks[j]? with
 | none=>trivial
 | some k=>
  rw[hk]at hp;exact k.keep i D x v v' hD hp ht
end
def isIn(zs:List Int)(u:Value):Prop:=∃z:Int,u=.int .i64 z∧z∈zs
theorem isIn_small{zs:List Int}(h:∀z∈zs,-1000≤z∧z≤1000001){z:Int}(hz:z∈zs):small z:=h z hz
abbrev sbE(op box:Nat)(ty:TypeId)(old new:Array Value):SBx:=⟨op,box,ty,old,fun cs _=>cs=new⟩
theorem eqInts_same(A B:Option Addr)(c d:Nat)(l:List Int)(w:World)(ha:Rs intE w.heap.size w A l)(hb:Rs intE w.heap.size w B l)(hl:l.length≤9223372036854775807):
  Calls Tryz.prog 167 #[.slice A l.length c,.slice B l.length d] w fun r w'=>r=.returned (.bool true)∧Below w.heap.size w w':=by
 have HA:=Hd ha;have HB:=Hd hb;clear ha hb
 go_enter Tryz.func167,Tryz.ntmps167
 go_wp2;go_loopw [13] (fun u wr=>∃k:Nat,k≤l.length∧u=.int .i64 k∧Below w.heap.size w wr) (fun u _=>l.length-(intOf u).toNat)
 case atStart=>exact⟨0,by omega,rfl,bR⟩
 case round=>
  obtain⟨k,hk,rfl,hbi⟩:=hrel;have HBI:=Hd hbi;by_cases hlt:k<l.length
  ·obtain⟨x,ex⟩:∃x,l[k]?=some x:=⟨_,List.getElem?_eq_getElem hlt⟩
   obtain⟨b1,o1,rfl,_,d0⟩:=(HA.o.below hbi).i1 ex;obtain⟨b2,o2,rfl,_,e0⟩:=(HB.o.below hbi).i1 ex
   have hne:∀W:World,True:=by
    intro W;first | (have h:=neq_fr x x W;simpa using h) | (have h:=neq_ln x x W;simpa using h) | (have h:=neq_ow x.1 x.2 x.1 x.2 W;simpa[keq]using h) | trivial
   clear ex hbi;go_wp2;go_quiet (fail)
   go_wp2;go_roundw;case rel=>exact⟨k+1,by omega,by go_num,bDN HBI.o⟩
   case measure=>simp[intOf];omega
  ·obtain rfl:k=l.length:=by omega
   go_wp2;go_ret;exact⟨rfl,hbi⟩
theorem eqFrs_same(A B:Option Addr)(c d:Nat)(l:List Fr)(w:World)(ha:Rs frE w.heap.size w A l)(hb:Rs frE w.heap.size w B l)(hl:l.length≤9223372036854775807):
  Calls Tryz.prog 168 #[.slice A l.length c,.slice B l.length d] w fun r w'=>r=.returned (.bool true)∧Below w.heap.size w w':=by
 have HA:=Hd ha;have HB:=Hd hb;clear ha hb
 go_enter Tryz.func168,Tryz.ntmps168
 go_wp2;go_loopw [13] (fun u wr=>∃k:Nat,k≤l.length∧u=.int .i64 k∧Below w.heap.size w wr) (fun u _=>l.length-(intOf u).toNat)
 case atStart=>exact⟨0,by omega,rfl,bR⟩
 case round=>
  obtain⟨k,hk,rfl,hbi⟩:=hrel;have HBI:=Hd hbi;by_cases hlt:k<l.length
  ·obtain⟨x,ex⟩:∃x,l[k]?=some x:=⟨_,List.getElem?_eq_getElem hlt⟩
   obtain⟨b1,o1,rfl,_,d0,d1,d2,d3,d4⟩:=(HA.o.below hbi).fr ex;obtain⟨b2,o2,rfl,_,e0,e1,e2,e3,e4⟩:=(HB.o.below hbi).fr ex
   have hne:∀W:World,(binOp .neq 80 (.agg #[.bool x.used,.int .i64 x.s,.int .i64 x.p,.int .i64 x.r,.int .i64 x.n]) (.agg #[.bool x.used,.int .i64 x.s,.int .i64 x.p,.int .i64 x.r,.int .i64 x.n])).run Tryz.prog W=.ok (.bool false) W:=by
    intro W;first | (have h:=neq_fr x x W;simpa using h) | (have h:=neq_ln x x W;simpa using h) | (have h:=neq_ow x.1 x.2 x.1 x.2 W;simpa[keq]using h) | trivial
   clear ex hbi;go_wp2;go_quiet (fail)
   go_wp2;go_roundw;case rel=>exact⟨k+1,by omega,by go_num,bDN HBI.o⟩
   case measure=>simp[intOf];omega
  ·obtain rfl:k=l.length:=by omega
   go_wp2;go_ret;exact⟨rfl,hbi⟩
theorem eqLns_same(A B:Option Addr)(c d:Nat)(l:List Ln)(w:World)(ha:Rs lnE w.heap.size w A l)(hb:Rs lnE w.heap.size w B l)(hl:l.length≤9223372036854775807):
  Calls Tryz.prog 169 #[.slice A l.length c,.slice B l.length d] w fun r w'=>r=.returned (.bool true)∧Below w.heap.size w w':=by
 have HA:=Hd ha;have HB:=Hd hb;clear ha hb
 go_enter Tryz.func169,Tryz.ntmps169
 go_wp2;go_loopw [13] (fun u wr=>∃k:Nat,k≤l.length∧u=.int .i64 k∧Below w.heap.size w wr) (fun u _=>l.length-(intOf u).toNat)
 case atStart=>exact⟨0,by omega,rfl,bR⟩
 case round=>
  obtain⟨k,hk,rfl,hbi⟩:=hrel;have HBI:=Hd hbi;by_cases hlt:k<l.length
  ·obtain⟨x,ex⟩:∃x,l[k]?=some x:=⟨_,List.getElem?_eq_getElem hlt⟩
   obtain⟨b1,o1,rfl,_,d0,d1,d2,d3,d4,d5⟩:=(HA.o.below hbi).ln ex;obtain⟨b2,o2,rfl,_,e0,e1,e2,e3,e4,e5⟩:=(HB.o.below hbi).ln ex
   have hne:∀W:World,(binOp .neq 50 (.agg #[.bool x.v,.int .i64 x.t,.int .i64 x.p,.int .i64 x.f,.int .i64 x.r,.bool x.w]) (.agg #[.bool x.v,.int .i64 x.t,.int .i64 x.p,.int .i64 x.f,.int .i64 x.r,.bool x.w])).run Tryz.prog W=.ok (.bool false) W:=by
    intro W;first | (have h:=neq_fr x x W;simpa using h) | (have h:=neq_ln x x W;simpa using h) | (have h:=neq_ow x.1 x.2 x.1 x.2 W;simpa[keq]using h) | trivial
   clear ex hbi;go_wp2;go_quiet (fail)
   go_wp2;go_roundw;case rel=>exact⟨k+1,by omega,by go_num,bDN HBI.o⟩
   case measure=>simp[intOf];omega
  ·obtain rfl:k=l.length:=by omega
   go_wp2;go_ret;exact⟨rfl,hbi⟩
theorem eqOws_same(A B:Option Addr)(c d:Nat)(l:List (Int×Int))(w:World)(ha:Rs owE w.heap.size w A l)(hb:Rs owE w.heap.size w B l)(hl:l.length≤9223372036854775807):
  Calls Tryz.prog 170 #[.slice A l.length c,.slice B l.length d] w fun r w'=>r=.returned (.bool true)∧Below w.heap.size w w':=by
 have HA:=Hd ha;have HB:=Hd hb;clear ha hb
 go_enter Tryz.func170,Tryz.ntmps170
 go_wp2;go_loopw [13] (fun u wr=>∃k:Nat,k≤l.length∧u=.int .i64 k∧Below w.heap.size w wr) (fun u _=>l.length-(intOf u).toNat)
 case atStart=>exact⟨0,by omega,rfl,bR⟩
 case round=>
  obtain⟨k,hk,rfl,hbi⟩:=hrel;have HBI:=Hd hbi;by_cases hlt:k<l.length
  ·obtain⟨x,ex⟩:∃x,l[k]?=some x:=⟨_,List.getElem?_eq_getElem hlt⟩
   obtain⟨b1,o1,rfl,_,d0,d1⟩:=(HA.o.below hbi).ow ex;obtain⟨b2,o2,rfl,_,e0,e1⟩:=(HB.o.below hbi).ow ex
   have hne:∀W:World,(binOp .neq 186 (.agg #[.int .i64 x.1,.int .i64 x.2]) (.agg #[.int .i64 x.1,.int .i64 x.2])).run Tryz.prog W=.ok (.bool false) W:=by
    intro W;first | (have h:=neq_fr x x W;simpa using h) | (have h:=neq_ln x x W;simpa using h) | (have h:=neq_ow x.1 x.2 x.1 x.2 W;simpa[keq]using h) | trivial
   clear ex hbi;go_wp2;go_quiet (fail)
   go_wp2;go_roundw;case rel=>exact⟨k+1,by omega,by go_num,bDN HBI.o⟩
   case measure=>simp[intOf];omega
  ·obtain rfl:k=l.length:=by omega
   go_wp2;go_ret;exact⟨rfl,hbi⟩
theorem slr_len{α:Type}{E:Enc α}{w:World}{v:Value}{l:List α}(h:SlR E w v l):l.length≤9223372036854775807:=by
 obtain⟨A,c,_,h1,h2,_⟩:=h;simp only[maxLen]at h2;omega
theorem TableSame_same(a1 a2 b1 b2:Value)(t:Tab)(w:World)(ha:TaR w a1 a2 t)(hb:TaR w b1 b2 t):
  Calls Tryz.prog 102 #[.agg #[a1,a2],.agg #[b1,b2]] w fun r w'=>r=.returned (.bool true)∧Below w.heap.size w w':=by
 have l1:=slr_len ha.b;have l2:=slr_len ha.f;obtain⟨A1,c1,rfl,_,_,h1⟩:=ha.b;obtain⟨A2,c2,rfl,_,_,h2⟩:=ha.f;obtain⟨B1,d1,rfl,_,_,k1⟩:=hb.b;obtain⟨B2,d2,rfl,_,_,k2⟩:=hb.f;have hx:=(Own.new_ w 26 #[.slice A1 t.bs.length c1,.slice A2 t.fs.length c2]).alloc (o:=.cells #[.slice B1 t.bs.length d1,.slice B2 t.fs.length d2] 26);have hy:=ownAt (W:=w.alloc (.cells #[.slice A1 t.bs.length c1,.slice A2 t.fs.length c2] 26)) (g:=w.heap.size+1) (t:=26) (cs:=#[.slice B1 t.bs.length d1,.slice B2 t.fs.length d2]) (by simp);have hb0:Below w.heap.size w ((w.alloc (.cells #[.slice A1 t.bs.length c1,.slice A2 t.fs.length c2] 26)).alloc (.cells #[.slice B1 t.bs.length d1,.slice B2 t.fs.length d2] 26)):=bA (bA bR);generalize hW:(w.alloc (.cells #[.slice A1 t.bs.length c1,.slice A2 t.fs.length c2] 26)).alloc (.cells #[.slice B1 t.bs.length d1,.slice B2 t.fs.length d2] 26)=W0 at hx hy hb0;have q0:=hx.cell_ 0 (v:=.slice A1 t.bs.length c1) rfl;have q1:=hy.cell_ 0 (v:=.slice B1 t.bs.length d1) rfl;have HX:=Hd hx;have HY:=Hd hy;have HB0:=Hd hb0;have H1:=Hd h1;have H2:=Hd h2;have K1:=Hd k1;have K2:=Hd k2;clear hx hy hb0 h1 h2 k1 k2 ha hb
 go_enter Tryz.func102,Tryz.ntmps102
 go_wp2_with fail
 refine(eqInts_same A1 B1 c1 d1 t.bs _ (H1.o.now (Nat.le_refl _) HB0.o) (K1.o.now (Nat.le_refl _) HB0.o) l1).mono ?_;rintro e w1 ⟨rfl,hb1⟩;have hx1:=HX.o.below hb1;have hy1:=HY.o.below hb1;have HB1:=Hd (bT HB0.o hb1);clear q0 q1 hb1;have q0:=hx1.cell_ 1 (v:=.slice A2 t.fs.length c2) rfl;have q1:=hy1.cell_ 1 (v:=.slice B2 t.fs.length d2) rfl;clear hx1 hy1;go_wp2_with fail
 refine(eqFrs_same A2 B2 c2 d2 t.fs _ (H2.o.now (Nat.le_refl _) HB1.o) (K2.o.now (Nat.le_refl _) HB1.o) l2).mono ?_;rintro e w2 ⟨rfl,hb2⟩;have HB2:=Hd (bT HB1.o hb2);clear q0 q1 hb2;go_wp2;go_ret;exact⟨rfl,HB2.o⟩
theorem CacheSame_same(a1 b1:Value)(c:Ca)(w:World)(ha:SlR lnE w a1 c.ls)(hb:SlR lnE w b1 c.ls):
  Calls Tryz.prog 103 #[.agg #[a1,.int .i64 c.hand],.agg #[b1,.int .i64 c.hand]] w fun r w'=>r=.returned (.bool true)∧Below w.heap.size w w':=by
 have l1:=slr_len ha;obtain⟨A1,c1,rfl,_,_,h1⟩:=ha;obtain⟨B1,d1,rfl,_,_,k1⟩:=hb;have H1:=Hd h1;have K1:=Hd k1;clear h1 k1
 go_enter Tryz.func103,Tryz.ntmps103
 go_wp2_with fail
 refine(eqLns_same A1 B1 c1 d1 c.ls _ (H1.o.now (Nat.le_refl _) (bA (bA bR))) (K1.o.now (Nat.le_refl _) (bA (bA bR))) l1).mono ?_;rintro e w1 ⟨rfl,hb1⟩;have HB1:=Hd (bT (bA (bA bR)) hb1);clear hb1;go_wp2;go_ret;exact⟨rfl,HB1.o⟩
theorem TagsSame_same(a1 b1:Value)(g:Tg)(w:World)(ha:SlR owE w a1 g.os)(hb:SlR owE w b1 g.os):
  Calls Tryz.prog 104 #[.agg #[.int .i64 g.count,.int .i64 g.next,.int .i64 g.round,a1],.agg #[.int .i64 g.count,.int .i64 g.next,.int .i64 g.round,b1]] w fun r w'=>r=.returned (.bool true)∧Below w.heap.size w w':=by
 have l1:=slr_len ha;obtain⟨A1,c1,rfl,_,_,h1⟩:=ha;obtain⟨B1,d1,rfl,_,_,k1⟩:=hb;have H1:=Hd h1;have K1:=Hd k1;clear h1 k1
 go_enter Tryz.func104,Tryz.ntmps104
 go_wp2_with fail
 refine(eqOws_same A1 B1 c1 d1 g.os _ (H1.o.now (Nat.le_refl _) (bA (bA bR))) (K1.o.now (Nat.le_refl _) (bA (bA bR))) l1).mono ?_;rintro e w1 ⟨rfl,hb1⟩;have HB1:=Hd (bT (bA (bA bR)) hb1);clear hb1;go_wp2;go_ret;exact⟨rfl,HB1.o⟩
theorem MachineSame_same(a1 a2 a3 a4 b1 b2 b3 b4:Value)(m:Ma)(w:World)(ha:MaR w a1 a2 a3 a4 m)(hb:MaR w b1 b2 b3 b4 m):
  Calls Tryz.prog 55 #[.agg #[a1,a2,a3,.int .i64 m.c.hand,.int .i64 m.g.count,.int .i64 m.g.next,.int .i64 m.g.round,a4,.int .i64 m.sp],.agg #[b1,b2,b3,.int .i64 m.c.hand,.int .i64 m.g.count,.int .i64 m.g.next,.int .i64 m.g.round,b4,.int .i64 m.sp]] w fun r w'=>r=.returned (.bool true)∧Below w.heap.size w w':=by
 have hx:=(Own.new_ w 34 #[a1,a2,a3,.int .i64 m.c.hand,.int .i64 m.g.count,.int .i64 m.g.next,.int .i64 m.g.round,a4,.int .i64 m.sp]).alloc (o:=.cells #[b1,b2,b3,.int .i64 m.c.hand,.int .i64 m.g.count,.int .i64 m.g.next,.int .i64 m.g.round,b4,.int .i64 m.sp] 34);have hy:=ownAt (W:=w.alloc (.cells #[a1,a2,a3,.int .i64 m.c.hand,.int .i64 m.g.count,.int .i64 m.g.next,.int .i64 m.g.round,a4,.int .i64 m.sp] 34)) (g:=w.heap.size+1) (t:=34) (cs:=#[b1,b2,b3,.int .i64 m.c.hand,.int .i64 m.g.count,.int .i64 m.g.next,.int .i64 m.g.round,b4,.int .i64 m.sp]) (by simp);have hb0:Below w.heap.size w ((w.alloc (.cells #[a1,a2,a3,.int .i64 m.c.hand,.int .i64 m.g.count,.int .i64 m.g.next,.int .i64 m.g.round,a4,.int .i64 m.sp] 34)).alloc (.cells #[b1,b2,b3,.int .i64 m.c.hand,.int .i64 m.g.count,.int .i64 m.g.next,.int .i64 m.g.round,b4,.int .i64 m.sp] 34)):=bA (bA bR);obtain⟨A1,c1,rfl,_⟩:=ha.t.b;obtain⟨A2,c2,rfl,_⟩:=ha.t.f;obtain⟨A3,c3,rfl,_⟩:=ha.l;obtain⟨A4,c4,rfl,_⟩:=ha.o;obtain⟨B1,d1,rfl,_⟩:=hb.t.b;obtain⟨B2,d2,rfl,_⟩:=hb.t.f;obtain⟨B3,d3,rfl,_⟩:=hb.l;obtain⟨B4,d4,rfl,_⟩:=hb.o;generalize hW:(w.alloc (.cells #[.slice A1 m.t.bs.length c1,.slice A2 m.t.fs.length c2,.slice A3 m.c.ls.length c3,.int .i64 m.c.hand,.int .i64 m.g.count,.int .i64 m.g.next,.int .i64 m.g.round,.slice A4 m.g.os.length c4,.int .i64 m.sp] 34)).alloc (.cells #[.slice B1 m.t.bs.length d1,.slice B2 m.t.fs.length d2,.slice B3 m.c.ls.length d3,.int .i64 m.c.hand,.int .i64 m.g.count,.int .i64 m.g.next,.int .i64 m.g.round,.slice B4 m.g.os.length d4,.int .i64 m.sp] 34)=W0 at hx hy hb0;obtain⟨p0a,p1a,p2a,p3a,p4a,p5a,p6a,p7a,p8a⟩:=cells9 hx;obtain⟨p0b,p1b,p2b,p3b,p4b,p5b,p6b,p7b,p8b⟩:=cells9 hy;have HX:=Hd hx;have HY:=Hd hy;have HA:=Hd ha;have HB:=Hd hb;have HB0:=Hd hb0;clear hx hy ha hb hb0
 go_enter Tryz.func55,Tryz.ntmps55
 go_wp2_with fail
 refine(TableSame_same _ _ _ _ m.t _ (HA.o.t.now HB0.o) (HB.o.t.now HB0.o)).mono ?_;rintro e w1 ⟨rfl,hb1⟩;clear p0a p1a p2a p3a p4a p5a p6a p7a p8a p0b p1b p2b p3b p4b p5b p6b p7b p8b;have HX1:=Hd (HX.o.below hb1);have HY1:=Hd (HY.o.below hb1);have HB1:=Hd (bT HB0.o hb1);clear hb1;obtain⟨p0a,p1a,p2a,p3a,p4a,p5a,p6a,p7a,p8a⟩:=cells9 HX1.o;obtain⟨p0b,p1b,p2b,p3b,p4b,p5b,p6b,p7b,p8b⟩:=cells9 HY1.o;go_wp2_with fail
 refine(CacheSame_same _ _ m.c _ (HA.o.l.now HB1.o) (HB.o.l.now HB1.o)).mono ?_;rintro e w2 ⟨rfl,hb2⟩;clear p0a p1a p2a p3a p4a p5a p6a p7a p8a p0b p1b p2b p3b p4b p5b p6b p7b p8b;have HX2:=Hd (HX1.o.below hb2);have HY2:=Hd (HY1.o.below hb2);have HB2:=Hd (bT HB1.o hb2);clear hb2;obtain⟨p0a,p1a,p2a,p3a,p4a,p5a,p6a,p7a,p8a⟩:=cells9 HX2.o;obtain⟨p0b,p1b,p2b,p3b,p4b,p5b,p6b,p7b,p8b⟩:=cells9 HY2.o;go_wp2_with fail
 refine(TagsSame_same _ _ m.g _ (HA.o.o.now HB2.o) (HB.o.o.now HB2.o)).mono ?_;rintro e w3 ⟨rfl,hb3⟩;clear p0a p1a p2a p3a p4a p5a p6a p7a p8a p0b p1b p2b p3b p4b p5b p6b p7b p8b;have HX3:=Hd (HX2.o.below hb3);have HY3:=Hd (HY2.o.below hb3);have HB3:=Hd (bT HB2.o hb3);clear hb3;obtain⟨p0a,p1a,p2a,p3a,p4a,p5a,p6a,p7a,p8a⟩:=cells9 HX3.o;obtain⟨p0b,p1b,p2b,p3b,p4b,p5b,p6b,p7b,p8b⟩:=cells9 HY3.o;go_wp2;go_ret;exact⟨rfl,HB3.o⟩
theorem eqBos_same(A B:Option Addr)(c d:Nat)(l:List Bool)(w:World)(ha:Rs boE w.heap.size w A l)(hb:Rs boE w.heap.size w B l)(hl:l.length≤9223372036854775807):
  Calls Tryz.prog 56 #[.slice A l.length c,.slice B l.length d] w fun r w'=>r=.returned (.bool true)∧Below w.heap.size w w':=by
 have HA:=Hd ha;have HB:=Hd hb;clear ha hb
 go_enter Tryz.func56,Tryz.ntmps56
 go_wp2;go_loopw [13] (fun u wr=>∃k:Nat,k≤l.length∧u=.int .i64 k∧Below w.heap.size w wr) (fun u _=>l.length-(intOf u).toNat)
 case atStart=>exact⟨0,by omega,rfl,bR⟩
 case round=>
  obtain⟨k,hk,rfl,hbi⟩:=hrel;have HBI:=Hd hbi;by_cases hlt:k<l.length
  ·obtain⟨x,ex⟩:∃x,l[k]?=some x:=⟨_,List.getElem?_eq_getElem hlt⟩
   obtain⟨b1,o1,rfl,_,d0⟩:=(HA.o.below hbi).b1 ex;obtain⟨b2,o2,rfl,_,e0⟩:=(HB.o.below hbi).b1 ex
   have hne:∀W:World,(x != x)=false:=by
    intro W;first | (have h:=neq_fr x x W;simpa using h) | (have h:=neq_ln x x W;simpa using h) | (have h:=neq_ow x.1 x.2 x.1 x.2 W;simpa[keq]using h) | simp
   clear ex hbi;go_wp2;go_quiet (fail)
   go_wp2;go_roundw;case rel=>exact⟨k+1,by omega,by go_num,bDN HBI.o⟩
   case measure=>simp[intOf];omega
  ·obtain rfl:k=l.length:=by omega
   go_wp2;go_ret;exact⟨rfl,hbi⟩
def chgm(e:TypeId):Prop:=e=139∨e=37
theorem chgm_rd:chgm 139:=.inl rfl
theorem chgm_me:chgm 37:=.inr rfl
theorem chgm_int:¬chgm 3:=by unfold chgm;decide
theorem MeM.chgm{b:Nat}{w w':World}{v1 v2 v3 v4 v5:Value}{M:Me}(h:MeM b w v1 v2 v3 v4 v5 M)(ho:Oth chgm w w'):MeM b w' v1 v2 v3 v4 v5 M:=
 h.oth ho (by unfold Proofs.YtfbnokjdkhcgoaaGreatDoor.chgm;decide) (by unfold Proofs.YtfbnokjdkhcgoaaGreatDoor.chgm;decide) (by unfold Proofs.YtfbnokjdkhcgoaaGreatDoor.chgm;decide) (by unfold Proofs.YtfbnokjdkhcgoaaGreatDoor.chgm;decide) (by unfold Proofs.YtfbnokjdkhcgoaaGreatDoor.chgm;decide)
theorem gstat_q{q:TypeId→Prop}{nums:List Nat}{F:List (Nat×TypeId×Array Value)}{M:World→Prop}{e:SBx}(hn:nums.Nodup)(hF:∀f∈F,f.2.1≠139∧e.box≠f.1)(hM:∀v v',Oth q v v'→M v→M v')(ht:e.ty≠139)(hk:∀cs v v',Oth q v v'→e.new cs v→e.new cs v'):GStat q nums F M [e]:=by
 refine⟨hn,fun f hf=>⟨(hF f hf).1,fun s hs=> ?_⟩,hM,fun s hs=> ?_⟩
 ·rw[List.mem_singleton.1 hs];exact(hF f hf).2
 ·obtain rfl:=List.mem_singleton.1 hs;exact⟨ht,fun s hs _=>by rw[List.mem_singleton.1 hs],fun s hs _=>List.mem_singleton.1 hs,hk⟩
def UPP(w:World)(v:Value)(w':World):Prop:=∃(M:Me) (v1 v2 v3 v4 v5:Value) (p n r:Int),v=.tuple #[.agg #[v1,v2,v3,.int .i64 M.m.c.hand,.int .i64 M.m.g.count,.int .i64 M.m.g.next,.int .i64 M.m.g.round,v4,.int .i64 M.m.sp,v5,.int .i64 M.h],.int .i64 p,.int .i64 n,.int .i64 r]∧MeM w.heap.size w' v1 v2 v3 v4 v5 M∧SzW M∧small p∧small n∧small r∧Below w.heap.size w w'
theorem DrawUsePage_g(A:Option Addr)(n c:Nat)(w:World)(hb:Bytes w.heap.size w A n)(hc:n≤c)(hn:n≤1048576):
  Calls Tryz.prog 13 #[.slice A n c] w (Post2 fun v w'=>UPP w v w'):=by
 obtain⟨W0,hW,hr0,hb0,hs0⟩:=box1 w #[.slice none 0 0,.slice none 0 0,.slice none 0 0,.int .i64 0,.int .i64 0,.int .i64 0,.int .i64 0,.slice none 0 0,.int .i64 0,.slice none 0 0,.int .i64 0] 37;have HR0:=Hd hr0;have HB0:=Hd hb0;have HBY:=Hd hb;have KO:=Hd (l7Case_g A n c W0 ((hb.keep fun q hq=>hb0.cell hq).upM (by omega)) hc hn);clear hr0 hb0 hb
 go_enter Tryz.func13,Tryz.ntmps13
 go_wp2_with fail
 try rw[hW]
 refine KO.o.mono ?_;rintro e w1 ⟨_,rfl,M,v1,v2,v3,v4,v5,rfl,hM,hz,hb1⟩;obtain⟨A1,c1,rfl,_⟩:=hM.m.t.b;obtain⟨A2,c2,rfl,_⟩:=hM.m.t.f;obtain⟨A3,c3,rfl,_⟩:=hM.m.l;obtain⟨A4,c4,rfl,_⟩:=hM.m.o;obtain⟨A5,c5,rfl,_⟩:=id hM.k;obtain⟨w2,hW2,hx2,hb2,hs2⟩:=box1 w1 #[.slice A1 M.m.t.bs.length c1,.slice A2 M.m.t.fs.length c2,.slice A3 M.m.c.ls.length c3,.int .i64 M.m.c.hand,.int .i64 M.m.g.count,.int .i64 M.m.g.next,.int .i64 M.m.g.round,.slice A4 M.m.g.os.length c4,.int .i64 M.m.sp,.slice A5 M.mk.length c5,.int .i64 M.h] 37;have HN2:=Hd ((HR0.o.below hb1).below hb2);have HB2:=Hd (bT (bT HB0.o hb1) hb2);have HM:=Hd ((hM.now hb2).mono (show w.heap.size≤W0.heap.size by omega));have HX:=Hd hx2;have HZ:=Hd hz;have hmb2:w.heap.size+1≤w1.heap.size:=by have:=hb1.size;omega
 clear hM hz hb1 hb2 hx2 HR0 HB0 hW KO;generalize hmb:w1.heap.size=mb at*;have KO:=Hd (l12Open_low w.heap.size A n c w2 (HBY.o.keep fun q hq=>HB2.o.cell hq) (by omega) hc hn);go_wp2_with fail
 try rw[hW2]
 refine KO.o.mono ?_;rintro e w3 ⟨rfl,hrd,hb3⟩
 obtain⟨g,hg⟩:∃g,mb+1=g:=⟨_,rfl⟩
 rw[hs2,hg]at hrd⊢;have HN3:=Hd (HN2.o.below hb3);have HX3:=Hd (HX.o.below hb3);have HM3:=Hd (HM.o.now hb3);have HB3:=Hd (bT HB2.o hb3);have HR3:=Hd hrd;clear HN2 HX HM HB2 KO hrd hb3 hW2;go_wp2
 have hst:GStat chgm [3,6,9] [(mb,37,#[.slice A1 M.m.t.bs.length c1,.slice A2 M.m.t.fs.length c2,.slice A3 M.m.c.ls.length c3,.int .i64 M.m.c.hand,.int .i64 M.m.g.count,.int .i64 M.m.g.next,.int .i64 M.m.g.round,.slice A4 M.m.g.os.length c4,.int .i64 M.m.sp,.slice A5 M.mk.length c5,.int .i64 M.h])] (fun v=>MeM w.heap.size v (.slice A1 M.m.t.bs.length c1) (.slice A2 M.m.t.fs.length c2) (.slice A3 M.m.c.ls.length c3) (.slice A4 M.m.g.os.length c4) (.slice A5 M.mk.length c5) M) [sbE 10 (w.heap.size) 37 #[.slice none 0 0,.slice none 0 0,.slice none 0 0,.int .i64 0,.int .i64 0,.int .i64 0,.int .i64 0,.slice none 0 0,.int .i64 0,.slice none 0 0,.int .i64 0] #[.slice A1 M.m.t.bs.length c1,.slice A2 M.m.t.fs.length c2,.slice A3 M.m.c.ls.length c3,.int .i64 M.m.c.hand,.int .i64 M.m.g.count,.int .i64 M.m.g.next,.int .i64 M.m.g.round,.slice A4 M.m.g.os.length c4,.int .i64 M.m.sp,.slice A5 M.mk.length c5,.int .i64 M.h]]:=by
  refine gstat_q (by decide) ?_ (fun _ _ ho h=>h.chgm ho) (show 37≠139 by decide) (fun _ _ _ _ h=>h)
  ·intro f hf;simp only[List.mem_cons,List.not_mem_nil,or_false]at hf;subst hf
   ·exact⟨show 37≠139 by decide,show w.heap.size≠mb by omega⟩
 refine wp_region_rel4 (by kernel_rfl) [12,13,14,15,16,17,18,19,20,21,3,4,5] [[12],[13],[14],[15],[16],[17],[18],[19],[20],[21],[],[3],[4],[5]] (GC (w.heap.size) w [(g,0)] [3,6,9] [(mb,37,#[.slice A1 M.m.t.bs.length c1,.slice A2 M.m.t.fs.length c2,.slice A3 M.m.c.ls.length c3,.int .i64 M.m.c.hand,.int .i64 M.m.g.count,.int .i64 M.m.g.next,.int .i64 M.m.g.round,.slice A4 M.m.g.os.length c4,.int .i64 M.m.sp,.slice A5 M.mk.length c5,.int .i64 M.h])] (fun v=>MeM w.heap.size v (.slice A1 M.m.t.bs.length c1) (.slice A2 M.m.t.fs.length c2) (.slice A3 M.m.c.ls.length c3) (.slice A4 M.m.g.os.length c4) (.slice A5 M.mk.length c5) M) [sbE 10 (w.heap.size) 37 #[.slice none 0 0,.slice none 0 0,.slice none 0 0,.int .i64 0,.int .i64 0,.int .i64 0,.int .i64 0,.slice none 0 0,.int .i64 0,.slice none 0 0,.int .i64 0] #[.slice A1 M.m.t.bs.length c1,.slice A2 M.m.t.fs.length c2,.slice A3 M.m.c.ls.length c3,.int .i64 M.m.c.hand,.int .i64 M.m.g.count,.int .i64 M.m.g.next,.int .i64 M.m.g.round,.slice A4 M.m.g.os.length c4,.int .i64 M.m.sp,.slice A5 M.mk.length c5,.int .i64 M.h]]) (kgs (q:=chgm) (B:=w.heap.size) (nums:=[3,6,9]) (S:=[sbE 10 (w.heap.size) 37 #[.slice none 0 0,.slice none 0 0,.slice none 0 0,.int .i64 0,.int .i64 0,.int .i64 0,.int .i64 0,.slice none 0 0,.int .i64 0,.slice none 0 0,.int .i64 0] #[.slice A1 M.m.t.bs.length c1,.slice A2 M.m.t.fs.length c2,.slice A3 M.m.c.ls.length c3,.int .i64 M.m.c.hand,.int .i64 M.m.g.count,.int .i64 M.m.g.next,.int .i64 M.m.g.round,.slice A4 M.m.g.os.length c4,.int .i64 M.m.sp,.slice A5 M.mk.length c5,.int .i64 M.h]]) [KG.eq 12 (.agg #[.slice A1 M.m.t.bs.length c1,.slice A2 M.m.t.fs.length c2,.slice A3 M.m.c.ls.length c3,.int .i64 M.m.c.hand,.int .i64 M.m.g.count,.int .i64 M.m.g.next,.int .i64 M.m.g.round,.slice A4 M.m.g.os.length c4,.int .i64 M.m.sp,.slice A5 M.mk.length c5,.int .i64 M.h]),KG.eq 13 (.pointer (some ⟨g,0,none⟩)),KG.lit chgm_int 14 #[.int .i64 1,.int .i64 2,.int .i64 3,.int .i64 9,.int .i64 10,.int .i64 200,.int .i64 202,.int .i64 256] 8,KG.sat 15 (isIn [1,2,3,9,10,200,202,256]),KG.eq 16 (.pointer (some ⟨g,0,none⟩)),KG.lit chgm_int 17 #[.int .i64 1,.int .i64 0,.int .i64 2,.int .i64 8] 4,KG.sat 18 (isIn [1,0,2,8]),KG.eq 19 (.pointer (some ⟨g,0,none⟩)),KG.lit chgm_int 20 #[.int .i64 3,.int .i64 1,.int .i64 7,.int .i64 8] 4,KG.sat 21 (isIn [3,1,7,8]),KG.no,KG.sat 3 (isIn [1,2,3,9,10,200,202,256]),KG.sat 4 (isIn [1,0,2,8]),KG.sat 5 (isIn [3,1,7,8])]) (gtt chgm (w.heap.size) [3,6,9] [sbE 10 (w.heap.size) 37 #[.slice none 0 0,.slice none 0 0,.slice none 0 0,.int .i64 0,.int .i64 0,.int .i64 0,.int .i64 0,.slice none 0 0,.int .i64 0,.slice none 0 0,.int .i64 0] #[.slice A1 M.m.t.bs.length c1,.slice A2 M.m.t.fs.length c2,.slice A3 M.m.c.ls.length c3,.int .i64 M.m.c.hand,.int .i64 M.m.g.count,.int .i64 M.m.g.next,.int .i64 M.m.g.round,.slice A4 M.m.g.os.length c4,.int .i64 M.m.sp,.slice A5 M.mk.length c5,.int .i64 M.h]]) (by kernel_rfl) ?_ (kgs_loc (q:=chgm) (B:=w.heap.size) (nums:=[3,6,9]) (S:=[sbE 10 (w.heap.size) 37 #[.slice none 0 0,.slice none 0 0,.slice none 0 0,.int .i64 0,.int .i64 0,.int .i64 0,.int .i64 0,.slice none 0 0,.int .i64 0,.slice none 0 0,.int .i64 0] #[.slice A1 M.m.t.bs.length c1,.slice A2 M.m.t.fs.length c2,.slice A3 M.m.c.ls.length c3,.int .i64 M.m.c.hand,.int .i64 M.m.g.count,.int .i64 M.m.g.next,.int .i64 M.m.g.round,.slice A4 M.m.g.os.length c4,.int .i64 M.m.sp,.slice A5 M.mk.length c5,.int .i64 M.h]]) (ks:=[KG.eq 12 (.agg #[.slice A1 M.m.t.bs.length c1,.slice A2 M.m.t.fs.length c2,.slice A3 M.m.c.ls.length c3,.int .i64 M.m.c.hand,.int .i64 M.m.g.count,.int .i64 M.m.g.next,.int .i64 M.m.g.round,.slice A4 M.m.g.os.length c4,.int .i64 M.m.sp,.slice A5 M.mk.length c5,.int .i64 M.h]),KG.eq 13 (.pointer (some ⟨g,0,none⟩)),KG.lit chgm_int 14 #[.int .i64 1,.int .i64 2,.int .i64 3,.int .i64 9,.int .i64 10,.int .i64 200,.int .i64 202,.int .i64 256] 8,KG.sat 15 (isIn [1,2,3,9,10,200,202,256]),KG.eq 16 (.pointer (some ⟨g,0,none⟩)),KG.lit chgm_int 17 #[.int .i64 1,.int .i64 0,.int .i64 2,.int .i64 8] 4,KG.sat 18 (isIn [1,0,2,8]),KG.eq 19 (.pointer (some ⟨g,0,none⟩)),KG.lit chgm_int 20 #[.int .i64 3,.int .i64 1,.int .i64 7,.int .i64 8] 4,KG.sat 21 (isIn [3,1,7,8]),KG.no,KG.sat 3 (isIn [1,2,3,9,10,200,202,256]),KG.sat 4 (isIn [1,0,2,8]),KG.sat 5 (isIn [3,1,7,8])])) kgs_keep ?_ ?_
 ·exact⟨bD HB3.o,(by intro e he;simp only[List.mem_cons,List.not_mem_nil,or_false]at he;subst he;exact⟨0,by omega,rdr_below HR3.o (bD bR)⟩),(by intro e he;simp only[List.mem_cons,List.not_mem_nil,or_false]at he;subst he;exact HX3.o.drew),(HM3.o.now (bD bR)),(by intro e he;simp only[List.mem_cons,List.not_mem_nil,or_false]at he;subst he;exact⟨_,HN3.o.drew,fun _=>rfl,fun h=>absurd h (by decide)⟩)⟩
 ·intro i o ho D x v hD hC hd K hK
  match i,ho with
  | 0,ho=>
   cases ho;simp only[fillA,Act.put,sA9,sB9,sC9]at hK⊢;have hx:Own v (mb) 37 #[.slice A1 M.m.t.bs.length c1,.slice A2 M.m.t.fs.length c2,.slice A3 M.m.c.ls.length c3,.int .i64 M.m.c.hand,.int .i64 M.m.g.count,.int .i64 M.m.g.next,.int .i64 M.m.g.round,.slice A4 M.m.g.os.length c4,.int .i64 M.m.sp,.slice A5 M.mk.length c5,.int .i64 M.h]:=hC.ob _ List.mem_cons_self;obtain⟨q0z,q1z,q2z,q3z,q4z,q5z,q6z,q7z,q8z,q9z,q10z⟩:=c11 hx;go_simp;exact hK _ _ GT.same (hC.step hst hD GT.same rfl) rfl
  | 1,ho=>
   cases ho;simp only[fillA,Act.put,sA9,sB9,sC9]at hK⊢;go_simp;exact hK _ _ GT.same (hC.step hst hD GT.same rfl) rfl
  | 2,ho=>
   cases ho;simp only[fillA,Act.put,sA9,sB9,sC9]at hK⊢;go_simp;exact hK _ _ (GT.below (bA bR) hC.bl.size) (hC.step hst hD (GT.below (bA bR) hC.bl.size) rfl) ⟨_,rfl,Own.new_ _ _ _⟩
  | 3,ho=>
   cases ho;simp only[fillA,Act.put,sA9,sB9,sC9]at hK⊢;have d0:=hd 1 ⟨⟨1,.data⟩,by simp,rfl,rfl⟩;change x 13=.pointer (some ⟨g,0,none⟩)at d0;have d1:=hd 2 ⟨⟨2,.data⟩,by simp,rfl,rfl⟩;obtain⟨gd1,d1,od1⟩:=d1;change x 14=.slice (some ⟨gd1,0,none⟩) 8 8 at d1;simp only[d0,d1]at hK⊢;obtain⟨p',hp'',hrd⟩:=hC.rd (g,0) List.mem_cons_self;have hp':p'≤0+1000*cn D [3,6,9]:=hp'';have hcn:cn D [3,6,9]≤3:=cn_le D _;obtain⟨Ar,nr,cr,hor,_⟩:=hrd.ok;go_wp2_with fail
   refine(num_any w.heap.size g p' gd1 [1,2,3,9,10,200,202,256] v hrd od1 (od1.ne hor (by decide)) (by omega) (by simp) (by simp)).mono ?_;rintro e v' ⟨z,rfl,hz,hrd',hgr⟩;go_simp;exact hK _ _ (GT.read chgm_rd hrd hrd' (by omega) hgr) (hC.step hst hD (GT.read chgm_rd hrd hrd' (by omega) hgr) rfl) ⟨z,rfl,hz⟩
  | 4,ho=>
   cases ho;simp only[fillA,Act.put,sA9,sB9,sC9]at hK⊢;go_simp;exact hK _ _ GT.same (hC.step hst hD GT.same rfl) rfl
  | 5,ho=>
   cases ho;simp only[fillA,Act.put,sA9,sB9,sC9]at hK⊢;go_simp;exact hK _ _ (GT.below (bA bR) hC.bl.size) (hC.step hst hD (GT.below (bA bR) hC.bl.size) rfl) ⟨_,rfl,Own.new_ _ _ _⟩
  | 6,ho=>
   cases ho;simp only[fillA,Act.put,sA9,sB9,sC9]at hK⊢;have d0:=hd 4 ⟨⟨4,.data⟩,by simp,rfl,rfl⟩;change x 16=.pointer (some ⟨g,0,none⟩)at d0;have d1:=hd 5 ⟨⟨5,.data⟩,by simp,rfl,rfl⟩;obtain⟨gd1,d1,od1⟩:=d1;change x 17=.slice (some ⟨gd1,0,none⟩) 4 4 at d1;simp only[d0,d1]at hK⊢;obtain⟨p',hp'',hrd⟩:=hC.rd (g,0) List.mem_cons_self;have hp':p'≤0+1000*cn D [3,6,9]:=hp'';have hcn:cn D [3,6,9]≤3:=cn_le D _;obtain⟨Ar,nr,cr,hor,_⟩:=hrd.ok;go_wp2_with fail
   refine(num_any w.heap.size g p' gd1 [1,0,2,8] v hrd od1 (od1.ne hor (by decide)) (by omega) (by simp) (by simp)).mono ?_;rintro e v' ⟨z,rfl,hz,hrd',hgr⟩;go_simp;exact hK _ _ (GT.read chgm_rd hrd hrd' (by omega) hgr) (hC.step hst hD (GT.read chgm_rd hrd hrd' (by omega) hgr) rfl) ⟨z,rfl,hz⟩
  | 7,ho=>
   cases ho;simp only[fillA,Act.put,sA9,sB9,sC9]at hK⊢;go_simp;exact hK _ _ GT.same (hC.step hst hD GT.same rfl) rfl
  | 8,ho=>
   cases ho;simp only[fillA,Act.put,sA9,sB9,sC9]at hK⊢;go_simp;exact hK _ _ (GT.below (bA bR) hC.bl.size) (hC.step hst hD (GT.below (bA bR) hC.bl.size) rfl) ⟨_,rfl,Own.new_ _ _ _⟩
  | 9,ho=>
   cases ho;simp only[fillA,Act.put,sA9,sB9,sC9]at hK⊢;have d0:=hd 7 ⟨⟨7,.data⟩,by simp,rfl,rfl⟩;change x 19=.pointer (some ⟨g,0,none⟩)at d0;have d1:=hd 8 ⟨⟨8,.data⟩,by simp,rfl,rfl⟩;obtain⟨gd1,d1,od1⟩:=d1;change x 20=.slice (some ⟨gd1,0,none⟩) 4 4 at d1;simp only[d0,d1]at hK⊢;obtain⟨p',hp'',hrd⟩:=hC.rd (g,0) List.mem_cons_self;have hp':p'≤0+1000*cn D [3,6,9]:=hp'';have hcn:cn D [3,6,9]≤3:=cn_le D _;obtain⟨Ar,nr,cr,hor,_⟩:=hrd.ok;go_wp2_with fail
   refine(num_any w.heap.size g p' gd1 [3,1,7,8] v hrd od1 (od1.ne hor (by decide)) (by omega) (by simp) (by simp)).mono ?_;rintro e v' ⟨z,rfl,hz,hrd',hgr⟩;go_simp;exact hK _ _ (GT.read chgm_rd hrd hrd' (by omega) hgr) (hC.step hst hD (GT.read chgm_rd hrd hrd' (by omega) hgr) rfl) ⟨z,rfl,hz⟩
  | 10,ho=>
   cases ho;simp only[fillA,Act.put,sA9,sB9,sC9]at hK⊢;have d0:=hd 0 ⟨⟨0,.data⟩,by simp,rfl,rfl⟩;change x 12=.agg #[.slice A1 M.m.t.bs.length c1,.slice A2 M.m.t.fs.length c2,.slice A3 M.m.c.ls.length c3,.int .i64 M.m.c.hand,.int .i64 M.m.g.count,.int .i64 M.m.g.next,.int .i64 M.m.g.round,.slice A4 M.m.g.os.length c4,.int .i64 M.m.sp,.slice A5 M.mk.length c5,.int .i64 M.h]at d0;obtain⟨cs,hob,hold,_⟩:=hC.st (sbE 10 (w.heap.size) 37 #[.slice none 0 0,.slice none 0 0,.slice none 0 0,.int .i64 0,.int .i64 0,.int .i64 0,.int .i64 0,.slice none 0 0,.int .i64 0,.slice none 0 0,.int .i64 0] #[.slice A1 M.m.t.bs.length c1,.slice A2 M.m.t.fs.length c2,.slice A3 M.m.c.ls.length c3,.int .i64 M.m.c.hand,.int .i64 M.m.g.count,.int .i64 M.m.g.next,.int .i64 M.m.g.round,.slice A4 M.m.g.os.length c4,.int .i64 M.m.sp,.slice A5 M.mk.length c5,.int .i64 M.h]) List.mem_cons_self;obtain rfl:=hold hD;change Own v (w.heap.size) 37 #[.slice none 0 0,.slice none 0 0,.slice none 0 0,.int .i64 0,.int .i64 0,.int .i64 0,.int .i64 0,.slice none 0 0,.int .i64 0,.slice none 0 0,.int .i64 0]at hob;obtain⟨q0y,q1y,q2y,q3y,q4y,q5y,q6y,q7y,q8y,q9y,q10y⟩:=c11 hob;obtain⟨z0y,z1y,z2y,z3y,z4y,z5y,z6y,z7y,z8y,z9y,z10y⟩:=f11 hob;have hlo:=hob.lt;simp only[d0]at hK⊢;go_simp;have hGT:GT chgm (w.heap.size) (some w.heap.size) 0 v (sets w.heap.size 0 [.slice A1 M.m.t.bs.length c1,.slice A2 M.m.t.fs.length c2,.slice A3 M.m.c.ls.length c3,.int .i64 M.m.c.hand,.int .i64 M.m.g.count,.int .i64 M.m.g.next,.int .i64 M.m.g.round,.slice A4 M.m.g.os.length c4,.int .i64 M.m.sp,.slice A5 M.mk.length c5,.int .i64 M.h] v):=GT.sets chgm_me (by decide) (Nat.le_refl _) hob;exact hK undef _ hGT (hC.store (e0:=sbE 10 (w.heap.size) 37 #[.slice none 0 0,.slice none 0 0,.slice none 0 0,.int .i64 0,.int .i64 0,.int .i64 0,.int .i64 0,.slice none 0 0,.int .i64 0,.slice none 0 0,.int .i64 0] #[.slice A1 M.m.t.bs.length c1,.slice A2 M.m.t.fs.length c2,.slice A3 M.m.c.ls.length c3,.int .i64 M.m.c.hand,.int .i64 M.m.g.count,.int .i64 M.m.g.next,.int .i64 M.m.g.round,.slice A4 M.m.g.os.length c4,.int .i64 M.m.sp,.slice A5 M.mk.length c5,.int .i64 M.h]) hst hD hGT List.mem_cons_self rfl (set11 hob _ _ _ _ _ _ _ _ _ _ _) rfl) trivial
  | 11,ho=>
   cases ho;simp only[fillA,Act.put,sA9,sB9,sC9]at hK⊢;have d0:=hd 3 ⟨⟨3,.data⟩,by simp,rfl,rfl⟩;obtain⟨nd0,d0,hd0⟩:=d0;change x 15=.int .i64 nd0 at d0;simp only[d0]at hK⊢;go_simp;exact hK _ _ GT.same (hC.step hst hD GT.same rfl) ⟨_,rfl,hd0⟩
  | 12,ho=>
   cases ho;simp only[fillA,Act.put,sA9,sB9,sC9]at hK⊢;have d0:=hd 6 ⟨⟨6,.data⟩,by simp,rfl,rfl⟩;obtain⟨nd0,d0,hd0⟩:=d0;change x 18=.int .i64 nd0 at d0;simp only[d0]at hK⊢;go_simp;exact hK _ _ GT.same (hC.step hst hD GT.same rfl) ⟨_,rfl,hd0⟩
  | 13,ho=>
   cases ho;simp only[fillA,Act.put,sA9,sB9,sC9]at hK⊢;have d0:=hd 9 ⟨⟨9,.data⟩,by simp,rfl,rfl⟩;obtain⟨nd0,d0,hd0⟩:=d0;change x 21=.int .i64 nd0 at d0;simp only[d0]at hK⊢;go_simp;exact hK _ _ GT.same (hC.step hst hD GT.same rfl) ⟨_,rfl,hd0⟩
  | _+14,ho=>simp at ho
 intro D xa wz hD hC hd;obtain⟨cs0,ho0,_,hn0⟩:=hC.st (sbE 10 (w.heap.size) 37 #[.slice none 0 0,.slice none 0 0,.slice none 0 0,.int .i64 0,.int .i64 0,.int .i64 0,.int .i64 0,.slice none 0 0,.int .i64 0,.slice none 0 0,.int .i64 0] #[.slice A1 M.m.t.bs.length c1,.slice A2 M.m.t.fs.length c2,.slice A3 M.m.c.ls.length c3,.int .i64 M.m.c.hand,.int .i64 M.m.g.count,.int .i64 M.m.g.next,.int .i64 M.m.g.round,.slice A4 M.m.g.os.length c4,.int .i64 M.m.sp,.slice A5 M.mk.length c5,.int .i64 M.h]) List.mem_cons_self;have hn0:=hn0 (hD 10 (by decide));change Own wz (w.heap.size) 37 cs0 at ho0;change cs0=#[.slice A1 M.m.t.bs.length c1,.slice A2 M.m.t.fs.length c2,.slice A3 M.m.c.ls.length c3,.int .i64 M.m.c.hand,.int .i64 M.m.g.count,.int .i64 M.m.g.next,.int .i64 M.m.g.round,.slice A4 M.m.g.os.length c4,.int .i64 M.m.sp,.slice A5 M.mk.length c5,.int .i64 M.h]at hn0;subst hn0;have dA3:=hd 11 (by decide);obtain⟨r3,dA3,hr3⟩:=dA3;change xa 3=.int .i64 r3 at dA3;have dA4:=hd 12 (by decide);obtain⟨r4,dA4,hr4⟩:=dA4;change xa 4=.int .i64 r4 at dA4;have dA5:=hd 13 (by decide);obtain⟨r5,dA5,hr5⟩:=dA5;change xa 5=.int .i64 r5 at dA5;simp only[fillA,Act.put,sA9,sB9,sC9,dA3,dA4,dA5];have HBL:=Hd hC.bl;have HMM:=Hd hC.mm;clear hd hD dA3 dA4 dA5;obtain⟨q0t,q1t,q2t,q3t,q4t,q5t,q6t,q7t,q8t,q9t,q10t⟩:=c11 ho0;clear ho0 hC;go_wp2;refine bodyPost_ret (v:=.tuple #[.agg #[.slice A1 M.m.t.bs.length c1,.slice A2 M.m.t.fs.length c2,.slice A3 M.m.c.ls.length c3,.int .i64 M.m.c.hand,.int .i64 M.m.g.count,.int .i64 M.m.g.next,.int .i64 M.m.g.round,.slice A4 M.m.g.os.length c4,.int .i64 M.m.sp,.slice A5 M.mk.length c5,.int .i64 M.h],.int .i64 r3,.int .i64 r4,.int .i64 r5]) (by simp[results,Tryz.results13,go_sem,q0t,q1t,q2t,q3t,q4t,q5t,q6t,q7t,q8t,q9t,q10t]) rfl ⟨_,rfl,M,_,_,_,_,_,r3,r4,r5,rfl,HMM.o,HZ.o,isIn_small (by decide) hr3,isIn_small (by decide) hr4,isIn_small (by decide) hr5,HBL.o⟩
theorem box2x(w:World)(c1:Array Value)(t1:TypeId)(c2:Array Value)(t2:TypeId):∃W,(w.alloc (.cells c1 t1)).alloc (.cells c2 t2)=W∧Own W w.heap.size t1 c1∧Own W (w.heap.size+1) t2 c2∧Below w.heap.size w W:=
 ⟨_,rfl,(Own.new_ w t1 c1).alloc,ownAt (by simp),bA (bA bR)⟩
theorem slr_rsB{n c:Nat}{w:World}{A:Option Addr}{l:List Bool}(h:SlR boE w (.slice A n c) l):Rs boE w.heap.size w A l:=by
 obtain⟨A',c',e,_,_,h⟩:=h;injection e with e _ _;rw[e];exact h
theorem MemorySame_same(a1 a2 a3 a4 a5 b1 b2 b3 b4 b5:Value)(M:Me)(w:World)(ha:MeR w a1 a2 a3 a4 a5 M)(hb:MeR w b1 b2 b3 b4 b5 M):
  Calls Tryz.prog 15 #[.agg #[a1,a2,a3,.int .i64 M.m.c.hand,.int .i64 M.m.g.count,.int .i64 M.m.g.next,.int .i64 M.m.g.round,a4,.int .i64 M.m.sp,a5,.int .i64 M.h],.agg #[b1,b2,b3,.int .i64 M.m.c.hand,.int .i64 M.m.g.count,.int .i64 M.m.g.next,.int .i64 M.m.g.round,b4,.int .i64 M.m.sp,b5,.int .i64 M.h]] w fun r w'=>r=.returned (.bool true)∧Below w.heap.size w w':=by
 obtain⟨A5,c5,rfl,_,hl5,hA5⟩:=id ha.k;obtain⟨B5,d5,rfl,_,_,hB5⟩:=id hb.k;obtain⟨W0,hW,hx,hy,hb0⟩:=box2x w #[a1,a2,a3,.int .i64 M.m.c.hand,.int .i64 M.m.g.count,.int .i64 M.m.g.next,.int .i64 M.m.g.round,a4,.int .i64 M.m.sp,.slice A5 M.mk.length c5,.int .i64 M.h] 37 #[b1,b2,b3,.int .i64 M.m.c.hand,.int .i64 M.m.g.count,.int .i64 M.m.g.next,.int .i64 M.m.g.round,b4,.int .i64 M.m.sp,.slice B5 M.mk.length d5,.int .i64 M.h] 37;have HX:=Hd hx;have HY:=Hd hy;have HA:=Hd ha;have HB:=Hd hb;have HB0:=Hd hb0;have hlen:=slr_len ha.k;clear hx hy ha hb hb0 hA5 hB5;obtain⟨q0a,q1a,q2a,q3a,q4a,q5a,q6a,q7a,q8a,q9a,q10a⟩:=c11 HX.o;obtain⟨q0b,q1b,q2b,q3b,q4b,q5b,q6b,q7b,q8b,q9b,q10b⟩:=c11 HY.o
 go_enter Tryz.func15,Tryz.ntmps15
 go_wp2_with fail
 refine(MachineSame_same _ _ _ _ _ _ _ _ M.m _ (HA.o.m.now HB0.o) (HB.o.m.now HB0.o)).mono ?_;rintro e w1 ⟨rfl,hb1⟩;have HX1:=Hd (HX.o.below hb1);have HY1:=Hd (HY.o.below hb1);have HB1:=Hd (bT HB0.o hb1);clear hb1 HX HY HB0 hW;clear q0a q1a q2a q3a q4a q5a q6a q7a q8a q9a q10a;clear q0b q1b q2b q3b q4b q5b q6b q7b q8b q9b q10b;obtain⟨q0a,q1a,q2a,q3a,q4a,q5a,q6a,q7a,q8a,q9a,q10a⟩:=c11 HX1.o;obtain⟨q0b,q1b,q2b,q3b,q4b,q5b,q6b,q7b,q8b,q9b,q10b⟩:=c11 HY1.o;go_wp2_with fail
 refine(eqBos_same A5 B5 c5 d5 M.mk w1 (slr_rsB (HA.o.k.now HB1.o)) (slr_rsB (HB.o.k.now HB1.o)) hlen).mono ?_;rintro e w2 ⟨rfl,hb2⟩;clear q0a q1a q2a q3a q4a q5a q6a q7a q8a q9a q10a;clear q0b q1b q2b q3b q4b q5b q6b q7b q8b q9b q10b;have HX2:=Hd (HX1.o.below hb2);have HY2:=Hd (HY1.o.below hb2);have HB2:=Hd (bT HB1.o hb2);clear hb2 HX1 HY1 HB1;obtain⟨q0a,q1a,q2a,q3a,q4a,q5a,q6a,q7a,q8a,q9a,q10a⟩:=c11 HX2.o;obtain⟨q0b,q1b,q2b,q3b,q4b,q5b,q6b,q7b,q8b,q9b,q10b⟩:=c11 HY2.o;go_wp2;go_ret;exact⟨rfl,HB2.o⟩
end Go.Proofs.YtfbnokjdkhcgoaaGreatDoor
