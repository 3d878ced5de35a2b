/- A part of the proofs of this seat. -/
import Derived.Deep.CutRange
import Derived.StillTailTactics
import Derived.Test.YtfbnokjdkhcgoaaGreatDoorCCp3
set_option linter.unusedVariables false
set_option linter.unusedSimpArgs false
set_option maxRecDepth 1000000
set_option maxHeartbeats 16000000
namespace Go.Proofs.YtfbnokjdkhcgoaaGreatDoor
open Go.RowKit
def wfit(i:Int)(x:Ln):Bool:=x.w && decide (x.f=i)
theorem pix_any{α:Type}(p:α→Bool)(l:List α):l.any p=decide (0≤pix p l):=by
 unfold pix
 cases h:l.findIdx? p with
 | none=>
  rw[List.findIdx?_eq_none_iff]at h;simp;exact h
 | some i=>
  obtain⟨hi,h1,_⟩:=List.findIdx?_eq_some_iff_getElem.1 h;have:l.any p=true:=List.any_eq_true.2 ⟨_,List.getElem_mem hi,h1⟩;rw[this];simp
theorem wir_pix(ls:List Ln)(i:Int):wirA ls i=decide (0≤pix (wfit i) ls):=pix_any _ _
theorem fv1_any(x:Ln)(g:Nat)(i:Int)(w:World)(hg:g<w.heap.size)(h0:w.cell? ⟨g,0,none⟩=some (.int .i64 i)):
  Calls Tryz.prog 83 #[.agg #[.bool x.v,.int .i64 x.t,.int .i64 x.p,.int .i64 x.f,.int .i64 x.r,.bool x.w],.pointer (some ⟨g,0,none⟩)] w fun r w'=>r=.returned (.bool (wfit i x))∧Below w.heap.size w w':=by
 cases hw:x.w with
 | false=>
  have H:Hi (wfit i x=false):=by simp[Hi,wfit,hw]
  go_enter Tryz.func83,Tryz.ntmps83
  go_wp2;go_ret;exact⟨by rw[H.o];rfl,bA bR⟩
 | true=>
  have H:Hi (wfit i x=(x.f == i)):=by
   show _=_;unfold wfit;rw[hw,Bool.true_and];by_cases h:x.f=i<;>simp[h]
  go_enter Tryz.func83,Tryz.ntmps83
  go_wp2;go_ret;exact⟨by rw[H.o];rfl,bA bR⟩
theorem indexWi_any(A:Option Addr)(c:Nat)(l:List Ln)(g:Nat)(i:Int)(w:World)(h:Rs lnE w.heap.size w A l)(hl:l.length≤9223372036854775807)
  (hg:g<w.heap.size) (h0:w.cell? ⟨g,0,none⟩=some (.int .i64 i)):
  Calls Tryz.prog 150 #[.slice A l.length c,.func (.func 83) #[] #[.pointer (some ⟨g,0,none⟩)]] w fun r w'=>r=.returned (.int .i64 (pix (wfit i) l))∧Below w.heap.size w w':=by
 go_enter Tryz.func150,Tryz.ntmps150
 go_wp2;go_loopw [5,8] (fun _ ii wr=>∃k:Nat,k≤l.length∧ii=.int .i64 k∧Below w.heap.size w wr∧Hi (∀(j:Nat) (b:_),j<k→l[j]?=some b→(wfit i) b=false)) (fun _ ii _=>l.length-(intOf ii).toNat)
 case atStart=>exact⟨0,by omega,rfl,bR,fun j b hj=>by omega⟩
 case round=>
  obtain⟨k,hk,rfl,hb,hall⟩:=hrel;by_cases hlt:k<l.length
  ·obtain⟨a,ea⟩:∃a,l[k]?=some a:=⟨_,List.getElem?_eq_getElem hlt⟩
   obtain⟨b,o,rfl,hbb,d0,d1,d2,d3,d4,d5⟩:=(h.below hb).ln ea;have k0:=(hb.cell (p:=⟨g,0,none⟩) hg).trans h0;go_wp2_with fail
   refine(fv1_any a g i _ (Nat.lt_of_lt_of_le hg hb.size) k0).mono ?_;rintro e w1 ⟨rfl,hb1⟩
   cases hv:(wfit i) a with
   | true=>
    have H:Hi (pix (wfit i) l=k):=pix_at ea hall.o hv;clear ea;go_wp2;go_ret;exact⟨by rw[H.o];rfl,bT hb hb1⟩
   | false=>
    have H:=Hd (pix_step ea hall.o hv);clear ea;go_wp2;go_roundw;case rel=>exact⟨k+1,by omega,by go_num,bT hb hb1,H⟩
    case measure=>simp[intOf];omega
  ·have H:Hi (pix (wfit i) l=-1):=pix_none (Nat.le_of_not_lt hlt) hall.o;go_wp2;go_ret;exact⟨by rw[H.o];rfl,hb⟩
theorem containsWi_any(A:Option Addr)(c:Nat)(l:List Ln)(g:Nat)(i:Int)(w:World)(h:Rs lnE w.heap.size w A l)(hl:l.length≤9223372036854775807)
  (hg:g<w.heap.size) (h0:w.cell? ⟨g,0,none⟩=some (.int .i64 i)):
  Calls Tryz.prog 82 #[.slice A l.length c,.func (.func 83) #[] #[.pointer (some ⟨g,0,none⟩)]] w fun r w'=>r=.returned (.bool (wirA l i))∧Below w.heap.size w w':=by
 go_enter Tryz.func82,Tryz.ntmps82
 go_wp2_with fail
 refine(indexWi_any A c l g i _ h hl hg h0).mono ?_;rintro e w1 ⟨rfl,hb1⟩;have H:Hi (wirA l i=decide (0≤pix (wfit i) l)):=wir_pix l i;go_wp2;go_ret;exact⟨by rw[H.o];rfl,hb1⟩
structure Ck(w:World)(G g5:Nat)(S1 S2 S3 S4:Value)(c5:Nat)(m:Ma)(n:Nat)(mk:List Bool)(h:Int)(v:World):Prop where
 of::
 ob:Own v G 37 #[S1,S2,S3,.int .i64 m.c.hand,.int .i64 m.g.count,.int .i64 m.g.next,.int .i64 m.g.round,S4,.int .i64 m.sp,.slice (some ⟨g5,0,none⟩) n c5,.int .i64 h]
 mm:MaM (w.heap.size+2) v S1 S2 S3 S4 m
 mk:MineE boE 4 (w.heap.size+2) v (some ⟨g5,0,none⟩) mk
 rb:Own v (w.heap.size+1) 37 #[.slice none 0 0,.slice none 0 0,.slice none 0 0,.int .i64 0,.int .i64 0,.int .i64 0,.int .i64 0,.slice none 0 0,.int .i64 0,.slice none 0 0,.int .i64 0]
 bl:Below w.heap.size w v
section
variable {w : World} {G g5 : Nat} {S1 S2 S3 S4 : Value} {c5 : Nat} {m : Ma} {n : Nat} {mk : List Bool} {h : Int} {v v' : World}
theorem Ck.below(k:Ck w G g5 S1 S2 S3 S4 c5 m n mk h v)(hb:Below v.heap.size v v'):Ck w G g5 S1 S2 S3 S4 c5 m n mk h v':=
 ⟨k.ob.below hb,k.mm.now hb,k.mk.below hb,k.rb.below hb,bT k.bl hb⟩
theorem Ck.hand(k:Ck w G g5 S1 S2 S3 S4 c5 m n mk h v)(hG:w.heap.size+2≤G)(h':Int):∃W,v.setCell ⟨G,10,none⟩ (.int .i64 h')=W∧Ck w G g5 S1 S2 S3 S4 c5 m n mk h' W∧W.heap.size=v.heap.size∧∀(g':Nat) (t':TypeId) (cs:Array Value),g'≠G→Own v g' t' cs→Own W g' t' cs:=by
 obtain⟨W,e,h1,h2,h3,h4,h5⟩:=put1_10 k.ob (.int .i64 h');exact⟨W,e,⟨h1,k.mm.othm h2,k.mk.oth h2 (by decide),h4 _ _ _ (by omega) k.rb,h5 w (by omega) k.bl⟩,h3,h4⟩
theorem Ck.mark(k:Ck w G g5 S1 S2 S3 S4 c5 m n mk h v){i:Nat}{x:Bool}(hk:mk[i]?=some x)(b:Bool):∃W,v.setCell ⟨g5,i,none⟩ (.bool b)=W∧Ck w G g5 S1 S2 S3 S4 c5 m n (mk.set i b) h W∧W.heap.size=v.heap.size:=by
 obtain⟨g,cs,e,hg,ho,hs⟩:=k.mk.own (by have:=(List.getElem?_eq_some_iff.1 hk).1;omega);injection e with e;injection e with e1 _ _;subst e1;have h1:=(stS_set (n:=cs.size) (i:=i) (u:=.bool b) ho).1;exact⟨_,rfl,⟨k.ob.far (p:=⟨g5,i,none⟩) (k.ob.ne ho (by decide)),k.mm.oth h1 (by decide) (by decide) (by decide) (by decide),k.mk.wbo hk b,k.rb.far (p:=⟨g5,i,none⟩) (k.rb.ne ho (by decide)),bS k.bl (by show w.heap.size≤g5;omega)⟩,by simp⟩
theorem Ck.fz(k:Ck w G g5 S1 S2 S3 S4 c5 m n mk h v){i:Nat}{x:Bool}(hk:mk[i]?=some x):v.cell? ⟨g5,i,none⟩=some (.bool x)∧v.frozen? ⟨g5,i,none⟩=false∧g5<v.heap.size:=by
 obtain⟨g,cs,e,hg,ho,hs⟩:=k.mk.own (by have:=(List.getElem?_eq_some_iff.1 hk).1;omega);injection e with e;injection e with e1 _ _;subst e1;obtain⟨b,o,e2,hb,hc⟩:=Rd.b1 k.mk.is hk;injection e2 with e2;injection e2 with e3 e4 _;subst e3 e4;exact⟨by simpa using hc,ho.free i,ho.lt⟩
theorem Ck.mem(k:Ck w G g5 S1 S2 S3 S4 c5 m n mk h v)(hn:n=mk.length)(hc:n≤c5)(hm:c5≤maxLen):MeM (w.heap.size+2) v S1 S2 S3 S4 (.slice (some ⟨g5,0,none⟩) n c5) ⟨m,mk,h⟩:=
 ⟨k.mm,slm_of hn (show mk.length≤c5 by omega) hm k.mk⟩
end
theorem clk_two{M:Me}:clk M.m.t.fs M.m.c.ls (2*M.mk.length-0) M.mk M.h.toNat=clR M:=rfl
theorem clk_nx{fs:List Fr}{ls:List Ln}{n k h:Nat}{mk:List Bool}{r:Option (List Bool×Nat×Nat)}(e:clk fs ls (2*n-k) mk h=r)(hk:k<2*n):clk fs ls (2*n-(k+1)+1) mk h=r:=by
 rw[show 2*n-(k+1)+1=2*n-k by omega];exact e
theorem clk_out{fs:List Fr}{ls:List Ln}{n:Nat}{mk:List Bool}{h:Nat}{r:Option (List Bool×Nat×Nat)}(e:clk fs ls (2*n-2*n) mk h=r):r=none:=by
 rw[show 2*n-2*n=0 by omega,clk]at e;exact e.symm
theorem clk_go1{fs:List Fr}{ls:List Ln}{n k h:Nat}{mk:List Bool}{r:Option (List Bool×Nat×Nat)}(e:clk fs ls (2*n-k) mk h=r)(hk:k<2*n)(hl:mk.length=n)(hs:¬(usedAt fs h=true∧wirA ls h=false)):clk fs ls (2*n-(k+1)) mk ((h+1) % n)=r:=by
 have:=clk_nx e hk;rw[clk_skip hs,hl]at this;exact this
theorem clk_go2{fs:List Fr}{ls:List Ln}{n k h:Nat}{mk:List Bool}{r:Option (List Bool×Nat×Nat)}(e:clk fs ls (2*n-k) mk h=r)(hk:k<2*n)(hl:mk.length=n)(hu:usedAt fs h=true)(hw:wirA ls h=false)(hm:mk[h]?=some true):clk fs ls (2*n-(k+1)) (mk.set h false) ((h+1) % n)=r:=by
 have:=clk_nx e hk;rw[clk_mark hu hw hm,hl]at this;exact this
theorem clk_go3{fs:List Fr}{ls:List Ln}{n k h:Nat}{mk:List Bool}{r:Option (List Bool×Nat×Nat)}(e:clk fs ls (2*n-k) mk h=r)(hk:k<2*n)(hl:mk.length=n)(hu:usedAt fs h=true)(hw:wirA ls h=false)(hm:mk[h]?=some false):r=some (mk,(h+1) % n,h):=by
 have:=clk_nx e hk;rw[clk_hit hu hw hm,hl]at this;exact this.symm
theorem clO_none{M:Me}(e:clR M=none):clO M=false:=by unfold clO;rw[e];simp
theorem clO_v{M:Me}(h:mev M=false):clO M=false:=by unfold clO;rw[h];rfl
theorem hmod(h n:Nat):((h:Int)+1) % (n:Int)=(((h+1) % n:Nat):Int):=by simp
theorem slm_is{α:Type}{E:Enc α}{e:TypeId}{B n c:Nat}{w:World}{A:Option Addr}{l:List α}(h:SlM E e B w (.slice A n c) l):Rs E w.heap.size w A l:=by
 obtain⟨A',c',e',_,_,hm⟩:=h;injection e' with e1 _ _;subst e1;exact hm.is
theorem FrameVictim_any(vb vf vl vo vk:Value)(M:Me)(w:World)(hM:MeR w vb vf vl vo vk M)(hfree:Free w):
  Calls Tryz.prog 42 #[.agg #[vb,vf,vl,.int .i64 M.m.c.hand,.int .i64 M.m.g.count,.int .i64 M.m.g.next,.int .i64 M.m.g.round,vo,.int .i64 M.m.sp,vk,.int .i64 M.h]] w (Post2 fun v w'=>∃v1 v2 v3 v4 v5,v=.tuple #[.agg #[v1,v2,v3,.int .i64 (clM M).m.c.hand,.int .i64 (clM M).m.g.count,.int .i64 (clM M).m.g.next,.int .i64 (clM M).m.g.round,v4,.int .i64 (clM M).m.sp,v5,.int .i64 (clM M).h],.int .i64 (clA M),.bool (clO M)]∧MeM w.heap.size w' v1 v2 v3 v4 v5 (clM M)∧Below w.heap.size w w'):=by
 have HFR:=Hd hfree;have HM:=Hd hM;clear hfree hM;obtain⟨W0,hW,hbx,hbo,hb0,hs0⟩:=box2 w #[vb,vf,vl,.int .i64 M.m.c.hand,.int .i64 M.m.g.count,.int .i64 M.m.g.next,.int .i64 M.m.g.round,vo,.int .i64 M.m.sp,vk,.int .i64 M.h] 37 #[.slice none 0 0,.slice none 0 0,.slice none 0 0,.int .i64 0,.int .i64 0,.int .i64 0,.int .i64 0,.slice none 0 0,.int .i64 0,.slice none 0 0,.int .i64 0] 37;have HX0:=Hd hbx;have HO0:=Hd hbo;have HB0:=Hd hb0;clear hbx hbo hb0;obtain⟨q0a,q1a,q2a,q3a,q4a,q5a,q6a,q7a,q8a,q9a,q10a⟩:=c11 HX0.o
 go_enter Tryz.func42,Tryz.ntmps42
 go_wp2_with fail
 refine(MemoryValid_any vb vf vl vo vk M _ (HM.o.now HB0.o) (HFR.o.now HB0.o)).mono ?_;rintro e w1 ⟨rfl,hb1⟩;clear q0a q1a q2a q3a q4a q5a q6a q7a q8a q9a q10a;have HX1:=Hd (HX0.o.below hb1);have HO1:=Hd (HO0.o.below hb1);have HB1:=Hd (bT HB0.o hb1);have hs1:w.heap.size+2≤w1.heap.size:=by have:=hb1.size;omega
 clear hb1 HX0 HO0 HB0 hW
 cases h1:mev M with
 | false=>
  have HA:Hi (clO M=false):=clO_v h1;have HV:=Hd (clO_no HA.o);obtain⟨q0x,q1x,q2x,q3x,q4x,q5x,q6x,q7x,q8x,q9x,q10x⟩:=c11 HO1.o;obtain⟨z0x,z1x,z2x,z3x,z4x,z5x,z6x,z7x,z8x,z9x,z10x⟩:=f11 HO1.o;have hlr:=HO1.o.lt;go_wp2;obtain⟨_,rfl,hoz,_,_,_,_⟩:=put11 HO1.o (.slice none 0 0) (.slice none 0 0) (.slice none 0 0) (.int .i64 0) (.int .i64 0) (.int .i64 0) (.int .i64 0) (.slice none 0 0) (.int .i64 0) (.slice none 0 0) (.int .i64 0);obtain⟨q0t,q1t,q2t,q3t,q4t,q5t,q6t,q7t,q8t,q9t,q10t⟩:=c11 hoz;refine bodyPost_ret (v:=.tuple #[.agg #[.slice none 0 0,.slice none 0 0,.slice none 0 0,.int .i64 0,.int .i64 0,.int .i64 0,.int .i64 0,.slice none 0 0,.int .i64 0,.slice none 0 0,.int .i64 0],.int .i64 0,.bool false]) (by simp[results,Tryz.results42,go_sem,q0t,q1t,q2t,q3t,q4t,q5t,q6t,q7t,q8t,q9t,q10t]) rfl ⟨_,rfl,_,_,_,_,_,by rw[HV.o.1,HV.o.2,HA.o];rfl,by rw[HV.o.1];exact mem_z, ?_⟩;repeat (refine bS ?_ (by simp<;>omega))
  exact HB1.o
 | true=>
 obtain⟨a1,a2,a3,a4,a5,a6⟩:=mev_len h1;obtain⟨q0b,q1b,q2b,q3b,q4b,q5b,q6b,q7b,q8b,q9b,q10b⟩:=c11 HX1.o;go_wp2_with fail
 refine(Mclone_any vb vf vl vo vk M _ (HM.o.now HB1.o) a1 a2 a3 a4 (by omega)).mono ?_;rintro e w3 ⟨_,rfl,q1,q2,q3,q4,q5,rfl,hM3,hb3⟩;clear q0b q1b q2b q3b q4b q5b q6b q7b q8b q9b q10b;have hM3':=hM3.mono hs1;obtain⟨A1,c1,rfl,_⟩:=hM3'.m.t.b;obtain⟨A2,c2,rfl,_⟩:=hM3'.m.t.f;obtain⟨A3,c3,rfl,_⟩:=hM3'.m.l;obtain⟨A4,c4,rfl,_⟩:=hM3'.m.o;obtain⟨A5,c5,rfl,hc5,hm5,hK5⟩:=id hM3'.k;obtain⟨g5,cs5,rfl,_,_,_⟩:=hK5.own (by omega);obtain⟨w4,hW4,ho4,hb4,hs4⟩:=box1 w3 #[.slice A1 M.m.t.bs.length c1,.slice A2 M.m.t.fs.length c2,.slice A3 M.m.c.ls.length c3,.int .i64 M.m.c.hand,.int .i64 M.m.g.count,.int .i64 M.m.g.next,.int .i64 M.m.g.round,.slice A4 M.m.g.os.length c4,.int .i64 M.m.sp,.slice (some ⟨g5,0,none⟩) M.mk.length c5,.int .i64 M.h] 37
 have HK:Hi (Ck w w3.heap.size g5 (.slice A1 M.m.t.bs.length c1) (.slice A2 M.m.t.fs.length c2) (.slice A3 M.m.c.ls.length c3) (.slice A4 M.m.g.os.length c4) c5 M.m M.mk.length M.mk M.h w4):=⟨ho4,hM3'.m.now hb4,hK5.below hb4,(HO1.o.below hb3).below hb4,bT (bT HB1.o hb3) hb4⟩
 have hG:w.heap.size+2≤w3.heap.size:=by have:=hb3.size;omega
 have hML:Hi (M.mk.length=M.m.t.fs.length):=(mev_MEV.1 h1).ln;have HMV:=Hd h1;obtain⟨hh0,hh1⟩:=inR_iff.1 (mev_MEV.1 h1).h;have hhn:(M.h.toNat:Int)=M.h:=Int.toNat_of_nonneg hh0;clear hM3 hM3' hb3 ho4 hb4 hK5 h1 HX1 HO1 HB1;go_upto_region 4 with fail
 try rw[hW4]
 clear hW4;have n9:=HK.o.ob.cell_ 9 (v:=.slice (some ⟨g5,0,none⟩) M.mk.length c5) rfl;go_wp2;clear n9;go_loopw [20] (fun u wr=>∃(k:Nat) (mk:List Bool) (h:Nat),k≤2*M.mk.length∧u=.int .i64 k∧Hi (clk M.m.t.fs M.m.c.ls (2*M.mk.length-k) mk h=clR M)∧Hi (mk.length=M.mk.length)∧h<M.mk.length∧Ck w w3.heap.size g5 (.slice A1 M.m.t.bs.length c1) (.slice A2 M.m.t.fs.length c2) (.slice A3 M.m.c.ls.length c3) (.slice A4 M.m.g.os.length c4) c5 M.m M.mk.length mk h wr) (fun u _=>2*M.mk.length-(intOf u).toNat)
 case atStart=>exact⟨0,M.mk,M.h.toNat,by omega,rfl,clk_two,rfl,by have:=hML.o;omega,by rw[hhn];exact HK.o⟩
 case round=>
  obtain⟨k,mk,h,hk,rfl,hcl,hml,hh,hck⟩:=hrel;clear HK hhn hh0 hh1;by_cases hlt:k<2*M.mk.length
  ·have hci:(k:Int)<2*(M.mk.length:Int):=by omega
   obtain⟨x,ex⟩:∃x,mk[h]?=some x:=⟨_,List.getElem?_eq_getElem (by have:=hml.o;omega)⟩
   obtain⟨f,ef⟩:∃f,M.m.t.fs[h]?=some f:=⟨_,List.getElem?_eq_getElem (by have:=hML.o;omega)⟩
   have EX:=Hd ex;have EF:=Hd ef;have hlf:h<M.m.t.fs.length:=(List.getElem?_eq_some_iff.1 ef).1;clear ex ef;have n10:=hck.ob.cell_ 10 (v:=.int .i64 h) rfl;obtain⟨wf,hWF,hf,hbf,_⟩:=box1 wr #[.int .i64 h] 3;go_upto_region 8 with fail
   try rw[hWF]
   clear hWF n10;have CK1:=Hd (hck.below hbf);clear hck;have f0:=hf.cell_ 0 (v:=.int .i64 h) rfl;have g10:=CK1.o.ob.free 10;have n10:=CK1.o.ob.cell_ 10 (v:=.int .i64 h) rfl;have hlo:=CK1.o.ob.lt;have hne:wr.heap.size≠w3.heap.size:=fun e=>by have h2:=CK1.o.ob.ne hf (by decide);omega
   have HOTH:=Hd (CK1.o.hand hG (((h:Int)+1) % (M.mk.length:Int)));go_upto_region 9 with fail
   obtain⟨w2,hw2,ck2,hs2,hoth2⟩:=HOTH.o;have hf2:=hoth2 _ _ _ hne hf;rw[hmod]at ck2;have CK2:=Hd ck2;try rw[hw2]
   clear hw2 hoth2 HOTH ck2 f0 g10 n10 hf CK1 hbf hlo;have f0:=hf2.cell_ 0 (v:=.int .i64 h) rfl;have n2:=CK2.o.ob.cell_ 2 (v:=.slice A3 M.m.c.ls.length c3) rfl;have hlo:=CK2.o.ob.lt;have hlf2:=hf2.lt;go_wp2_with fail
   refine(containsWi_any A3 c3 M.m.c.ls wr.heap.size h _ (slm_is CK2.o.mm.l) (by omega) hlf2 f0).mono ?_;rintro e w5 ⟨rfl,hb5⟩;have CK3:=Hd (CK2.o.below hb5);have hf3:=hf2.below hb5;clear f0 n2 hlo hlf2 CK2 hf2 hb5;have n1:=CK3.o.ob.cell_ 1 (v:=.slice A2 M.m.t.fs.length c2) rfl;have n9:=CK3.o.ob.cell_ 9 (v:=.slice (some ⟨g5,0,none⟩) M.mk.length c5) rfl;have hlo:=CK3.o.ob.lt;have f0:=hf3.cell_ 0 (v:=.int .i64 h) rfl;have hlf3:=hf3.lt;obtain⟨bf,of_,rfl,hbf,e0,e1,e2,e3,e4⟩:=(slm_is CK3.o.mm.t.f).fr EF.o;clear e1 e2 e3 e4;by_cases hs:usedAt M.m.t.fs h=true∧wirA M.m.c.ls h=false
   ·obtain⟨hu,hw⟩:=hs;rw[usedAt_of EF.o]at hu;rw[hu]at e0;rw[hw];obtain⟨d0,d1,d2⟩:=CK3.o.fz EX.o
    cases x with
    | true=>
     have HST:=Hd (clk_go2 hcl.o hlt hml.o (by rw[usedAt_of EF.o];exact hu) hw EX.o);have HLN:Hi ((mk.set h false).length=M.mk.length):=by show _=_;rw[List.length_set];exact hml.o
     obtain⟨w6,hw6,ck6,hs6⟩:=CK3.o.mark EX.o false;clear hu hw;go_upto_region 14 with fail
     try rw[hw6]
     clear hw6 n1 n9 f0 e0 d0 d1 d2;go_wp2;go_roundw;case rel=>exact⟨k+1,mk.set h false,(h+1) % M.mk.length,by omega,by go_num,HST,HLN,Nat.mod_lt _ (by omega),ck6⟩
     case measure=>simp[intOf];omega
    | false=>
     have hres:=clk_go3 hcl.o hlt hml.o (by rw[usedAt_of EF.o];exact hu) hw EX.o;have hat:=clO_at HMV.o hres;have HA:=Hd hat.1;have HV:=Hd hat.2.1;have HR:=Hd hat.2.2;clear hu hw hres hat;go_upto_region 10 with fail
     clear n1 n9 e0 d0 d1 d2 hlo;obtain⟨q0o,q1o,q2o,q3o,q4o,q5o,q6o,q7o,q8o,q9o,q10o⟩:=c11 CK3.o.ob;obtain⟨q0x,q1x,q2x,q3x,q4x,q5x,q6x,q7x,q8x,q9x,q10x⟩:=c11 CK3.o.rb;obtain⟨z0x,z1x,z2x,z3x,z4x,z5x,z6x,z7x,z8x,z9x,z10x⟩:=f11 CK3.o.rb;have hlr:=CK3.o.rb.lt;have hlo:=CK3.o.ob.lt;have hn1:¬wr.heap.size=w.heap.size+1:=by have:=CK3.o.rb.ne hf3 (by decide);omega
     have hn2:¬w.heap.size+1=wr.heap.size:=fun e=>hn1 e.symm
     go_region_law (fail)
     all_goals
      go_wp2;obtain⟨_,rfl,hoz,hotz,_,_,hbz⟩:=put11 CK3.o.rb (.slice A1 M.m.t.bs.length c1) (.slice (some ⟨bf,of_,none⟩) M.m.t.fs.length c2) (.slice A3 M.m.c.ls.length c3) (.int .i64 M.m.c.hand) (.int .i64 M.m.g.count) (.int .i64 M.m.g.next) (.int .i64 M.m.g.round) (.slice A4 M.m.g.os.length c4) (.int .i64 M.m.sp) (.slice (some ⟨g5,0,none⟩) M.mk.length c5) (.int .i64 (((h:Int)+1) % (M.mk.length:Int)));obtain⟨q0t,q1t,q2t,q3t,q4t,q5t,q6t,q7t,q8t,q9t,q10t⟩:=c11 hoz.drew;refine bodyPost_ret (v:=.tuple #[.agg #[.slice A1 M.m.t.bs.length c1,.slice (some ⟨bf,of_,none⟩) M.m.t.fs.length c2,.slice A3 M.m.c.ls.length c3,.int .i64 M.m.c.hand,.int .i64 M.m.g.count,.int .i64 M.m.g.next,.int .i64 M.m.g.round,.slice A4 M.m.g.os.length c4,.int .i64 M.m.sp,.slice (some ⟨g5,0,none⟩) M.mk.length c5,.int .i64 (((h:Int)+1) % (M.mk.length:Int))],.int .i64 h,.bool true]) (by simp[results,Tryz.results42,go_sem,q0t,q1t,q2t,q3t,q4t,q5t,q6t,q7t,q8t,q9t,q10t]) rfl ⟨_,rfl,_,_,_,_,_,by rw[HV.o,HR.o,HA.o,hmod], ?_,bD (hbz w (by omega) CK3.o.bl)⟩;rw[HV.o];exact(((CK3.o.mem hml.o.symm hc5 hm5).othm hotz).now (bD bR)).mono (by omega)
   ·have HST:=Hd (clk_go1 hcl.o hlt hml.o hs);rw[usedAt_of EF.o]at hs
    cases hu:f.used with
    | false=>
     rw[hu]at e0;clear hs hu;go_wp2;go_roundw;case rel=>exact⟨k+1,mk,(h+1) % M.mk.length,by omega,by go_num,HST,hml,Nat.mod_lt _ (by omega),CK3.o⟩
     case measure=>simp[intOf];omega
    | true=>
     rw[hu]at e0 hs
     have hw:wirA M.m.c.ls h=true:=by
      cases h':wirA M.m.c.ls h with
      | true=>rfl
      | false=>exact absurd ⟨rfl,h'⟩ hs
     rw[hw];clear hs hu hw;go_wp2;go_roundw;case rel=>exact⟨k+1,mk,(h+1) % M.mk.length,by omega,by go_num,HST,hml,Nat.mod_lt _ (by omega),CK3.o⟩
     case measure=>simp[intOf];omega
  ·obtain rfl:k=2*M.mk.length:=by omega
   have HA:Hi (clO M=false):=clO_none (clk_out hcl.o);have HV:=Hd (clO_no HA.o);have hcn:¬(((2*M.mk.length:Nat):Int)<2*(M.mk.length:Int)):=by omega
   obtain⟨q0x,q1x,q2x,q3x,q4x,q5x,q6x,q7x,q8x,q9x,q10x⟩:=c11 hck.rb;obtain⟨z0x,z1x,z2x,z3x,z4x,z5x,z6x,z7x,z8x,z9x,z10x⟩:=f11 hck.rb;have hlr:=hck.rb.lt;go_wp2;obtain⟨_,rfl,hoz,_,_,_,_⟩:=put11 hck.rb (.slice none 0 0) (.slice none 0 0) (.slice none 0 0) (.int .i64 0) (.int .i64 0) (.int .i64 0) (.int .i64 0) (.slice none 0 0) (.int .i64 0) (.slice none 0 0) (.int .i64 0);obtain⟨q0t,q1t,q2t,q3t,q4t,q5t,q6t,q7t,q8t,q9t,q10t⟩:=c11 hoz;refine bodyPost_ret (v:=.tuple #[.agg #[.slice none 0 0,.slice none 0 0,.slice none 0 0,.int .i64 0,.int .i64 0,.int .i64 0,.int .i64 0,.slice none 0 0,.int .i64 0,.slice none 0 0,.int .i64 0],.int .i64 0,.bool false]) (by simp[results,Tryz.results42,go_sem,q0t,q1t,q2t,q3t,q4t,q5t,q6t,q7t,q8t,q9t,q10t]) rfl ⟨_,rfl,_,_,_,_,_,by rw[HV.o.1,HV.o.2,HA.o];rfl,by rw[HV.o.1];exact mem_z, ?_⟩;repeat (refine bS ?_ (by simp<;>omega))
   exact hck.bl
theorem wno_step{ls:List Ln}{k:Nat}{x:Ln}{i:Int}(h:∀(j:Nat) (y:Ln),j<k→ls[j]?=some y→wfit i y=false)(e:ls[k]?=some x)(hx:wfit i x=false):∀(j:Nat) (y:Ln),j<k+1→ls[j]?=some y→wfit i y=false:=by
 intro j y hj ey;rcases Nat.lt_or_ge j k with h1 | h1
 ·exact h j y h1 ey
 ·obtain rfl:j=k:=by omega
  rw[e]at ey;injection ey with ey;rw[←ey];exact hx
theorem wir_yes{ls:List Ln}{k:Nat}{x:Ln}{i:Int}(e:ls[k]?=some x)(hx:wfit i x=true):wirA ls i=true:=List.any_eq_true.2 ⟨x,List.mem_of_getElem? e,hx⟩
theorem wir_no{ls:List Ln}{i:Int}(h:∀(j:Nat) (y:Ln),j<ls.length→ls[j]?=some y→wfit i y=false):wirA ls i=false:=by
 refine bool_ff fun hh=> ?_
 obtain⟨x,hx,h1⟩:=List.any_eq_true.1 hh;obtain⟨j,hj,e⟩:=List.getElem_of_mem hx;have:=h j x hj (by rw[List.getElem?_eq_getElem hj,e]);unfold wfit at this;rw[this]at h1;cases h1
theorem l7Wired_any(vb vf vl vo:Value)(m:Ma)(i:Int)(w:World)(hM:MaR w vb vf vl vo m)(hc:cav m.c=true):
  Calls Tryz.prog 160 #[.agg #[vb,vf,vl,.int .i64 m.c.hand,.int .i64 m.g.count,.int .i64 m.g.next,.int .i64 m.g.round,vo,.int .i64 m.sp],.int .i64 i] w fun r w'=>r=.returned (.bool (wirA m.c.ls i))∧Below w.heap.size w w':=by
 have HM:=Hd hM;obtain⟨Al,cl,rfl,hlc,hlm,hL⟩:=hM.l;have HLS:=Hd hL;have HC:=Hd hc;have hll:m.c.ls.length≤8:=(cav_parts hc).2.1;clear hM hL hc;obtain⟨W0,hW,hbx,hbz,_⟩:=box1 w #[vb,vf,.slice Al m.c.ls.length cl,.int .i64 m.c.hand,.int .i64 m.g.count,.int .i64 m.g.next,.int .i64 m.g.round,vo,.int .i64 m.sp] 34;have HX0:=Hd hbx;have HB0:=Hd hbz;clear hbx hbz
 go_enter Tryz.func160,Tryz.ntmps160
 go_upto_region 1 with fail
 try rw[hW]
 clear hW;go_wp2;go_loopw [5] (fun u wr=>∃k:Nat,k≤m.c.ls.length∧u=.int .i64 k∧Hi (∀(j:Nat) (y:Ln),j<k→m.c.ls[j]?=some y→wfit i y=false)∧Below W0.heap.size W0 wr) (fun u _=>m.c.ls.length-(intOf u).toNat)
 case atStart=>exact⟨0,by omega,rfl,fun j g h=>absurd h (by omega),bR⟩
 case round=>
  obtain⟨k,hk,rfl,hall,hb5⟩:=hrel;have HX5:=Hd (HX0.o.below hb5);have n2:=HX5.c 2 (.slice Al m.c.ls.length cl) rfl;by_cases hlt:k<m.c.ls.length
  ·obtain⟨x,ex⟩:∃x,m.c.ls[k]?=some x:=⟨_,List.getElem?_eq_getElem hlt⟩
   obtain⟨x',ex',hok,_⟩:=lok_at (cav_parts HC.o).2.2.2.1 hlt;rw[ex]at ex';injection ex' with ex';subst ex';obtain⟨xv,xt,xp,xf,xr,xw⟩:=x;obtain⟨b,o,rfl,hbb,d0,d1,d2,d3,d4,d5⟩:=(HLS.o.below (bT HB0.o hb5)).ln ex;obtain⟨wf,hWF,hf,hbf,_⟩:=box1 wr #[.bool xv,.int .i64 xt,.int .i64 xp,.int .i64 xf,.int .i64 xr,.bool xw] 50;have EX:=Hd ex;have HOK:=Hd hok;clear ex hok;go_upto_region 5 with fail
   try rw[hWF]
   clear hWF d0 d1 d2 d3 d4 d5 n2;have x0:=hf.cell_ 0 (v:=.bool xv) rfl;have x3:=hf.cell_ 3 (v:=.int .i64 xf) rfl;have x5:=hf.cell_ 5 (v:=.bool xw) rfl;have HBN:=Hd (bT hb5 hbf);clear hf hbf hb5
   cases xv with
   | false=>
    have hz:wfit i ⟨false,xt,xp,xf,xr,xw⟩=false:=by
     have h:=HOK.o;unfold lnok at h;simp only[if_false,Bool.false_eq_true,decide_eq_true_eq]at h;rw[h];rfl
    have HA:=Hd (wno_step hall.o EX.o hz);clear hz;go_wp2;go_roundw;case rel=>exact⟨k+1,by omega,by go_num,HA,HBN.o⟩
    case measure=>simp[intOf];omega
   | true=>
    cases xw with
    | false=>
     have HA:=Hd (wno_step hall.o EX.o (show wfit i ⟨true,xt,xp,xf,xr,false⟩=false from rfl));go_wp2;go_roundw;case rel=>exact⟨k+1,by omega,by go_num,HA,HBN.o⟩
     case measure=>simp[intOf];omega
    | true=>
     by_cases hq:xf=i
     ·have hqb:(xf == i)=true:=by rw[beq_iff_eq];exact hq
      have HE:Hi (wirA m.c.ls i=true):=wir_yes EX.o (by unfold wfit;rw[hq];simp);have HQ:=Hd hq;clear hq;go_wp2;go_ret;exact⟨by rw[HE.o];rfl,bT HB0.o HBN.o⟩
     ·have hqb:(xf == i)=false:=by rw[beq_eq_false_iff_ne];exact hq
      have HA:=Hd (wno_step hall.o EX.o (show wfit i ⟨true,xt,xp,xf,xr,true⟩=false by unfold wfit;simp[hq]));clear hq;go_wp2;go_roundw;case rel=>exact⟨k+1,by omega,by go_num,HA,HBN.o⟩
      case measure=>simp[intOf];omega
  ·obtain rfl:k=m.c.ls.length:=by omega
   have HE:Hi (wirA m.c.ls i=false):=wir_no hall.o;go_wp2;go_ret;exact⟨by rw[HE.o];rfl,bT HB0.o hb5⟩
theorem l7Clock_any(vb vf vl vo vk:Value)(M:Me)(w:World)(hM:MeR w vb vf vl vo vk M)(hv:mev M=true):
  Calls Tryz.prog 95 #[.agg #[vb,vf,vl,.int .i64 M.m.c.hand,.int .i64 M.m.g.count,.int .i64 M.m.g.next,.int .i64 M.m.g.round,vo,.int .i64 M.m.sp,vk,.int .i64 M.h]] w (Post2 fun v w'=>∃v1 v2 v3 v4 v5 N a,v=.tuple #[.agg #[v1,v2,v3,.int .i64 N.m.c.hand,.int .i64 N.m.g.count,.int .i64 N.m.g.next,.int .i64 N.m.g.round,v4,.int .i64 N.m.sp,v5,.int .i64 N.h],.int .i64 a]∧MeM w.heap.size w' v1 v2 v3 v4 v5 N∧(∀mk (h i:Nat),clR M=some (mk,h,i)→N=⟨M.m,mk,h⟩∧a=i)∧(clR M=none→a=-1)∧Below w.heap.size w w'):=by
 have HM:=Hd hM;clear hM;obtain⟨W0,hW,hbx,hbo,hb0,hs0⟩:=box2 w #[vb,vf,vl,.int .i64 M.m.c.hand,.int .i64 M.m.g.count,.int .i64 M.m.g.next,.int .i64 M.m.g.round,vo,.int .i64 M.m.sp,vk,.int .i64 M.h] 37 #[.slice none 0 0,.slice none 0 0,.slice none 0 0,.int .i64 0,.int .i64 0,.int .i64 0,.int .i64 0,.slice none 0 0,.int .i64 0,.slice none 0 0,.int .i64 0] 37;have HX0:=Hd hbx;have HO0:=Hd hbo;have HB0:=Hd hb0;clear hbx hbo hb0;obtain⟨a1,a2,a3,a4,a5,a6⟩:=mev_len hv;obtain⟨q0a,q1a,q2a,q3a,q4a,q5a,q6a,q7a,q8a,q9a,q10a⟩:=c11 HX0.o
 go_enter Tryz.func95,Tryz.ntmps95
 go_wp2_with fail
 refine(l7Copy_any vb vf vl vo vk M _ (HM.o.now HB0.o) a1 a2 a3 a4 (by omega) a6).mono ?_;rintro e w3 ⟨_,rfl,q1,q2,q3,q4,q5,rfl,hM3,hb3⟩;clear q0a q1a q2a q3a q4a q5a q6a q7a q8a q9a q10a;clear hW;have hM3':=hM3.mono (show w.heap.size+2≤W0.heap.size by omega);obtain⟨A1,c1,rfl,_⟩:=hM3'.m.t.b;obtain⟨A2,c2,rfl,_⟩:=hM3'.m.t.f;obtain⟨A3,c3,rfl,_⟩:=hM3'.m.l;obtain⟨A4,c4,rfl,_⟩:=hM3'.m.o;obtain⟨A5,c5,rfl,hc5,hm5,hK5⟩:=id hM3'.k;obtain⟨g5,cs5,rfl,_,_,_⟩:=hK5.own (by omega);obtain⟨w4,hW4,ho4,hb4,hs4⟩:=box1 w3 #[.slice A1 M.m.t.bs.length c1,.slice A2 M.m.t.fs.length c2,.slice A3 M.m.c.ls.length c3,.int .i64 M.m.c.hand,.int .i64 M.m.g.count,.int .i64 M.m.g.next,.int .i64 M.m.g.round,.slice A4 M.m.g.os.length c4,.int .i64 M.m.sp,.slice (some ⟨g5,0,none⟩) M.mk.length c5,.int .i64 M.h] 37
 have HK:Hi (Ck w w3.heap.size g5 (.slice A1 M.m.t.bs.length c1) (.slice A2 M.m.t.fs.length c2) (.slice A3 M.m.c.ls.length c3) (.slice A4 M.m.g.os.length c4) c5 M.m M.mk.length M.mk M.h w4):=⟨ho4,hM3'.m.now hb4,hK5.below hb4,(HO0.o.below hb3).below hb4,bT (bT HB0.o hb3) hb4⟩
 have hG:w.heap.size+2≤w3.heap.size:=by have:=hb3.size;omega
 have hML:Hi (M.mk.length=M.m.t.fs.length):=(mev_MEV.1 hv).ln;have HMV:=Hd hv;obtain⟨hh0,hh1⟩:=inR_iff.1 (mev_MEV.1 hv).h;have hhn:(M.h.toNat:Int)=M.h:=Int.toNat_of_nonneg hh0;clear hM3 hM3' hb3 ho4 hb4 hK5 hv HX0 HO0 HB0;go_upto_region 2 with fail
 try rw[hW4]
 clear hW4;have n9:=HK.o.ob.cell_ 9 (v:=.slice (some ⟨g5,0,none⟩) M.mk.length c5) rfl;go_wp2;clear n9;go_loopw [6] (fun u wr=>∃(k:Nat) (mk:List Bool) (h:Nat),k≤2*M.mk.length∧u=.int .i64 k∧Hi (clk M.m.t.fs M.m.c.ls (2*M.mk.length-k) mk h=clR M)∧Hi (mk.length=M.mk.length)∧h<M.mk.length∧Ck w w3.heap.size g5 (.slice A1 M.m.t.bs.length c1) (.slice A2 M.m.t.fs.length c2) (.slice A3 M.m.c.ls.length c3) (.slice A4 M.m.g.os.length c4) c5 M.m M.mk.length mk h wr) (fun u _=>2*M.mk.length-(intOf u).toNat)
 case atStart=>exact⟨0,M.mk,M.h.toNat,by omega,rfl,clk_two,rfl,by have:=hML.o;omega,by rw[hhn];exact HK.o⟩
 case round=>
  obtain⟨k,mk,h,hk,rfl,hcl,hml,hh,hck⟩:=hrel;clear HK hhn hh0 hh1;by_cases hlt:k<2*M.mk.length
  ·have hci:(k:Int)<2*(M.mk.length:Int):=by omega
   obtain⟨x,ex⟩:∃x,mk[h]?=some x:=⟨_,List.getElem?_eq_getElem (by have:=hml.o;omega)⟩
   obtain⟨f,ef⟩:∃f,M.m.t.fs[h]?=some f:=⟨_,List.getElem?_eq_getElem (by have:=hML.o;omega)⟩
   have EX:=Hd ex;have EF:=Hd ef;have hlf:h<M.m.t.fs.length:=(List.getElem?_eq_some_iff.1 ef).1;clear ex ef;have n10:=hck.ob.cell_ 10 (v:=.int .i64 h) rfl;have g10:=hck.ob.free 10;have hlo:=hck.ob.lt;have HOTH:=Hd (hck.hand hG (((h:Int)+1) % (M.mk.length:Int)));go_upto_region 8 with fail
   obtain⟨w2,hw2,ck2,hs2,hoth2⟩:=HOTH.o;rw[hmod]at ck2;have CK3:=Hd ck2;try rw[hw2]
   clear hw2 hoth2 HOTH ck2 n10 g10 hck hlo;have n1:=CK3.o.ob.cell_ 1 (v:=.slice A2 M.m.t.fs.length c2) rfl;have n9:=CK3.o.ob.cell_ 9 (v:=.slice (some ⟨g5,0,none⟩) M.mk.length c5) rfl;have hlo:=CK3.o.ob.lt;obtain⟨bf,of_,rfl,hbf,e0,e1,e2,e3,e4⟩:=(slm_is CK3.o.mm.t.f).fr EF.o;clear e1 e2 e3 e4
   cases hu:f.used with
   | false=>
    rw[hu]at e0;have HST:=Hd (clk_go1 hcl.o hlt hml.o (by rw[usedAt_of EF.o,hu];simp));clear hu;go_wp2;go_roundw;case rel=>exact⟨k+1,mk,(h+1) % M.mk.length,by omega,by go_num,HST,hml,Nat.mod_lt _ (by omega),CK3.o⟩
    case measure=>simp[intOf];omega
   | true=>
    rw[hu]at e0;have HU:Hi (usedAt M.m.t.fs h=true):=by show _=_;rw[usedAt_of EF.o,hu]
    clear hu;obtain⟨q0o,q1o,q2o,q3o,q4o,q5o,q6o,q7o,q8o,q9o,q10o⟩:=c11 CK3.o.ob;go_wp2_with fail
    refine(l7Wired_any _ _ _ _ M.m h _ CK3.o.mm.r (mav_parts (mav_MV.2 (mev_MEV.1 HMV.o).m)).2.1).mono ?_;rintro e w5 ⟨rfl,hb5⟩;clear q0o q1o q2o q3o q4o q5o q6o q7o q8o q9o q10o;have CK5:=Hd (CK3.o.below hb5);clear n1 n9 hlo e0 CK3 hb5;have n9:=CK5.o.ob.cell_ 9 (v:=.slice (some ⟨g5,0,none⟩) M.mk.length c5) rfl;have hlo:=CK5.o.ob.lt
    cases hw:wirA M.m.c.ls h with
    | true=>
     have HST:=Hd (clk_go1 hcl.o hlt hml.o (by rw[hw];simp));clear hw;go_wp2;go_roundw;case rel=>exact⟨k+1,mk,(h+1) % M.mk.length,by omega,by go_num,HST,hml,Nat.mod_lt _ (by omega),CK5.o⟩
     case measure=>simp[intOf];omega
    | false=>
     obtain⟨d0,d1,d2⟩:=CK5.o.fz EX.o
     cases x with
     | true=>
      have HST:=Hd (clk_go2 hcl.o hlt hml.o HU.o hw EX.o);have HLN:Hi ((mk.set h false).length=M.mk.length):=by show _=_;rw[List.length_set];exact hml.o
      obtain⟨w6,hw6,ck6,hs6⟩:=CK5.o.mark EX.o false;clear hw;go_upto_region 5 with fail
      try rw[hw6]
      clear hw6 n9 d0 d1 d2;go_wp2;go_roundw;case rel=>exact⟨k+1,mk.set h false,(h+1) % M.mk.length,by omega,by go_num,HST,HLN,Nat.mod_lt _ (by omega),ck6⟩
      case measure=>simp[intOf];omega
     | false=>
      have HRES:=Hd (clk_go3 hcl.o hlt hml.o HU.o hw EX.o);clear hw;go_upto_region 10 with fail
      clear n9 d0 d1 d2 hlo;obtain⟨q0o,q1o,q2o,q3o,q4o,q5o,q6o,q7o,q8o,q9o,q10o⟩:=c11 CK5.o.ob;obtain⟨q0x,q1x,q2x,q3x,q4x,q5x,q6x,q7x,q8x,q9x,q10x⟩:=c11 CK5.o.rb;obtain⟨z0x,z1x,z2x,z3x,z4x,z5x,z6x,z7x,z8x,z9x,z10x⟩:=f11 CK5.o.rb;have hlr:=CK5.o.rb.lt;have hlo:=CK5.o.ob.lt;go_wp2;obtain⟨_,rfl,hoz,hotz,_,_,hbz⟩:=put11 CK5.o.rb (.slice A1 M.m.t.bs.length c1) (.slice (some ⟨bf,of_,none⟩) M.m.t.fs.length c2) (.slice A3 M.m.c.ls.length c3) (.int .i64 M.m.c.hand) (.int .i64 M.m.g.count) (.int .i64 M.m.g.next) (.int .i64 M.m.g.round) (.slice A4 M.m.g.os.length c4) (.int .i64 M.m.sp) (.slice (some ⟨g5,0,none⟩) M.mk.length c5) (.int .i64 (((h:Int)+1) % (M.mk.length:Int)));obtain⟨q0t,q1t,q2t,q3t,q4t,q5t,q6t,q7t,q8t,q9t,q10t⟩:=c11 hoz;refine bodyPost_ret (v:=.tuple #[.agg #[.slice A1 M.m.t.bs.length c1,.slice (some ⟨bf,of_,none⟩) M.m.t.fs.length c2,.slice A3 M.m.c.ls.length c3,.int .i64 M.m.c.hand,.int .i64 M.m.g.count,.int .i64 M.m.g.next,.int .i64 M.m.g.round,.slice A4 M.m.g.os.length c4,.int .i64 M.m.sp,.slice (some ⟨g5,0,none⟩) M.mk.length c5,.int .i64 (((h:Int)+1) % (M.mk.length:Int))],.int .i64 (h:Int)]) (by simp[results,Tryz.results95,go_sem,q0t,q1t,q2t,q3t,q4t,q5t,q6t,q7t,q8t,q9t,q10t]) rfl ⟨_,rfl,.slice A1 M.m.t.bs.length c1,.slice (some ⟨bf,of_,none⟩) M.m.t.fs.length c2,.slice A3 M.m.c.ls.length c3,.slice A4 M.m.g.os.length c4,.slice (some ⟨g5,0,none⟩) M.mk.length c5,⟨M.m,mk,(((h+1) % M.mk.length:Nat):Int)⟩,(h:Int), ?_, ?_, ?_, ?_,hbz w (by omega) CK5.o.bl⟩
      ·rw[hmod]
      ·exact((CK5.o.mem hml.o.symm hc5 hm5).othm hotz).mono (by omega)
      ·intro mk' h' i' e';rw[HRES.o]at e';injection e' with e';injection e' with e1 e';injection e' with e2 e3;subst e1 e2 e3;exact⟨rfl,rfl⟩
      ·intro e';rw[HRES.o]at e';cases e'
  ·obtain rfl:k=2*M.mk.length:=by omega
   have HRES:=Hd (clk_out hcl.o);have hcn:¬(((2*M.mk.length:Nat):Int)<2*(M.mk.length:Int)):=by omega
   obtain⟨q0o,q1o,q2o,q3o,q4o,q5o,q6o,q7o,q8o,q9o,q10o⟩:=c11 hck.ob;obtain⟨q0x,q1x,q2x,q3x,q4x,q5x,q6x,q7x,q8x,q9x,q10x⟩:=c11 hck.rb;obtain⟨z0x,z1x,z2x,z3x,z4x,z5x,z6x,z7x,z8x,z9x,z10x⟩:=f11 hck.rb;have hlr:=hck.rb.lt;have hlo:=hck.ob.lt;go_wp2;obtain⟨_,rfl,hoz,hotz,_,_,hbz⟩:=put11 hck.rb (.slice A1 M.m.t.bs.length c1) (.slice A2 M.m.t.fs.length c2) (.slice A3 M.m.c.ls.length c3) (.int .i64 M.m.c.hand) (.int .i64 M.m.g.count) (.int .i64 M.m.g.next) (.int .i64 M.m.g.round) (.slice A4 M.m.g.os.length c4) (.int .i64 M.m.sp) (.slice (some ⟨g5,0,none⟩) M.mk.length c5) (.int .i64 (h:Int));obtain⟨q0t,q1t,q2t,q3t,q4t,q5t,q6t,q7t,q8t,q9t,q10t⟩:=c11 hoz;refine bodyPost_ret (v:=.tuple #[.agg #[.slice A1 M.m.t.bs.length c1,.slice A2 M.m.t.fs.length c2,.slice A3 M.m.c.ls.length c3,.int .i64 M.m.c.hand,.int .i64 M.m.g.count,.int .i64 M.m.g.next,.int .i64 M.m.g.round,.slice A4 M.m.g.os.length c4,.int .i64 M.m.sp,.slice (some ⟨g5,0,none⟩) M.mk.length c5,.int .i64 (h:Int)],.int .i64 (-1)]) (by simp[results,Tryz.results95,go_sem,q0t,q1t,q2t,q3t,q4t,q5t,q6t,q7t,q8t,q9t,q10t]) rfl ⟨_,rfl,.slice A1 M.m.t.bs.length c1,.slice A2 M.m.t.fs.length c2,.slice A3 M.m.c.ls.length c3,.slice A4 M.m.g.os.length c4,.slice (some ⟨g5,0,none⟩) M.mk.length c5,⟨M.m,mk,(h:Int)⟩,(-1), ?_, ?_, ?_, ?_,hbz w (by omega) hck.bl⟩
   ·rfl
   ·exact((hck.mem hml.o.symm hc5 hm5).othm hotz).mono (by omega)
   ·intro mk' h' i' e';rw[HRES.o]at e';cases e'
   ·intro _;rfl
end Go.Proofs.YtfbnokjdkhcgoaaGreatDoor
