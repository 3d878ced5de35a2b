/- A part of the proofs of this seat. -/
import Derived.Test.YtfbnokjdkhcgoaaGreatDoorCUpI
set_option linter.unusedVariables false
set_option linter.unusedSimpArgs false
set_option maxRecDepth 1000000
set_option maxHeartbeats 16000000
namespace Go.Proofs.YtfbnokjdkhcgoaaGreatDoor
open Go.RowKit
theorem tchFr_fnd{m:Ma}(M:MV m){p:Int}{i:Nat}(h:fnd m.t.fs (keyI m.sp p) p=some i):tchFr m p=(i:Int):=by
 by_cases hh:0≤tchH m p
 ·obtain⟨k,j,x,f,_,_,_,_,_,_,ht,hf⟩:=M.hit hh;rw[h]at hf;injection hf with hf;rw[ht,hf]
 ·have hk:tchK m p=(i:Int):=fndI_some h;unfold tchFr;rw[if_neg hh,if_pos (by rw[hk];omega),hk]
theorem put_own{m:Ma}{s p fr r:Int}(h:putOK m s p fr r=true):∃k:Nat,fr=(k:Int)∧(putV m s p fr r).sp=m.sp∧keyI s p=s∧fnd (putV m s p fr r).t.fs s p=some k:=by
 obtain⟨k,f0,hk,ef,hu,hm,hkey,_,_,hv⟩:=put_at h;refine⟨k,hk,by rw[hv],hkey, ?_⟩;refine(tv_TV.1 (mav_parts (mav_put h)).1).fnd (f:=⟨true,s,p,r,m.t.bs.getD (bkt m.t s p) 0⟩) ?_ rfl rfl;rw[hv];show(m.t.fs.set k _)[k]?=_;rw[List.getElem?_set,if_pos rfl,if_pos (List.getElem?_eq_some_iff.1 ef).1]
theorem useN_mk{M N:Me}(V:MEV M){p r:Int}(e:useN M p r=some N):(∃k:Nat,fnd N.m.t.fs (keyI N.m.sp p) p=some k)∧∀i:Nat,N.mk[i]?=some true→usedAt N.m.t.fs i=true:=by
 have fu:∀{fs:List Fr} {s q:Int} {i:Nat},fnd fs s q=some i→usedAt fs i=true:=by
  intro fs s q i h;obtain⟨f,ef,hu,_⟩:=fnd_some h;exact usedAt_iff.2 ⟨f,ef,hu⟩
 have fd:∀{i:Nat},usedAt M.m.t.fs i=true→∃f,M.m.t.fs[i]?=some f∧fnd M.m.t.fs f.s f.p=some i:=by
  intro i h;obtain⟨f,ef,hu⟩:=usedAt_iff.1 h;exact⟨f,ef,V.m.t.fnd ef hu rfl⟩
 rcases useN_cases V e with⟨hm,rfl⟩ | ⟨_,k,hk,hp,rfl⟩ | ⟨_,_,mk,h,a,f,hc,ef,hu,_,ht,hp,rfl⟩
 ·refine⟨?_,V.k⟩;unfold misM at hm
  have h0:0≤fndI N.m.t.fs (keyI N.m.sp p) p:=by
   have:=of_decide_eq_false hm;omega
  obtain⟨k,_,hf⟩:=fndI_fnd h0;exact⟨k,hf⟩
 ·obtain⟨k',_,hs,_,hf⟩:=put_own hp;refine⟨⟨k', ?_⟩,fun i hi=> ?_⟩
  ·show fnd (putV M.m (keyI M.m.sp p) p k r).t.fs (keyI (putV M.m (keyI M.m.sp p) p k r).sp p) p=_;rw[hs];exact hf
  ·obtain⟨f,_,hf⟩:=fd (V.k i hi);exact fu (put_fnd hp hf)
 ·obtain⟨k',hk',hs,_,hf⟩:=put_own hp;have c:=V.clk hc;refine⟨⟨k', ?_⟩,fun i hi=> ?_⟩
  ·show fnd (putV (takV M.m f.s f.p) (keyI M.m.sp p) p a r).t.fs (keyI (putV (takV M.m f.s f.p) (keyI M.m.sp p) p a r).sp p) p=_;rw[hs,(takV_c ht).2.2];exact hf
  ·by_cases hia:i=a
   ·subst hia;have:i=k':=by omega
    subst this;exact fu hf
   ·obtain⟨g,eg,hg⟩:=fd (V.k i (c.sub i hi));refine fu (put_fnd hp (tak_fnd V.m ht hg (fun hc=>hia ?_)));have:=V.m.t.fnd ef hu rfl;rw[hc.1,hc.2,this]at hg;injection hg with hg;exact hg.symm
theorem use_mev{M:Me}{p n r:Int}(h:useO M p n r=true):mev (useV M p n r)=true:=by
 have hm:=mev_use h;obtain⟨hv,hp,hn,hr,N,e⟩:=useO_parts h;have V:=mev_MEV.1 hv;obtain⟨_,h2,_,_⟩:=useO_some hv hp hn hr e;obtain⟨a1,a2,a3,a4,a5⟩:=useN_at V e;obtain⟨ht,_⟩:=useN_tch V e hp hn;obtain⟨⟨k,hk⟩,hmk⟩:=useN_mk V e;have hT:=(tchV_len ht).1;have hF:tchF N.m p n=(k:Int):=by unfold tchF;rw[if_pos ht];exact tchFr_fnd (mav_MV.1 a1) hk
 rw[h2]at hm⊢;refine mev_MEV.2 ⟨mav_MV.1 hm, ?_, ?_,fun i hi=> ?_⟩
 ·show(N.mk.set _ true).length=(tchV N.m p n).t.fs.length;rw[List.length_set,hT,a2,V.ln,a3]
 ·show inR N.h (tchV N.m p n).t.fs.length=true;rw[hT,a3];exact a5
 ·have hi:(N.mk.set (tchF N.m p n).toNat true)[i]?=some true:=hi;show usedAt (tchV N.m p n).t.fs i=true;rw[hT];rw[hF,Int.toNat_natCast]at hi;by_cases hik:k=i
  ·subst hik;obtain⟨f,ef,hu,_⟩:=fnd_some hk;exact usedAt_iff.2 ⟨f,ef,hu⟩
  ·rw[List.getElem?_set,if_neg hik]at hi;exact hmk i hi
theorem use_pgs{M:Me}{p n r:Int}(h:useO M p n r=true)(hg:Pgs M.m)(hp:pgo p):Pgs (useV M p n r).m∧(useV M p n r).mk.length=M.mk.length:=by
 obtain⟨hv,hp',hn,hr,N,e⟩:=useO_parts h;have V:=mev_MEV.1 hv;obtain⟨_,h2,_,_⟩:=useO_some hv hp' hn hr e;obtain⟨ht,_⟩:=useN_tch V e hp' hn;obtain⟨_,a2,_⟩:=useN_at V e;rw[h2];refine⟨fun f hf=> ?_,(List.length_set ..).trans a2⟩;have hf:f∈(tchV N.m p n).t.fs:=hf;rw[(tchV_len ht).1]at hf;refine(?_:Pgs N.m) f hf
 rcases useN_cases V e with⟨_,rfl⟩ | ⟨_,k,_,hq,rfl⟩ | ⟨_,_,mk,_,a,f,_,_,_,_,hk,hq,rfl⟩
 ·exact hg
 ·exact pgs_put hq hg hp
 ·exact pgs_put hq (pgs_tak hk hg) hp
theorem usL_mev{M:Me}{ps:List Int}(hM:mev M=true)(hg:Pgs M.m)(hps:∀p∈ps,pgo p):∀{k:Nat} {x:Me×List Int},usL M ps k=some x→mev x.1=true∧Pgs x.1.m∧x.1.mk.length=M.mk.length:=by
 intro k
 induction k with
 | zero=>
  intro x h;unfold usL at h;injection h with h;subst h;exact⟨hM,hg,rfl⟩
 | succ k ih=>
  intro x h
  cases hk:usL M ps k with
  | none=>rw[usL_bad hk (Nat.le_succ k)]at h;cases h
  | some y=>
   obtain⟨h1,h2,h3⟩:=ih hk
   cases he:ps[k]? with
   | none=>
    unfold usL at h;rw[hk]at h;simp only[he]at h;first | (injection h with h;subst h;exact⟨h1,h2,h3⟩) | cases h
   | some p=>
    rw[usL_step hk he]at h;split at h
    ·rename_i ho;injection h with h;subst h;obtain⟨g1,g2⟩:=use_pgs ho h2 (hps p (List.mem_of_getElem? he));exact⟨use_mev ho,g1,g2.trans h3⟩
    ·cases h
theorem usV_mev{M:Me}{ps:List Int}(hg:Pgs M.m)(hps:∀p∈ps,pgo p)(h:usO M ps=true):mev (usV M ps)=true∧Pgs (usV M ps).m∧(usV M ps).mk.length=M.mk.length:=by
 cases hx:usA M ps with
 | none=>rw[(usA_no hx).1]at h;cases h
 | some x=>
  rw[(usA_yes hx).2.1];unfold usA at hx;split at hx
  ·rename_i hc;exact usL_mev hc.1 hg hps hx
  ·cases hx
theorem MeM.gr{B B':Nat}{w w':World}{g p:Nat}{v1 v2 v3 v4 v5:Value}{M:Me}(h:MeM B w v1 v2 v3 v4 v5 M)(hr:Rdr B' w g p)(hg:w.grownBy w' (some g)):MeM B w' v1 v2 v3 v4 v5 M:=⟨h.m.gr hr hg,h.k.gr hr hg (by decide)⟩
theorem Own.rdr{B:Nat}{w w':World}{b g p:Nat}{t:TypeId}{cs:Array Value}(h:Own w b t cs)(hr:Rdr B w g p)(hg:w.grownBy w' (some g))(ht:t≠139):Own w' b t cs:=by
 obtain⟨A,n,c,ho,_⟩:=hr.ok;exact own_gr h hg (h.ne ho ht)
theorem rdr_sets{B g p b:Nat}(hne:g≠b)(hB:B≤b):∀{us:List Value} {i:Nat} {w:World},Rdr B w g p→Rdr B (sets b i us w) g p
 | [],_,_,h=>h
 | u::us,i,w,h=>rdr_sets hne hB (us:=us) (i:=i+1) (rdr_far h hne hB)
theorem g_sets{w0:World}{r:Option Nat}{b:Nat}(hb:w0.heap.size≤b):∀{us:List Value} {i:Nat} {w:World},w0.grownBy w r→w0.grownBy (sets b i us w) r
 | [],_,_,h=>h
 | u::us,i,w,h=>g_sets hb (us:=us) (i:=i+1) (g_set hb h)
structure Dw(w:World)(r B g p g3:Nat)(M:Me)(v1 v2 v3 v4 v5:Value)(wr:World):Prop where
 ob:Own wr g3 37 #[v1,v2,v3,.int .i64 M.m.c.hand,.int .i64 M.m.g.count,.int .i64 M.m.g.next,.int .i64 M.m.g.round,v4,.int .i64 M.m.sp,v5,.int .i64 M.h]
 rr:Own wr r 37 #[.slice none 0 0,.slice none 0 0,.slice none 0 0,.int .i64 0,.int .i64 0,.int .i64 0,.int .i64 0,.slice none 0 0,.int .i64 0,.slice none 0 0,.int .i64 0]
 mm:MeM B wr v1 v2 v3 v4 v5 M
 rd:Rdr B wr g p
 gr:w.grownBy wr (some g)
section
variable {w wr w' : World} {r B g p p' g3 : Nat} {M N : Me} {v1 v2 v3 v4 v5 u1 u2 u3 u4 u5 : Value}
theorem Dw.below(h:Dw w r B g p g3 M v1 v2 v3 v4 v5 wr)(hb:Below wr.heap.size wr w'):Dw w r B g p g3 M v1 v2 v3 v4 v5 w':=
 ⟨h.ob.below hb,h.rr.below hb,h.mm.now hb,rdr_below h.rd hb,gT h.gr (gr_below hb)⟩
theorem Dw.read(h:Dw w r B g p g3 M v1 v2 v3 v4 v5 wr)(hr:Rdr B w' g p')(hg:wr.grownBy w' (some g)):Dw w r B g p' g3 M v1 v2 v3 v4 v5 w':=
 ⟨h.ob.rdr h.rd hg (by decide),h.rr.rdr h.rd hg (by decide),h.mm.gr h.rd hg,hr,gT h.gr hg⟩
theorem Dw.ne(h:Dw w r B g p g3 M v1 v2 v3 v4 v5 wr):g≠g3:=by
 obtain⟨A,n,c,ho,_⟩:=h.rd.ok;exact fun e=>h.ob.ne ho (by decide) e.symm
theorem Dw.put(h:Dw w r B g p g3 M v1 v2 v3 v4 v5 wr)(hm:MeM B wr u1 u2 u3 u4 u5 N)(hB:B≤w.heap.size)(h0:w.heap.size≤r)(h3:r<g3):
  Dw w r B g p g3 N u1 u2 u3 u4 u5 (sets g3 0 [u1,u2,u3,.int .i64 N.m.c.hand,.int .i64 N.m.g.count,.int .i64 N.m.g.next,.int .i64 N.m.g.round,u4,.int .i64 N.m.sp,u5,.int .i64 N.h] wr):=
 ⟨set11 h.ob _ _ _ _ _ _ _ _ _ _ _,Own.fars (by omega) h.rr,hm.sets h.ob,rdr_sets h.ne (by omega) h.rd,g_sets (by omega) h.gr⟩
end
theorem Dw.other{w wr:World}{r B g p g3 b:Nat}{M:Me}{v1 v2 v3 v4 v5:Value}{cs:Array Value}{us:List Value}(h:Dw w r B g p g3 M v1 v2 v3 v4 v5 wr)(ho:Own wr b 37 cs)(h1:b≠g3)(h0:w.heap.size≤r)(h2:r<b)(hB:B≤w.heap.size):Dw w r B g p g3 M v1 v2 v3 v4 v5 (sets b 0 us wr):=by
 obtain⟨A,n,c,hor,_⟩:=h.rd.ok;exact⟨Own.fars (fun e=>h1 e.symm) h.ob,Own.fars (by omega) h.rr,h.mm.sets ho,rdr_sets (fun e=>ho.ne hor (by decide) e.symm) (by omega) h.rd,g_sets (by omega) h.gr⟩
theorem mev_new{m:Ma}(hv:mav m=true):mev ⟨m,List.replicate m.t.fs.length false,0⟩=true:=by
 have:=mav_fslen hv;refine mev_MEV.2 ⟨mav_MV.1 hv,by simp,inR_iff.2 (by simp;omega),fun i hi=> ?_⟩;have hi:(List.replicate m.t.fs.length false)[i]?=some true:=hi;rw[List.getElem?_replicate]at hi;split at hi<;>cases hi
theorem mev_clear{M:Me}(hv:mev M=true){mk:List Bool}(hl:mk.length=M.mk.length)(hk:∀i:Nat,mk[i]?≠some true):mev ⟨M.m,mk,M.h⟩=true:=by
 have V:=mev_MEV.1 hv;exact mev_MEV.2 ⟨V.m,hl.trans V.ln,V.h,fun i hi=>absurd hi (hk i)⟩
structure TT(st:Prop)(v v':World):Prop where
 oth:Oth (fun e=>e=37∨e=139) v v'
 own:¬st→∀b cs,Own v b 37 cs→Own v' b 37 cs
 any:∀b (cs:Array Value),Own v b 37 cs→∃cs':Array Value,cs'.size=cs.size∧Own v' b 37 cs'
theorem TT.below{st:Prop}{v v':World}(h:Below v.heap.size v v'):TT st v v':=⟨Oth.of_below h,fun _ _ _ o=>o.below h,fun _ cs o=>⟨cs,rfl,o.below h⟩⟩
theorem TT.read{st:Prop}{v v':World}{B g p:Nat}(hr:Rdr B v g p)(hg:v.grownBy v' (some g)):TT st v v':=by
 obtain⟨A,n,c,ho,_⟩:=hr.ok;have h:=oth_gr hg ho;exact⟨⟨h.1,fun b e cs o hn=>h.2 b e cs o (fun h=>hn (.inr h))⟩,fun _ b cs o=>h.2 b _ cs o (by decide),fun b cs o=>⟨cs,rfl,h.2 b _ cs o (by decide)⟩⟩
theorem TT.sets{st:Prop}{v:World}{b:Nat}{cs:Array Value}(ho:Own v b 37 cs)(hst:st)(us:List Value):TT st v (Go.Proofs.YtfbnokjdkhcgoaaGreatDoor.sets b 0 us v):=by
 have h:=sets_oth (us:=us) (i:=0) ho;refine⟨⟨h.1,fun b' e cs' o hn=>h.2 b' e cs' o (fun h=>hn (.inl h))⟩,fun hn=>absurd hst hn,fun b' cs' o=> ?_⟩;by_cases hb:b'=b
 ·subst hb;exact⟨_,setA_size us 0 cs',o.sets⟩
 ·exact⟨cs',rfl,Own.fars hb o⟩
structure DwC(w:World)(B g q g3:Nat)(M:Me)(v1 v2 v3 v4 v5:Value)(s:Nat)(D:Nat→Bool)(v:World):Prop where
 d:∃p,p≤q+(if D 2=true then 13 else 0)∧Dw w w.heap.size B g p g3 M v1 v2 v3 v4 v5 v
 sz:s≤v.heap.size
section
variable {w v v' : World} {B g q g3 s i : Nat} {M : Me} {v1 v2 v3 v4 v5 : Value} {D : Nat → Bool}
theorem DwC.below(h:DwC w B g q g3 M v1 v2 v3 v4 v5 s D v)(hb:Below v.heap.size v v')(hi:i≠2):DwC w B g q g3 M v1 v2 v3 v4 v5 s (dn D i) v':=by
 obtain⟨⟨p,hp,d⟩,hs⟩:=h;exact⟨⟨p,by rw[dn_ne (fun h=>hi h.symm)];exact hp,d.below hb⟩,Nat.le_trans hs hb.size⟩
end
def DG(B:Nat)(v:World)(u:Value):Prop:=∃(N:Me) (ok:Bool) (e1 e2 e3 e4 e5 pl:Value),u=.tuple #[.agg #[e1,e2,e3,.int .i64 N.m.c.hand,.int .i64 N.m.g.count,.int .i64 N.m.g.next,.int .i64 N.m.g.round,e4,.int .i64 N.m.sp,e5,.int .i64 N.h],pl,.bool ok]∧MeM B v e1 e2 e3 e4 e5 N∧(ok=true→mev N=true∧Pgs N.m)
def RD(B s g:Nat)(m0:Value)(j:Nat)(_:Nat→Bool)(x:Nat→Value)(v:World):Prop:=match j with
 | 0=>x 15=m0
 | 1=>x 16=.pointer (some ⟨g,0,none⟩)
 | 2=>∃ps:List Int,SlM intE 3 B v (x 17) ps∧ps.length≤12∧∀p∈ps,pgo p
 | 3=>DG B v (x 18)
 | 4=>DG B v (x 14)
 | 5=>(∃c l o,x 14=.tuple #[c,l,o]∧x 19=c)∧∃(N:Me) (e1 e2 e3 e4 e5:Value),x 19=.agg #[e1,e2,e3,.int .i64 N.m.c.hand,.int .i64 N.m.g.count,.int .i64 N.m.g.next,.int .i64 N.m.g.round,e4,.int .i64 N.m.sp,e5,.int .i64 N.h]∧MeM B v e1 e2 e3 e4 e5 N
 | 6=>∃c l o,x 14=.tuple #[c,l,o]∧x 20=l
 | 7=>∃c l o,x 14=.tuple #[c,l,o]∧x 21=o
 | 8=>∃(b:Nat) (cs:Array Value),x 5=.pointer (some ⟨b,0,none⟩)∧s≤b∧cs.size=11∧Own v b 37 cs
 | 9=>∃(b:Nat) (cs:Array Value),x 5=.pointer (some ⟨b,0,none⟩)∧s≤b∧x 19=.agg cs∧Own v b 37 cs
 | 10=>x 6=x 20
 | 11=>x 7=x 21
 | _=>True
def rdsD:List (List Nat):=[[15],[16],[17],[18],[14],[14,19],[14,20],[14,21],[5],[5,19],[6,20],[7,21]]
theorem RD_loc{B s g:Nat}{m0:Value}:∀j D x y v,(∀t∈rdsD.getD j [],x t=y t)→RD B s g m0 j D x v→RD B s g m0 j D y v:=by
 intro j D x y v h hr
 match j with
 | 0=>have:=h 15 (by simp[rdsD]);unfold RD at hr⊢;rw[←this];exact hr
 | 1=>have:=h 16 (by simp[rdsD]);unfold RD at hr⊢;rw[←this];exact hr
 | 2=>have:=h 17 (by simp[rdsD]);unfold RD at hr⊢;rw[←this];exact hr
 | 3=>have:=h 18 (by simp[rdsD]);unfold RD at hr⊢;rw[←this];exact hr
 | 4=>have:=h 14 (by simp[rdsD]);unfold RD at hr⊢;rw[←this];exact hr
 | 5=>have h1:=h 14 (by simp[rdsD]);have h2:=h 19 (by simp[rdsD]);unfold RD at hr⊢;rw[←h1,←h2];exact hr
 | 6=>have h1:=h 14 (by simp[rdsD]);have h2:=h 20 (by simp[rdsD]);unfold RD at hr⊢;rw[←h1,←h2];exact hr
 | 7=>have h1:=h 14 (by simp[rdsD]);have h2:=h 21 (by simp[rdsD]);unfold RD at hr⊢;rw[←h1,←h2];exact hr
 | 8=>have h1:=h 5 (by simp[rdsD]);unfold RD at hr⊢;rw[←h1];exact hr
 | 9=>have h1:=h 5 (by simp[rdsD]);have h2:=h 19 (by simp[rdsD]);unfold RD at hr⊢;rw[←h1,←h2];exact hr
 | 10=>have h1:=h 6 (by simp[rdsD]);have h2:=h 20 (by simp[rdsD]);unfold RD at hr⊢;rw[←h1,←h2];exact hr
 | 11=>have h1:=h 7 (by simp[rdsD]);have h2:=h 21 (by simp[rdsD]);unfold RD at hr⊢;rw[←h1,←h2];exact hr
 | _+12=>trivial
theorem MeM.othR{B:Nat}{v v':World}{e1 e2 e3 e4 e5:Value}{N:Me}(h:MeM B v e1 e2 e3 e4 e5 N)(ho:Oth (fun e=>e=37∨e=139) v v'):MeM B v' e1 e2 e3 e4 e5 N:=
 h.oth ho (by decide) (by decide) (by decide) (by decide) (by decide)
theorem RD_keep{B s g:Nat}{m0:Value}:∀i j D x v v',i≠j→D i=false→RD B s g m0 j D x v→TT (i=9) v v'→RD B s g m0 j (dn D i) x v':=by
 intro i j D x v v' hij _ hr ht
 match j with
 | 0=>exact hr
 | 1=>exact hr
 | 2=>obtain⟨ps,h1,h2⟩:=hr;exact⟨ps,h1.oth ht.oth (by decide),h2⟩
 | 3=>obtain⟨N,ok,e1,e2,e3,e4,e5,pl,h1,h2,h3⟩:=hr;exact⟨N,ok,e1,e2,e3,e4,e5,pl,h1,h2.othR ht.oth,h3⟩
 | 4=>obtain⟨N,ok,e1,e2,e3,e4,e5,pl,h1,h2,h3⟩:=hr;exact⟨N,ok,e1,e2,e3,e4,e5,pl,h1,h2.othR ht.oth,h3⟩
 | 5=>obtain⟨h0,N,e1,e2,e3,e4,e5,h1,h2⟩:=hr;exact⟨h0,N,e1,e2,e3,e4,e5,h1,h2.othR ht.oth⟩
 | 6=>exact hr
 | 7=>exact hr
 | 8=>
  obtain⟨b,cs,h1,h2,h3,h4⟩:=hr;obtain⟨cs',h5,h6⟩:=ht.any b cs h4;exact⟨b,cs',h1,h2,h5.trans h3,h6⟩
 | 9=>obtain⟨b,cs,h1,h2,h3,h4⟩:=hr;exact⟨b,cs,h1,h2,h3,ht.own hij b cs h4⟩
 | 10=>exact hr
 | 11=>exact hr
 | _+12=>trivial
theorem run_append_b(base:Nat)(W:World)(v:Value)(n:Nat)(l:List Bool)(x:Bool)(hown:W.ownsRow base 4 1 v n (boE.cells l))(hn:l.length=n)(hs:n≤1048576)(hb:base≤W.heap.size):
  ∃v' w',(Builtin.append_ #[35,35] 35 #[v,.slice (some ⟨W.heap.size,0,none⟩) 1 1]).run Tryz.prog (W.alloc (.cells #[.bool x] 4))=.ok v' w'∧
   w'.ownsRow base 4 1 v' (n+1) (boE.cells (l++[x]))∧(W.alloc (.cells #[.bool x] 4)).grownBy w' v.ownBlock∧(v'.ownBlock=v.ownBlock∨v'.ownBlock=some (W.heap.size+1)):=by
 obtain⟨i0,hi0,hz0,hz1,hz2⟩:=info_parts bo_info;exact run_append_el boE 35 4 i0 _ 1 Tryz.underlying35 hi0 hz0 hz1 hz2 rfl (by omega) base W v n l x hown hn hs hb
section
variable {w wr w7 : World} {r B g p g3 b : Nat} {M N : Me} {v1 v2 v3 v4 v5 v7 u1 u2 u3 u4 : Value}
theorem Dw.put10(h:Dw w r B g p g3 M v1 v2 v3 v4 v5 wr)(hB:B≤w.heap.size)(h0:w.heap.size≤r)(h3:r<g3)(z:Int):
  ∃W,wr.setCell ⟨g3,10,none⟩ (.int .i64 z)=W∧Dw w r B g p g3 ⟨M.m,M.mk,z⟩ v1 v2 v3 v4 v5 W∧W.heap.size=wr.heap.size:=by
 obtain⟨W,hW,ho,hot,hs,hf,_⟩:=put1_10 h.ob (.int .i64 z);have hm:=h.mm.othm hot;refine⟨W,hW,⟨ho,hf _ _ _ (by omega) h.rr,⟨hm.m,hm.k⟩, ?_, ?_⟩,hs⟩
 ·rw[←hW];exact rdr_far h.rd h.ne (by omega)
 ·rw[←hW];exact g_set (by omega) h.gr
theorem dw_put_k{mk:List Bool}(ob:Own wr g3 37 #[v1,v2,v3,.int .i64 M.m.c.hand,.int .i64 M.m.g.count,.int .i64 M.m.g.next,.int .i64 M.m.g.round,v4,.int .i64 M.m.sp,v5,.int .i64 M.h])(rr:Own wr r 37 #[.slice none 0 0,.slice none 0 0,.slice none 0 0,.int .i64 0,.int .i64 0,.int .i64 0,.int .i64 0,.slice none 0 0,.int .i64 0,.slice none 0 0,.int .i64 0])(mm:MaM B wr v1 v2 v3 v4 M.m)(rd:Rdr B wr g p)(gr:w.grownBy wr (some g))(hk:SlM boE 4 B wr v7 mk)(hB:B≤w.heap.size)(h0:w.heap.size≤r)(h3:r<g3):
  ∃W,wr.setCell ⟨g3,9,none⟩ v7=W∧Dw w r B g p g3 ⟨M.m,mk,M.h⟩ v1 v2 v3 v4 v7 W∧W.heap.size=wr.heap.size:=by
 obtain⟨W,hW,ho,hot,hs,hf,_⟩:=put1_9 ob v7;obtain⟨A,n,c,hor,_⟩:=rd.ok;refine⟨W,hW,⟨ho,hf _ _ _ (by omega) rr,⟨mm.othm hot,hk.oth hot (by decide)⟩, ?_, ?_⟩,hs⟩
 ·rw[←hW];exact rdr_far rd (fun e=>ob.ne hor (by decide) e.symm) (by omega)
 ·rw[←hW];exact g_set (by omega) gr
theorem Dw.put_m(h:Dw w r B g p g3 M v1 v2 v3 v4 v5 wr){m:Ma}(hm:MaM B wr u1 u2 u3 u4 m)(hB:B≤w.heap.size)(h0:w.heap.size≤r)(h3:r<g3):
  ∃W,((((((((wr.setCell ⟨g3,0,none⟩ u1).setCell ⟨g3,1,none⟩ u2).setCell ⟨g3,2,none⟩ u3).setCell ⟨g3,3,none⟩ (.int .i64 m.c.hand)).setCell ⟨g3,4,none⟩ (.int .i64 m.g.count)).setCell ⟨g3,5,none⟩ (.int .i64 m.g.next)).setCell ⟨g3,6,none⟩ (.int .i64 m.g.round)).setCell ⟨g3,7,none⟩ u4).setCell ⟨g3,8,none⟩ (.int .i64 m.sp)=W∧Dw w r B g p g3 ⟨m,M.mk,M.h⟩ u1 u2 u3 u4 v5 W∧W.heap.size=wr.heap.size:=by
 obtain⟨W,hW,ho,hot,hs,hf,_⟩:=put9 h.ob u1 u2 u3 (.int .i64 m.c.hand) (.int .i64 m.g.count) (.int .i64 m.g.next) (.int .i64 m.g.round) u4 (.int .i64 m.sp);refine⟨W,hW,⟨ho,hf _ _ _ (by omega) h.rr,⟨hm.othm hot,(h.mm.othm hot).k⟩, ?_, ?_⟩,hs⟩
 ·rw[←hW];exact rdr_sets (us:=[u1,u2,u3,.int .i64 m.c.hand,.int .i64 m.g.count,.int .i64 m.g.next,.int .i64 m.g.round,u4,.int .i64 m.sp]) (i:=0) h.ne (by omega) h.rd
 ·rw[←hW];exact g_sets (us:=[u1,u2,u3,.int .i64 m.c.hand,.int .i64 m.g.count,.int .i64 m.g.next,.int .i64 m.g.round,u4,.int .i64 m.sp]) (i:=0) (by omega) h.gr
theorem Dw.res(h:Dw w r B g p g3 M v1 v2 v3 v4 v5 wr)(hB:B≤w.heap.size)(h0:w.heap.size≤r):
  ∃W,((((((((((wr.setCell ⟨r,0,none⟩ v1).setCell ⟨r,1,none⟩ v2).setCell ⟨r,2,none⟩ v3).setCell ⟨r,3,none⟩ (.int .i64 M.m.c.hand)).setCell ⟨r,4,none⟩ (.int .i64 M.m.g.count)).setCell ⟨r,5,none⟩ (.int .i64 M.m.g.next)).setCell ⟨r,6,none⟩ (.int .i64 M.m.g.round)).setCell ⟨r,7,none⟩ v4).setCell ⟨r,8,none⟩ (.int .i64 M.m.sp)).setCell ⟨r,9,none⟩ v5).setCell ⟨r,10,none⟩ (.int .i64 M.h)=W
   ∧Own W r 37 #[v1,v2,v3,.int .i64 M.m.c.hand,.int .i64 M.m.g.count,.int .i64 M.m.g.next,.int .i64 M.m.g.round,v4,.int .i64 M.m.sp,v5,.int .i64 M.h]∧MeM B W v1 v2 v3 v4 v5 M∧Rdr B W g p∧w.grownBy W (some g):=by
 obtain⟨W,hW,ho,hot,hs,hf,_⟩:=put11 h.rr v1 v2 v3 (.int .i64 M.m.c.hand) (.int .i64 M.m.g.count) (.int .i64 M.m.g.next) (.int .i64 M.m.g.round) v4 (.int .i64 M.m.sp) v5 (.int .i64 M.h);obtain⟨A,n,c,hor,_⟩:=h.rd.ok;refine⟨W,hW,ho,h.mm.othm hot, ?_, ?_⟩
 ·rw[←hW];exact rdr_sets (us:=[v1,v2,v3,.int .i64 M.m.c.hand,.int .i64 M.m.g.count,.int .i64 M.m.g.next,.int .i64 M.m.g.round,v4,.int .i64 M.m.sp,v5,.int .i64 M.h]) (i:=0) (fun e=>h.rr.ne hor (by decide) e.symm) (by omega) h.rd
 ·rw[←hW];exact g_sets (us:=[v1,v2,v3,.int .i64 M.m.c.hand,.int .i64 M.m.g.count,.int .i64 M.m.g.next,.int .i64 M.m.g.round,v4,.int .i64 M.m.sp,v5,.int .i64 M.h]) (i:=0) (by omega) h.gr
theorem Dw.app(h:Dw w r B g p g3 M v1 v2 v3 v4 v5 wr){x:Bool}(hw:wr.ownsRow b 4 1 v5 M.mk.length (boE.cells M.mk))(hb:w.heap.size≤b)(hB:B≤w.heap.size)
  (hg7:(wr.alloc (.cells #[.bool x] 4)).grownBy w7 v5.ownBlock) (hown7:w7.ownsRow b 4 1 v7 (M.mk.length+1) (boE.cells (M.mk++[x]))):
  SlM boE 4 B w7 v7 (M.mk++[x])∧Own w7 g3 37 #[v1,v2,v3,.int .i64 M.m.c.hand,.int .i64 M.m.g.count,.int .i64 M.m.g.next,.int .i64 M.m.g.round,v4,.int .i64 M.m.sp,v5,.int .i64 M.h]∧Own w7 r 37 #[.slice none 0 0,.slice none 0 0,.slice none 0 0,.int .i64 0,.int .i64 0,.int .i64 0,.int .i64 0,.slice none 0 0,.int .i64 0,.slice none 0 0,.int .i64 0]∧MaM B w7 v1 v2 v3 v4 M.m∧Rdr B w7 g p∧w.grownBy w7 (some g):=by
 obtain⟨A,n,c,hor,_⟩:=h.rd.ok;have hbl:∀k,v5.ownBlock=some k→b≤k:=own_block hw
 have hne:∀{k:Nat} {t:TypeId} {cs:Array Value},Own wr k t cs→4≠t→some k≠v5.ownBlock:=by
  intro k t cs o ht;rcases own_ne hw o ht with h2 | h2
  ·rw[h2];simp
  ·exact fun e=>h2 e.symm
 refine⟨(slm_own (by simp) hown7).mono (by omega),own_other (h.ob.alloc (o:=.cells #[.bool x] 4)) hg7 (hne h.ob (by decide)),own_other (h.rr.alloc (o:=.cells #[.bool x] 4)) hg7 (hne h.rr (by decide)), ?_, ?_, ?_⟩
 ·have hot:Oth (fun e=>e=4) wr w7:=⟨Nat.le_trans (by simp) hg7.size,fun k e cs o hn=>own_other (o.alloc (o:=.cells #[.bool x] 4)) hg7 (hne o (fun e=>hn e.symm))⟩
  exact h.mm.m.oth hot (by decide) (by decide) (by decide) (by decide)
 ·exact rdr_row (rdr_alloc h.rd (.cells #[.bool x] 4)) hg7 (hne hor (by decide)) (fun k hk=>by have:=hbl k hk;omega)
 ·exact gG (gT h.gr (gr_below (g:=g) (bA (bR (w:=wr)) (o:=.cells #[.bool x] 4)))) hg7 (fun k hk=>by have:=hbl k hk;omega)
theorem Dw.turn{g5 c5 k:Nat}{x:Bool}(h:Dw w r B g p g3 M v1 v2 v3 v4 (.slice (some ⟨g5,0,none⟩) M.mk.length c5) wr)(hw:wr.ownsRow b 4 1 (.slice (some ⟨g5,0,none⟩) M.mk.length c5) M.mk.length (boE.cells M.mk))(hb:w.heap.size≤b)(hB:B≤w.heap.size)(hk:M.mk[k]?=some x)(y:Bool):
  wr.cell? ⟨g5,k,none⟩=some (.bool x)∧wr.frozen? ⟨g5,k,none⟩=false∧g5<wr.heap.size∧∃W,wr.setCell ⟨g5,k,none⟩ (.bool y)=W∧Dw w r B g p g3 ⟨M.m,M.mk.set k y,M.h⟩ v1 v2 v3 v4 (.slice (some ⟨g5,0,none⟩) M.mk.length c5) W:=by
 have hkl:=(List.getElem?_eq_some_iff.1 hk).1;obtain⟨hmi,_,hlc,hcm⟩:=h.mm.k.own_;obtain⟨b1,o1,e1,_,e2⟩:=hmi.is.b1 hk;injection e1 with e1;injection e1 with e1 e3;subst e1 e3;rw[Nat.zero_add]at e2;obtain⟨_,cs,e4,hBg,ho,_⟩:=hmi.own (by omega);injection e4 with e4;injection e4 with e4;subst e4;have hg5:b≤g5:=own_block hw g5 rfl;obtain⟨A,n,c,hor,_⟩:=h.rd.ok;refine⟨e2,ho.free k,ho.lt,_,rfl,⟨h.ob.far (p:=⟨g5,k,none⟩) (h.ob.ne ho (by decide)),h.rr.far (p:=⟨g5,k,none⟩) (h.rr.ne ho (by decide)),⟨?_,slm_of (by simp) (by simpa using hlc) hcm (hmi.wbo hk y)⟩,rdr_far h.rd (fun e=>ho.ne hor (by decide) e.symm) hBg,g_set (by omega) h.gr⟩⟩;exact h.mm.m.oth (p:=fun e=>e=4) (stS_set (n:=cs.size) (i:=k) (u:=.bool y) ho).1 (by decide) (by decide) (by decide) (by decide)
end
theorem mine_of{α:Type}{E:Enc α}{e:TypeId}{B g:Nat}{W:World}{cs:Array Value}{l:List α}(ho:Own W g e cs)(hc:cs.toList=E.cells l)(hB:B≤g):MineE E e B W (some ⟨g,0,none⟩) l:=
 ⟨⟨by rw[Enc.cells_length],fun _=>⟨g,0,rfl,ho.lt,fun j u hu=>by rw[Nat.zero_add,ho.cell j,←Array.getElem?_toList,hc];exact hu⟩⟩,fun _=>⟨g,cs,rfl,hB,ho,by rw[←Array.length_toList,hc,Enc.cells_length];exact Nat.le_refl _⟩⟩
theorem made_five:(madeCells #[.int .i64 0] (5*1)).toList=intE.cells [0,0,0,0,0]:=by kernel_rfl
theorem make_five:∃cs:Array Value,cs.toList=intE.cells [0,0,0,0,0]∧∀w:World,(Instr.makeSlice 23 (.int .i64 5) (.int .i64 5)).run Tryz.prog w=.ok (.slice (some ⟨w.heap.size,0,none⟩) 5 5) (w.alloc (.cells cs 3)):=by
 refine⟨_,made_five,fun w=> ?_⟩;obtain⟨i0,hi0,hz0,hz1,hz2⟩:=info_parts int_info2;have hb:(i0.bytes:Int)*((5:Nat):Int)≤281474976710656:=by rw[hz2];decide
 have hr:=run_make (P:=Tryz.prog) w 23 3 i0 _ Tryz.underlying23 hi0 hz0 .i64 .i64 5 5 (by omega) (by omega) hb (by omega);simp only[Int.toNat_natCast,hz1]at hr;exact hr
theorem usL_bd {M:Me} {ps:List Int}:∀{k:Nat} {x:Me×List Int},usL M ps k=some x→∀(i:Nat) (c:Int),x.2[i]?=some c→0≤c∧c≤k
  | 0,x,e,i,c,hc=>by
    rw[usL]at e;injection e with e;subst e;have:∀z∈([0,0,0,0,0]:List Int),z=0:=by decide
    have:=this c (List.mem_of_getElem? hc);omega
  | k + 1, x, e,i,c,hc=>by
    rw[usL]at e
    cases h:usL M ps k with
    | none=>rw[h]at e;cases e
    | some y=>
      rw[h]at e;have hy:=usL_bd h
      cases h2:ps[k]? with
      | none=>rw[h2]at e;cases e
      | some p=>
        rw[h2]at e;simp only at e;split at e
        · injection e with e
          subst e;have hc:(bmp y.2 (useR y.1 p 1 1).toNat)[i]?=some c:=hc;unfold bmp at hc;rw[List.getElem?_set]at hc;split at hc
          · rename_i hi
            split at hc
            · rename_i hl
              injection hc with hc;rw[List.getD_eq_getElem?_getD,List.getElem?_eq_getElem hl]at hc;have:=hy _ _ (List.getElem?_eq_getElem hl);simp only[Option.getD_some]at hc;omega
            · cases hc
          · have:=hy i c hc
            omega
        · cases e
theorem usA_bad{M:Me}{ps:List Int}{k:Nat}(h:usL M ps k=none)(hk:k≤ps.length):usA M ps=none:=by
 unfold usA;rw[usL_bad h hk];split<;>rfl
theorem usA_v{M:Me}{ps:List Int}(h:mev M=false):usA M ps=none:=by unfold usA;rw[h];rfl
theorem usA_l{M:Me}{ps:List Int}(h:¬ps.length≤64):usA M ps=none:=by unfold usA;rw[if_neg (fun x=>h x.2)]
theorem usA_end{M:Me}{ps:List Int}{x:Me×List Int}(h1:mev M=true)(h2:ps.length≤64)(h:usL M ps ps.length=some x):usA M ps=some x:=by unfold usA;rw[if_pos ⟨h1,h2⟩,h]
section
variable {w : World} {G : Nat} {v1 v2 v3 v4 v5 : Value} {N : Me} {v v' : World}
theorem Us.allo(k:Us w G v1 v2 v3 v4 v5 N v)(hG:w.heap.size+2≤G){u1 u2 u3 u4 u5:Value}{M:Me}(hm:MeM (w.heap.size+2) v u1 u2 u3 u4 u5 M):
  ∃W,((((((((((v.setCell ⟨G,0,none⟩ u1).setCell ⟨G,1,none⟩ u2).setCell ⟨G,2,none⟩ u3).setCell ⟨G,3,none⟩ (.int .i64 M.m.c.hand)).setCell ⟨G,4,none⟩ (.int .i64 M.m.g.count)).setCell ⟨G,5,none⟩ (.int .i64 M.m.g.next)).setCell ⟨G,6,none⟩ (.int .i64 M.m.g.round)).setCell ⟨G,7,none⟩ u4).setCell ⟨G,8,none⟩ (.int .i64 M.m.sp)).setCell ⟨G,9,none⟩ u5).setCell ⟨G,10,none⟩ (.int .i64 M.h)=W∧
   Us w G u1 u2 u3 u4 u5 M W∧Oth (fun e=>e=37) v W:=by
 obtain⟨W,e,h1,h2,h3,h4,h5⟩:=put11 k.ob u1 u2 u3 (.int .i64 M.m.c.hand) (.int .i64 M.m.g.count) (.int .i64 M.m.g.next) (.int .i64 M.m.g.round) u4 (.int .i64 M.m.sp) u5 (.int .i64 M.h);exact⟨W,e,⟨h1,hm.othm h2,h4 _ _ _ (by omega) k.rb,h5 w (by omega) k.bl⟩,h2⟩
theorem Us.cnt{gc:Nat}{cs:List Int}(k:Us w G v1 v2 v3 v4 v5 N v)(hm:MineE intE 3 (w.heap.size+2) v (some ⟨gc,0,none⟩) cs){B:Nat}(hB:gc<B)(hN:MeM B v v1 v2 v3 v4 v5 N){i:Nat}(hi:i<cs.length)(x:Int):
  ∃W,v.setCell ⟨gc,i,none⟩ (.int .i64 x)=W∧Us w G v1 v2 v3 v4 v5 N W∧MineE intE 3 (w.heap.size+2) W (some ⟨gc,0,none⟩) (cs.set i x)∧MeM B W v1 v2 v3 v4 v5 N:=by
 obtain⟨g,cc,e,hg,ho,hs⟩:=hm.own (by omega);injection e with e;injection e with e1 _ _;subst e1
 have hf:MeM B (v.setCell ⟨gc,i,none⟩ (.int .i64 x)) v1 v2 v3 v4 v5 N:=by
  obtain⟨⟨⟨⟨A1,c1,r1,l1,k1,m1⟩,⟨A2,c2,r2,l2,k2,m2⟩⟩,⟨A3,c3,r3,l3,k3,m3⟩,⟨A4,c4,r4,l4,k4,m4⟩⟩,⟨A5,c5,r5,l5,k5,m5⟩⟩:=hN;exact⟨⟨⟨⟨A1,c1,r1,l1,k1,m1.far (p:=⟨gc,i,none⟩) hB⟩,⟨A2,c2,r2,l2,k2,m2.far (p:=⟨gc,i,none⟩) hB⟩⟩,⟨A3,c3,r3,l3,k3,m3.far (p:=⟨gc,i,none⟩) hB⟩,⟨A4,c4,r4,l4,k4,m4.far (p:=⟨gc,i,none⟩) hB⟩⟩,⟨A5,c5,r5,l5,k5,m5.far (p:=⟨gc,i,none⟩) hB⟩⟩
 exact⟨_,rfl,⟨k.ob.far (p:=⟨gc,i,none⟩) (k.ob.ne ho (by decide)),hf.mono (by omega),k.rb.far (p:=⟨gc,i,none⟩) (k.rb.ne ho (by decide)),bS k.bl (by show w.heap.size≤gc;omega)⟩,hm.wint hi x,hf⟩
theorem MineE.ifz{gc B:Nat}{cs:List Int}{W:World}(hm:MineE intE 3 B W (some ⟨gc,0,none⟩) cs){i:Nat}{c:Int}(hk:cs[i]?=some c):W.cell? ⟨gc,i,none⟩=some (.int .i64 c)∧W.frozen? ⟨gc,i,none⟩=false∧gc<W.heap.size:=by
 obtain⟨g,cc,e,hg,ho,hs⟩:=hm.own (by have:=(List.getElem?_eq_some_iff.1 hk).1;omega);injection e with e;injection e with e1 _ _;subst e1;obtain⟨b,o,e2,hb,hc⟩:=Rd.i1 hm.is hk;injection e2 with e2;injection e2 with e3 e4 _;subst e3 e4;exact⟨by simpa using hc,ho.free i,ho.lt⟩
end
theorem getD_i{cs:List Int}{i:Nat}{c:Int}(h:cs[i]?=some c):cs.getD i 0=c:=by rw[List.getD_eq_getElem?_getD,h];rfl
end Go.Proofs.YtfbnokjdkhcgoaaGreatDoor
