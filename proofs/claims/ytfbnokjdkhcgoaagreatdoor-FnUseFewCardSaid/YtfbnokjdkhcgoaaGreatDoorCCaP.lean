/- A part of the proofs of this seat. -/
import Derived.Deep.RegionHeldLaw
import Derived.Test.YtfbnokjdkhcgoaaGreatDoorCL3
set_option linter.unusedVariables false
set_option linter.unusedSimpArgs false
set_option maxRecDepth 1000000
set_option maxHeartbeats 16000000
namespace Go.Proofs.YtfbnokjdkhcgoaaGreatDoor
open Go.RowKit
theorem Rd.ow{B:Nat}{w:World}{A:Option Addr}{l:List (Int×Int)}(h:Rs owE B w A l){k:Nat}{f:Int×Int}(hk:l[k]?=some f):
  ∃b o,A=some ⟨b,o,none⟩∧b<B∧w.cell? ⟨b,o+k*2,none⟩=some (.int .i64 f.1)∧w.cell? ⟨b,o+k*2+1,none⟩=some (.int .i64 f.2):=by
 obtain⟨b,o,e,hb,hc⟩:=h.el hk;exact⟨b,o,e,hb,hc 0 _ rfl,hc 1 _ rfl⟩
theorem Rd.ln{B:Nat}{w:World}{A:Option Addr}{l:List Ln}(h:Rs lnE B w A l){k:Nat}{f:Ln}(hk:l[k]?=some f):
  ∃b o,A=some ⟨b,o,none⟩∧b<B∧w.cell? ⟨b,o+k*6,none⟩=some (.bool f.v)∧w.cell? ⟨b,o+k*6+1,none⟩=some (.int .i64 f.t)∧w.cell? ⟨b,o+k*6+2,none⟩=some (.int .i64 f.p)
   ∧w.cell? ⟨b,o+k*6+3,none⟩=some (.int .i64 f.f)∧w.cell? ⟨b,o+k*6+4,none⟩=some (.int .i64 f.r)∧w.cell? ⟨b,o+k*6+5,none⟩=some (.bool f.w):=by
 obtain⟨b,o,e,hb,hc⟩:=h.el hk;exact⟨b,o,e,hb,hc 0 _ rfl,hc 1 _ rfl,hc 2 _ rfl,hc 3 _ rfl,hc 4 _ rfl,hc 5 _ rfl⟩
theorem lok_at{ls:List Ln}:∀{n k:Nat},lok ls n=true→k<n→∃x,ls[k]?=some x∧lnok x=true∧∀(r:Nat) (y:Ln),r<k→ls[r]?=some y→clash x y=false:=by
 intro n
 induction n with
 | zero=>intro k _ hk;omega
 | succ n ih=>
  intro k h hk;unfold lok at h;rw[Bool.and_eq_true]at h;obtain⟨h1,h2⟩:=h;rcases Nat.lt_or_ge k n with hlt | hge
  ·exact ih h1 hlt
  ·obtain rfl:k=n:=by omega
   cases e:ls[k]? with
   | none=>rw[e]at h2;cases h2
   | some x=>
    rw[e]at h2;simp only[Bool.and_eq_true,List.all_eq_true]at h2;refine⟨x,rfl,h2.1,fun r y hr ey=> ?_⟩;have h3:=h2.2 y (List.mem_of_getElem? (i:=r) (by rw[List.getElem?_take_of_lt hr];exact ey));simpa using h3
theorem lok_step{ls:List Ln}{k:Nat}{x:Ln}(h:lok ls k=true)(e:ls[k]?=some x)(hx:lnok x=true)(hc:∀(r:Nat) (y:Ln),r<k→ls[r]?=some y→clash x y=false):lok ls (k+1)=true:=by
 unfold lok;rw[h,e];simp only[Bool.true_and,hx];rw[List.all_eq_true];intro y hy;obtain⟨r,hr,e2⟩:=List.getElem_of_mem hy;rw[List.length_take]at hr;rw[List.getElem_take]at e2;have h3:=hc r y (by omega) (by rw[List.getElem?_eq_getElem (by omega),e2]);simp[h3]
theorem cav_parts{c:Ca}(h:cav c=true):1≤c.ls.length∧c.ls.length≤8∧inR c.hand c.ls.length=true∧lok c.ls c.ls.length=true∧c.ls.any (fun x=>!x.w)=true:=by
 unfold cav at h;simp only[Bool.and_eq_true,decide_eq_true_eq]at h;exact⟨h.1.1.1.1,h.1.1.1.2,h.1.1.2,h.1.2,h.2⟩
theorem cav_no{c:Ca}(h:cav c=true→False):cav c=false:=bool_ff h
theorem cav_end{c:Ca}(h1:1≤c.ls.length)(h2:c.ls.length≤8)(h3:inR c.hand c.ls.length=true)(h4:lok c.ls c.ls.length=true):cav c=c.ls.any (fun x=>!x.w):=by
 unfold cav;rw[decide_eq_true h1,decide_eq_true h2,h3,h4];rfl
theorem cav_ln{c:Ca}{k:Nat}{x:Ln}(e:c.ls[k]?=some x)(hx:lnok x=false):cav c=false:=cav_no fun h=>by
 obtain⟨x',e',h1,_⟩:=lok_at (cav_parts h).2.2.2.1 (List.getElem?_eq_some_iff.1 e).1;rw[e]at e';injection e' with e';subst e';rw[hx]at h1;cases h1
theorem cav_clash{c:Ca}{k r:Nat}{x y:Ln}(e:c.ls[k]?=some x)(hr:r<k)(e2:c.ls[r]?=some y)(hx:clash x y=true):cav c=false:=cav_no fun h=>by
 obtain⟨x',e',_,h1⟩:=lok_at (cav_parts h).2.2.2.1 (List.getElem?_eq_some_iff.1 e).1;rw[e]at e';injection e' with e';subst e';rw[h1 r y hr e2]at hx;cases hx
def loose(ls:List Ln)(k:Nat):Bool:=(ls.take k).any (fun x=>!x.w)
theorem loose_step{ls:List Ln}{k:Nat}{x:Ln}(e:ls[k]?=some x):loose ls (k+1)=(loose ls k || !x.w):=by
 obtain⟨hlt,hx⟩:=List.getElem?_eq_some_iff.1 e;unfold loose;rw[List.take_succ_eq_append_getElem hlt,hx,List.any_append];simp
theorem loose_all(ls:List Ln):loose ls ls.length=ls.any (fun x=>!x.w):=by unfold loose;rw[List.take_length]
def tlast(os:List (Int×Int)):Nat→Int
 | 0=>-1
 | j+1=>match os[j]? with | some q=>q.2 | none=>-1
theorem tlast_0(os:List (Int×Int)):tlast os 0=-1:=rfl
theorem tlast_of{os:List (Int×Int)}{j:Nat}{q:Int×Int}(e:os[j]?=some q):tlast os (j+1)=q.2:=by
 show(match os[j]? with | some q=>q.2 | none=>-1)=_;rw[e]
theorem tok_at{os:List (Int×Int)}{n:Int}:∀{m k:Nat},tok os n m=true→k<m→∃o,os[k]?=some o∧inR o.1 16=true∧0≤o.2∧o.2<n∧tlast os k<o.2∧∀(r:Nat) (q:Int×Int),r<k→os[r]?=some q→¬q.1=o.1:=by
 intro m
 induction m with
 | zero=>intro k _ hk;omega
 | succ m ih=>
  intro k h hk;unfold tok at h;rw[Bool.and_eq_true]at h;obtain⟨h1,h2⟩:=h;rcases Nat.lt_or_ge k m with hlt | hge
  ·exact ih h1 hlt
  ·obtain rfl:k=m:=by omega
   cases e:os[k]? with
   | none=>rw[e]at h2;cases h2
   | some o=>
    rw[e]at h2;simp only[Bool.and_eq_true,List.all_eq_true,decide_eq_true_eq]at h2;obtain⟨⟨⟨⟨h3,h4⟩,h5⟩,h6⟩,h7⟩:=h2;refine⟨o,rfl,h3,h4,h5, ?_,fun r q hr eq=> ?_⟩
    ·cases k with
     | zero=>show(-1:Int)<_;omega
     | succ j=>
      cases e2:os[j]? with
      | none=>simp[e2]at h6
      | some q=>rw[tlast_of e2];simpa[e2]using h6
    ·exact h7 q (List.mem_of_getElem? (i:=r) (by rw[List.getElem?_take_of_lt hr];exact eq))
theorem tok_step{os:List (Int×Int)}{n:Int}{k:Nat}{o:Int×Int}(h:tok os n k=true)(e:os[k]?=some o)(h1:inR o.1 16=true)(h2:o.2<n)(h3:tlast os k<o.2)
  (h4:∀(r:Nat) (q:Int×Int),r<k→os[r]?=some q→¬q.1=o.1):tok os n (k+1)=true:=by
 unfold tok;rw[h,e];simp only[Bool.true_and,h1,Bool.and_eq_true,decide_eq_true_eq,List.all_eq_true]
 have h5:0≤o.2:=by
  cases k with
  | zero=>rw[tlast_0]at h3;omega
  | succ j=>
   obtain⟨q,eq,_,h6,_⟩:=tok_at h (Nat.lt_succ_self j);rw[tlast_of eq]at h3;omega
 refine⟨⟨⟨h5,h2⟩, ?_⟩,fun q hq=> ?_⟩
 ·cases k with
  | zero=>rfl
  | succ j=>
   obtain⟨q,eq,_⟩:=tok_at h (Nat.lt_succ_self j);rw[tlast_of eq]at h3;simp only[eq];exact decide_eq_true h3
 ·obtain⟨r,hr,e2⟩:=List.getElem_of_mem hq;rw[List.length_take]at hr;rw[List.getElem_take]at e2;exact h4 r q (by omega) (by rw[List.getElem?_eq_getElem (by omega),e2])
theorem tlast_ge{os:List (Int×Int)}{n:Int}:∀{k:Nat},tok os n k=true→(k:Int)-1≤tlast os k:=by
 intro k
 induction k with
 | zero=>intro _;rw[tlast_0];omega
 | succ k ih=>
  intro h;obtain⟨o,eo,_,_,_,h1,_⟩:=tok_at h (Nat.lt_succ_self k);have h2:tok os n k=true:=by unfold tok at h;rw[Bool.and_eq_true]at h;exact h.1
  have:=ih h2;rw[tlast_of eo];omega
theorem tok_len{os:List (Int×Int)}{n:Int}(h:tok os n os.length=true)(hn:0≤n):(os.length:Int)≤n:=by
 rcases Nat.eq_zero_or_pos os.length with h0 | h0
 ·rw[h0];exact hn
 ·have h1:=tlast_ge h
  obtain⟨j,hj⟩:∃j,os.length=j+1:=⟨os.length-1,by omega⟩
  rw[hj]at h h1;obtain⟨o,eo,_,_,h2,_⟩:=tok_at h (Nat.lt_succ_self j);rw[tlast_of eo]at h1;rw[hj];omega
def tgb(g:Tg):Bool:=decide (1≤g.count) && decide (g.count≤8) && decide (0≤g.next) && decide (g.next≤g.count) && decide (0≤g.round) && decide (g.round≤1000000)
theorem tgv_eq(g:Tg):tgv g=(tgb g && tok g.os g.next g.os.length):=rfl
theorem tgb_iff{g:Tg}:tgb g=true↔1≤g.count∧g.count≤8∧0≤g.next∧g.next≤g.count∧0≤g.round∧g.round≤1000000:=by
 unfold tgb;simp only[Bool.and_eq_true,decide_eq_true_eq,and_assoc]
theorem tgv_parts{g:Tg}(h:tgv g=true):(1≤g.count∧g.count≤8∧0≤g.next∧g.next≤g.count∧0≤g.round∧g.round≤1000000)∧tok g.os g.next g.os.length=true:=by
 rw[tgv_eq,Bool.and_eq_true]at h;exact⟨tgb_iff.1 h.1,h.2⟩
theorem tgv_no{g:Tg}(h:tgv g=true→False):tgv g=false:=bool_ff h
theorem tgv_end{g:Tg}(h1:tgb g=true)(h:tok g.os g.next g.os.length=true):tgv g=true:=by rw[tgv_eq,h1,h];rfl
theorem tgv_ob{g:Tg}{k:Nat}{o:Int×Int}(e:g.os[k]?=some o)(h:inR o.1 16=false∨¬o.2<g.next∨¬tlast g.os k<o.2∨∃(r:Nat) (q:Int×Int),r<k∧g.os[r]?=some q∧q.1=o.1):tgv g=false:=tgv_no fun hv=>by
 obtain⟨o',e',h1,h2,h3,h4,h5⟩:=tok_at (tgv_parts hv).2 (List.getElem?_eq_some_iff.1 e).1;rw[e]at e';injection e' with e';subst e'
 rcases h with h | h | h | ⟨r,q,hr,eq,h⟩
 ·rw[h]at h1;cases h1
 ·exact h h3
 ·exact h h4
 ·exact h5 r q hr eq h
def spO(g:Tg)(tag:Int):Bool:=tgv g && (spc g.os tag).isSome
def spV(g:Tg)(tag:Int):Int:=if tgv g=true then(match spc g.os tag with | some i=>(g.os.getD i (0,0)).1 | none=>0)else 0
def tgO(g:Tg)(s:Int):Bool:=tgv g && decide (0≤ownI g.os s)
def tgT(g:Tg)(s:Int):Int:=if tgO g s=true then(g.os.getD (ownI g.os s).toNat (0,0)).2 else 0
theorem spO_no{g:Tg}{tag:Int}(h:tgv g=false):spO g tag=false∧spV g tag=0:=by unfold spO spV;rw[h];exact⟨rfl,rfl⟩
theorem spO_none{g:Tg}{tag:Int}(h:tgv g=true)(e:spc g.os tag=none):spO g tag=false∧spV g tag=0:=by unfold spO spV;rw[h,e];exact⟨rfl,rfl⟩
theorem spO_some{g:Tg}{tag:Int}{k:Nat}{o:Int×Int}(h:tgv g=true)(e:spc g.os tag=some k)(eo:g.os[k]?=some o):spO g tag=true∧spV g tag=o.1:=by
 unfold spO spV;rw[h,e];refine⟨rfl, ?_⟩;show(g.os.getD k (0,0)).1=o.1;rw[List.getD_eq_getElem?_getD,eo];rfl
theorem spc_at{os:List (Int×Int)}{tag:Int}{k:Nat}{o:Int×Int}(e:os[k]?=some o)(h:∀(j:Nat) (q:Int×Int),j<k→os[j]?=some q→¬q.2=tag)(ho:o.2=tag):spc os tag=some k:=by
 obtain⟨hlt,hk⟩:=List.getElem?_eq_some_iff.1 e;unfold spc;rw[List.findIdx?_eq_some_iff_getElem];refine⟨hlt,by rw[hk];exact decide_eq_true ho,fun j hj=> ?_⟩;have:=h j os[j] hj (List.getElem?_eq_getElem (by omega));simp[this]
theorem spc_none{os:List (Int×Int)}{tag:Int}{n:Nat}(hn:os.length≤n)(h:∀(j:Nat) (q:Int×Int),j<n→os[j]?=some q→¬q.2=tag):spc os tag=none:=by
 unfold spc;rw[List.findIdx?_eq_none_iff];intro x hx;obtain⟨j,hj,e⟩:=List.getElem_of_mem hx;have:=h j x (by omega) (by rw[List.getElem?_eq_getElem hj,e]);simp[this]
theorem spc_go{os:List (Int×Int)}{tag:Int}{k:Nat}{o:Int×Int}(e:os[k]?=some o)(h:∀(j:Nat) (q:Int×Int),j<k→os[j]?=some q→¬q.2=tag)(ho:¬o.2=tag):∀(j:Nat) (q:Int×Int),j<k+1→os[j]?=some q→¬q.2=tag:=by
 intro j q hj hq;rcases Nat.lt_or_ge j k with h1 | h1
 ·exact h j q h1 hq
 ·obtain rfl:j=k:=by omega
  rw[e]at hq;injection hq with hq;rw[←hq];exact ho
theorem own_at{os:List (Int×Int)}{s:Int}{k:Nat}{o:Int×Int}(e:os[k]?=some o)(h:∀(j:Nat) (q:Int×Int),j<k→os[j]?=some q→¬q.1=s)(ho:o.1=s):ownI os s=k:=by
 obtain⟨hlt,hk⟩:=List.getElem?_eq_some_iff.1 e
 have:own os s=some k:=by
  unfold own;rw[List.findIdx?_eq_some_iff_getElem];refine⟨hlt,by rw[hk];exact decide_eq_true ho,fun j hj=> ?_⟩;have:=h j os[j] hj (List.getElem?_eq_getElem (by omega));simp[this]
 unfold ownI;rw[this]
theorem own_none{os:List (Int×Int)}{s:Int}{n:Nat}(hn:os.length≤n)(h:∀(j:Nat) (q:Int×Int),j<n→os[j]?=some q→¬q.1=s):ownI os s=-1:=by
 have:own os s=none:=by
  unfold own;rw[List.findIdx?_eq_none_iff];intro x hx;obtain⟨j,hj,e⟩:=List.getElem_of_mem hx;have:=h j x (by omega) (by rw[List.getElem?_eq_getElem hj,e]);simp[this]
 unfold ownI;rw[this]
theorem own_go{os:List (Int×Int)}{s:Int}{k:Nat}{o:Int×Int}(e:os[k]?=some o)(h:∀(j:Nat) (q:Int×Int),j<k→os[j]?=some q→¬q.1=s)(ho:¬o.1=s):∀(j:Nat) (q:Int×Int),j<k+1→os[j]?=some q→¬q.1=s:=by
 intro j q hj hq;rcases Nat.lt_or_ge j k with h1 | h1
 ·exact h j q h1 hq
 ·obtain rfl:j=k:=by omega
  rw[e]at hq;injection hq with hq;rw[←hq];exact ho
theorem chain_none{t:Tab}(h:tv t=true){s p:Int}(hk:kval (s,p)=true){ch:List Nat}(hc:bch t (bkt t s p)=some ch)
  (hn:∀(m j:Nat) (f:Fr),ch[m]?=some j→t.fs[j]?=some f→¬(f.s,f.p)=(s,p)):fndI t.fs s p=-1:=by
 obtain⟨ch',e,h1,_⟩:=fnd_chain h hk;rw[hc]at e;injection e with e;subst e;unfold fndI
 cases e:fnd t.fs s p with
 | none=>rfl
 | some i=>
  obtain⟨m,hm,e2⟩:=List.getElem_of_mem (h1 i e);obtain⟨f,ef,_,hf⟩:=fnd_some e;exact absurd hf (hn m i f (by rw[List.getElem?_eq_getElem hm,e2]) ef)
theorem chain_some{t:Tab}(h:tv t=true){s p:Int}(hk:kval (s,p)=true){ch:List Nat}(hc:bch t (bkt t s p)=some ch){m j:Nat}{f:Fr}(hj:ch[m]?=some j)(ef:t.fs[j]?=some f)(hf:(f.s,f.p)=(s,p)):fndI t.fs s p=j:=by
 obtain⟨ch',e,_,h1⟩:=fnd_chain h hk;rw[hc]at e;injection e with e;subst e;unfold fndI;rw[h1 j (List.mem_of_getElem? hj) f ef hf]
def pix{α:Type}(p:α→Bool)(l:List α):Int:=match l.findIdx? p with | some i=>i | none=>-1
theorem pix_at{α:Type}{p:α→Bool}{l:List α}{k:Nat}{a:α}(hk:l[k]?=some a)(h:∀(j:Nat) (b:α),j<k→l[j]?=some b→p b=false)(e:p a=true):pix p l=k:=by
 obtain⟨hlt,hk2⟩:=List.getElem?_eq_some_iff.1 hk
 have:l.findIdx? p=some k:=by
  rw[List.findIdx?_eq_some_iff_getElem];refine⟨hlt,by rw[hk2];exact e,fun j hj=> ?_⟩;have:=h j l[j] hj (List.getElem?_eq_getElem (by omega));simp[this]
 unfold pix;rw[this]
theorem pix_none{α:Type}{p:α→Bool}{l:List α}{n:Nat}(hn:l.length≤n)(h:∀(j:Nat) (b:α),j<n→l[j]?=some b→p b=false):pix p l=-1:=by
 have:l.findIdx? p=none:=by
  rw[List.findIdx?_eq_none_iff];intro x hx;obtain⟨j,hj,e⟩:=List.getElem_of_mem hx;have:=h j x (by omega) (by rw[List.getElem?_eq_getElem hj,e]);simp[this]
 unfold pix;rw[this]
theorem pix_step{α:Type}{p:α→Bool}{l:List α}{k:Nat}{a:α}(hk:l[k]?=some a)(h:∀(j:Nat) (b:α),j<k→l[j]?=some b→p b=false)(e:p a=false):∀(j:Nat) (b:α),j<k+1→l[j]?=some b→p b=false:=by
 intro j b hj hb;rcases Nat.lt_or_ge j k with h1 | h1
 ·exact h j b h1 hb
 ·obtain rfl:j=k:=by omega
  rw[hk]at hb;injection hb with hb;rw[←hb];exact e
theorem cells_at{W:World}{cs:Array Value}{t:TypeId}{n i:Nat}{v:Value}(hn:n=W.heap.size)(e:cs[i]?=some v):(W.alloc (.cells cs t)).cell? ⟨n,i,none⟩=some v:=by
 subst hn;exact(Own.new_ _ _ _).cell_ i e
theorem cells_far{W:World}{o:Obj}{n i:Nat}{v:Value}(hn:n<W.heap.size)(e:W.cell? ⟨n,i,none⟩=some v):(W.alloc o).cell? ⟨n,i,none⟩=some v:=((bA (bR (w:=W)) (o:=o)).cell (p:=⟨n,i,none⟩) hn).trans e
def fitK(s p:Int)(f:Fr):Bool:=f.used && keq f.s f.p s p
theorem find1_any(f:Fr)(g:Nat)(s p:Int)(w:World)(hg:g<w.heap.size)(h0:w.cell? ⟨g,0,none⟩=some (.int .i64 s))(h1:w.cell? ⟨g,1,none⟩=some (.int .i64 p)):
  Calls Tryz.prog 81 #[.agg #[.bool f.used,.int .i64 f.s,.int .i64 f.p,.int .i64 f.r,.int .i64 f.n],.pointer (some ⟨g,0,none⟩)] w fun r w'=>r=.returned (.bool (fitK s p f))∧Below w.heap.size w w':=by
 have he:=fun W=>eql_key f.s f.p s p W
 generalize hq:keq f.s f.p s p=q at he
 cases hu:f.used with
 | true=>
  have H:Hi (fitK s p f=q):=by simp[Hi,fitK,hu,hq]
  go_enter Tryz.func81,Tryz.ntmps81
  go_wp2;go_ret;exact⟨by rw[H.o];rfl,bA bR⟩
 | false=>
  have H:Hi (fitK s p f=false):=by simp[Hi,fitK,hu]
  go_enter Tryz.func81,Tryz.ntmps81
  go_wp2;go_ret;exact⟨by rw[H.o];rfl,bA bR⟩
theorem indexFr_any(A:Option Addr)(c:Nat)(l:List Fr)(g:Nat)(s p:Int)(w:World)(h:Rs frE w.heap.size w A l)(hl:l.length≤9223372036854775807)
  (hg:g<w.heap.size) (h0:w.cell? ⟨g,0,none⟩=some (.int .i64 s)) (h1:w.cell? ⟨g,1,none⟩=some (.int .i64 p)):
  Calls Tryz.prog 80 #[.slice A l.length c,.func (.func 81) #[] #[.pointer (some ⟨g,0,none⟩)]] w fun r w'=>r=.returned (.int .i64 (pix (fitK s p) l))∧Below w.heap.size w w':=by
 go_enter Tryz.func80,Tryz.ntmps80
 go_wp2;go_loopw [5,8] (fun _ i wr=>∃k:Nat,k≤l.length∧i=.int .i64 k∧Below w.heap.size w wr∧Hi (∀(j:Nat) (b:_),j<k→l[j]?=some b→(fitK s p) b=false)) (fun _ i _=>l.length-(intOf i).toNat)
 case atStart=>exact⟨0,by omega,rfl,bR,fun j b hj=>by omega⟩
 case round=>
  obtain⟨k,hk,rfl,hb,hall⟩:=hrel;by_cases hlt:k<l.length
  ·obtain⟨a,ea⟩:∃a,l[k]?=some a:=⟨_,List.getElem?_eq_getElem hlt⟩
   obtain⟨b,o,rfl,hbb,d0,d1,d2,d3,d4⟩:=(h.below hb).fr ea;have k0:=(hb.cell (p:=⟨g,0,none⟩) hg).trans h0;have k1:=(hb.cell (p:=⟨g,1,none⟩) hg).trans h1;go_wp2_with fail
   refine(find1_any a g s p _ (Nat.lt_of_lt_of_le hg hb.size) k0 k1).mono ?_;rintro e w1 ⟨rfl,hb1⟩
   cases hv:(fitK s p) a with
   | true=>
    have H:Hi (pix (fitK s p) l=k):=pix_at ea hall.o hv;clear ea;go_wp2;go_ret;exact⟨by rw[H.o];rfl,bT hb hb1⟩
   | false=>
    have H:=Hd (pix_step ea hall.o hv);clear ea;go_wp2;go_roundw;case rel=>exact⟨k+1,by omega,by go_num,bT hb hb1,H⟩
    case measure=>simp[intOf];omega
  ·have H:Hi (pix (fitK s p) l=-1):=pix_none (Nat.le_of_not_lt hlt) hall.o;go_wp2;go_ret;exact⟨by rw[H.o];rfl,hb⟩
theorem fitK_fnd(fs:List Fr)(s p:Int):pix (fitK s p) fs=fndI fs s p:=by
 have:(fitK s p)=(fun f:Fr=>f.used && decide ((f.s,f.p)=(s,p))):=by
  funext f
  unfold fitK keq
  congr 1
  by_cases h1:f.s=s<;>by_cases h2:f.p=p<;>simp[h1,h2]
 unfold pix fndI fnd;rw[this];try (cases fs.findIdx? (fun f:Fr=>f.used && decide ((f.s,f.p)=(s,p)))<;>rfl)
theorem find_any(vb vf:Value)(t:Tab)(s p:Int)(w:World)(hT:TaR w vb vf t):
  Calls Tryz.prog 41 #[.agg #[vb,vf],.agg #[.int .i64 s,.int .i64 p]] w fun r w'=>r=.returned (.int .i64 (fndI t.fs s p))∧Below w.heap.size w w':=by
 obtain⟨Ab,cb,rfl,hbc,hbm,hB⟩:=hT.b;obtain⟨Af,cf,rfl,hfc,hfm,hF⟩:=hT.f;have hfm2:t.fs.length≤9223372036854775807:=by unfold maxLen at hfm;omega
 rw[←fitK_fnd]
 go_enter Tryz.func41,Tryz.ntmps41
 go_wp2_with fail
 refine(indexFr_any _ _ _ _ s p _ ?_ hfm2 ?_ ?_ ?_).mono ?_
 case refine_5=>
  rintro e w1 ⟨rfl,hb1⟩;go_wp2;go_ret;exact⟨rfl,bT (by first | exact bA (bA bR) | exact bA bR) hb1⟩
 ·exact hF.now (Nat.le_refl _) (bA (bA bR))
 ·simp
 ·exact cells_at (by simp) rfl
 ·exact cells_at (by simp) rfl
theorem own1_any(f:Int×Int)(g:Nat)(s:Int)(w:World)(hg:g<w.heap.size)(h0:w.cell? ⟨g,0,none⟩=some (.int .i64 s)):
  Calls Tryz.prog 194 #[.agg #[.int .i64 f.1,.int .i64 f.2],.pointer (some ⟨g,0,none⟩)] w fun r w'=>r=.returned (.bool (decide (f.1=s)))∧Below w.heap.size w w':=by
 go_enter Tryz.func194,Tryz.ntmps194
 go_wp2;go_ret;exact⟨rfl,bA bR⟩
theorem indexOw_any(A:Option Addr)(c:Nat)(l:List (Int×Int))(g:Nat)(s:Int)(w:World)(h:Rs owE w.heap.size w A l)(hl:l.length≤9223372036854775807)
  (hg:g<w.heap.size) (h0:w.cell? ⟨g,0,none⟩=some (.int .i64 s)):
  Calls Tryz.prog 193 #[.slice A l.length c,.func (.func 194) #[] #[.pointer (some ⟨g,0,none⟩)]] w fun r w'=>r=.returned (.int .i64 (pix (fun o:Int×Int=>decide (o.1=s)) l))∧Below w.heap.size w w':=by
 go_enter Tryz.func193,Tryz.ntmps193
 go_wp2;go_loopw [5,8] (fun _ i wr=>∃k:Nat,k≤l.length∧i=.int .i64 k∧Below w.heap.size w wr∧Hi (∀(j:Nat) (b:_),j<k→l[j]?=some b→(fun o:Int×Int=>decide (o.1=s)) b=false)) (fun _ i _=>l.length-(intOf i).toNat)
 case atStart=>exact⟨0,by omega,rfl,bR,fun j b hj=>by omega⟩
 case round=>
  obtain⟨k,hk,rfl,hb,hall⟩:=hrel;by_cases hlt:k<l.length
  ·obtain⟨a,ea⟩:∃a,l[k]?=some a:=⟨_,List.getElem?_eq_getElem hlt⟩
   obtain⟨b,o,rfl,hbb,d0,d1⟩:=(h.below hb).ow ea;have k0:=(hb.cell (p:=⟨g,0,none⟩) hg).trans h0;go_wp2_with fail
   refine(own1_any a g s _ (Nat.lt_of_lt_of_le hg hb.size) k0).mono ?_;rintro e w1 ⟨rfl,hb1⟩
   cases hv:(fun o:Int×Int=>decide (o.1=s)) a with
   | true=>
    have H:Hi (pix (fun o:Int×Int=>decide (o.1=s)) l=k):=pix_at ea hall.o hv;clear ea;go_wp2;go_ret;exact⟨by rw[H.o];rfl,bT hb hb1⟩
   | false=>
    have H:=Hd (pix_step ea hall.o hv);clear ea;go_wp2;go_roundw;case rel=>exact⟨k+1,by omega,by go_num,bT hb hb1,H⟩
    case measure=>simp[intOf];omega
  ·have H:Hi (pix (fun o:Int×Int=>decide (o.1=s)) l=-1):=pix_none (Nat.le_of_not_lt hlt) hall.o;go_wp2;go_ret;exact⟨by rw[H.o];rfl,hb⟩
theorem pix_own(os:List (Int×Int))(s:Int):pix (fun o:Int×Int=>decide (o.1=s)) os=ownI os s:=by
 unfold pix ownI own;cases os.findIdx? (fun o:Int×Int=>decide (o.1=s))<;>rfl
theorem own_any(vo:Value)(g:Tg)(s:Int)(w:World)(hT:SlR owE w vo g.os):
  Calls Tryz.prog 128 #[.agg #[.int .i64 g.count,.int .i64 g.next,.int .i64 g.round,vo],.int .i64 s] w fun r w'=>r=.returned (.int .i64 (ownI g.os s))∧Below w.heap.size w w':=by
 obtain⟨Ab,cb,rfl,hbc,hbm,hB⟩:=hT;have hfm2:g.os.length≤9223372036854775807:=by unfold maxLen at hbm;omega
 rw[←pix_own]
 go_enter Tryz.func128,Tryz.ntmps128
 go_wp2_with fail
 refine(indexOw_any _ _ _ _ s _ ?_ hfm2 ?_ ?_).mono ?_
 case refine_4=>
  rintro e w1 ⟨rfl,hb1⟩;go_wp2;go_ret;exact⟨rfl,bT (by first | exact bA (bA bR) | exact bA bR) hb1⟩
 ·exact hB.now (Nat.le_refl _) (bA (bA bR))
 ·simp
 ·exact cells_at (by simp) rfl
theorem place1_any(f:Ln)(g h:Nat)(tag page:Int)(w:World)(hg:g<w.heap.size)(hh:h<w.heap.size)(h0:w.cell? ⟨g,0,none⟩=some (.int .i64 page))(h1:w.cell? ⟨h,0,none⟩=some (.int .i64 tag)):
  Calls Tryz.prog 153 #[.agg #[.bool f.v,.int .i64 f.t,.int .i64 f.p,.int .i64 f.f,.int .i64 f.r,.bool f.w],.pointer (some ⟨g,0,none⟩),.pointer (some ⟨h,0,none⟩)] w fun r w'=>r=.returned (.bool (fits tag page f))∧Below w.heap.size w w':=by
 cases hv:f.v with
 | false=>
  have H:Hi (fits tag page f=false):=by simp[Hi,fits,hv]
  go_enter Tryz.func153,Tryz.ntmps153
  go_wp2;go_ret;exact⟨by rw[H.o];rfl,bA bR⟩
 | true=>
  by_cases hp:f.p=page
  ·by_cases ht:f.t=tag
   ·have H:Hi (fits tag page f=true):=by simp[Hi,fits,hv,hp,ht]
    go_enter Tryz.func153,Tryz.ntmps153
    go_wp2;go_ret;exact⟨by rw[H.o];rfl,bA bR⟩
   ·have H:Hi (fits tag page f=(f.t == tag || f.t == -1)):=by
     show _=_;rw[beq_eq_false_iff_ne.2 ht,Bool.false_or];simp[fits,hv,hp,ht];by_cases h:f.t=-1<;>simp[h]
    go_enter Tryz.func153,Tryz.ntmps153
    go_wp2;go_ret;exact⟨by rw[H.o];rfl,bA bR⟩
  ·have H:Hi (fits tag page f=false):=by simp[Hi,fits,hp]
   go_enter Tryz.func153,Tryz.ntmps153
   go_wp2;go_ret;exact⟨by rw[H.o];rfl,bA bR⟩
theorem indexLn_any(A:Option Addr)(c:Nat)(l:List Ln)(g i:Nat)(tag page:Int)(w:World)(h:Rs lnE w.heap.size w A l)(hl:l.length≤9223372036854775807)
  (hg:g<w.heap.size) (h0:w.cell? ⟨g,0,none⟩=some (.int .i64 page)) (hi:i<w.heap.size) (h1:w.cell? ⟨i,0,none⟩=some (.int .i64 tag)):
  Calls Tryz.prog 150 #[.slice A l.length c,.func (.func 153) #[] #[.pointer (some ⟨g,0,none⟩),.pointer (some ⟨i,0,none⟩)]] w fun r w'=>r=.returned (.int .i64 (pix (fits tag page) l))∧Below w.heap.size w w':=by
 go_enter Tryz.func150,Tryz.ntmps150
 go_wp2;go_loopw [5,8] (fun _ i wr=>∃k:Nat,k≤l.length∧i=.int .i64 k∧Below w.heap.size w wr∧Hi (∀(j:Nat) (b:_),j<k→l[j]?=some b→(fits tag page) b=false)) (fun _ i _=>l.length-(intOf i).toNat)
 case atStart=>exact⟨0,by omega,rfl,bR,fun j b hj=>by omega⟩
 case round=>
  obtain⟨k,hk,rfl,hb,hall⟩:=hrel;by_cases hlt:k<l.length
  ·obtain⟨a,ea⟩:∃a,l[k]?=some a:=⟨_,List.getElem?_eq_getElem hlt⟩
   obtain⟨b,o,rfl,hbb,d0,d1,d2,d3,d4,d5⟩:=(h.below hb).ln ea;have k0:=(hb.cell (p:=⟨g,0,none⟩) hg).trans h0;have k1:=(hb.cell (p:=⟨i,0,none⟩) hi).trans h1;go_wp2_with fail
   refine(place1_any a g i tag page _ (Nat.lt_of_lt_of_le hg hb.size) (Nat.lt_of_lt_of_le hi hb.size) k0 k1).mono ?_;rintro e w1 ⟨rfl,hb1⟩
   cases hv:(fits tag page) a with
   | true=>
    have H:Hi (pix (fits tag page) l=k):=pix_at ea hall.o hv;clear ea;go_wp2;go_ret;exact⟨by rw[H.o];rfl,bT hb hb1⟩
   | false=>
    have H:=Hd (pix_step ea hall.o hv);clear ea;go_wp2;go_roundw;case rel=>exact⟨k+1,by omega,by go_num,bT hb hb1,H⟩
    case measure=>simp[intOf];omega
  ·have H:Hi (pix (fits tag page) l=-1):=pix_none (Nat.le_of_not_lt hlt) hall.o;go_wp2;go_ret;exact⟨by rw[H.o];rfl,hb⟩
theorem pix_plc(ls:List Ln)(tag page:Int):pix (fits tag page) ls=plcI ls tag page:=by
 unfold pix plcI plc;cases ls.findIdx? (fits tag page)<;>rfl
theorem place_any(vl:Value)(c:Ca)(tag page:Int)(w:World)(hT:SlR lnE w vl c.ls):
  Calls Tryz.prog 88 #[.agg #[vl,.int .i64 c.hand],.int .i64 tag,.int .i64 page] w fun r w'=>r=.returned (.int .i64 (plcI c.ls tag page))∧Below w.heap.size w w':=by
 obtain⟨Ab,cb,rfl,hbc,hbm,hB⟩:=hT;have hfm2:c.ls.length≤9223372036854775807:=by unfold maxLen at hbm;omega
 rw[←pix_plc]
 go_enter Tryz.func88,Tryz.ntmps88
 go_wp2_with fail
 refine(indexLn_any _ _ _ _ _ tag page _ ?_ hfm2 ?_ ?_ ?_ ?_).mono ?_
 case refine_6=>
  rintro e w1 ⟨rfl,hb1⟩;go_wp2;go_ret;exact⟨rfl,bT (bA (bA (bA bR))) hb1⟩
 ·exact hB.now (Nat.le_refl _) (bA (bA (bA bR)))
 ·simp
 ·exact cells_at (by simp) rfl
 ·simp
 ·exact cells_far (by simp) (cells_at (by simp) rfl)
structure MaR(w:World)(vb vf vl vo:Value)(m:Ma):Prop where
 t:TaR w vb vf m.t
 l:SlR lnE w vl m.c.ls
 o:SlR owE w vo m.g.os
structure MaM(base:Nat)(w:World)(vb vf vl vo:Value)(m:Ma):Prop where
 t:TaM base w vb vf m.t
 l:SlM lnE 50 base w vl m.c.ls
 o:SlM owE 186 base w vo m.g.os
section
variable {base : Nat} {w w' : World} {vb vf vl vo : Value} {m : Ma}
theorem MaM.r(h:MaM base w vb vf vl vo m):MaR w vb vf vl vo m:=⟨h.t.r,h.l.r,h.o.r⟩
theorem MaR.now(h:MaR w vb vf vl vo m)(hb:Below w.heap.size w w'):MaR w' vb vf vl vo m:=⟨h.t.now hb,h.l.now hb,h.o.now hb⟩
theorem MaM.now(h:MaM base w vb vf vl vo m)(hb:Below w.heap.size w w'):MaM base w' vb vf vl vo m:=⟨h.t.now hb,h.l.now hb,h.o.now hb⟩
end
def lnSp(m:Ma)(x:Ln):Option Int:=if 128≤x.p then some 0 else match spc m.g.os x.t with | some i=>some (m.g.os.getD i (0,0)).1 | none=>none
theorem lnM_def(m:Ma)(x:Ln):lnM m x=if x.v=true then decide ((128≤x.p)↔x.t=-1) && (!x.w || decide (128≤x.p)) && (match lnSp m x with
     | some s=>(match fnd m.t.fs (keyI s x.p) x.p with | some i=>decide ((i:Int)=x.f) && decide ((m.t.fs.getD i frz).r=x.r) | none=>false)
     | none=>false)else true:=rfl
theorem lnM_inv{m:Ma}{x:Ln}(h:x.v=false):lnM m x=true:=by rw[lnM_def,h];rfl
theorem lnM_sh{m:Ma}{x:Ln}(hv:x.v=true)(h:¬((128≤x.p)↔x.t=-1)):lnM m x=false:=by rw[lnM_def,if_pos hv,decide_eq_false h];rfl
theorem lnM_w{m:Ma}{x:Ln}(hv:x.v=true)(hw:x.w=true)(hp:¬128≤x.p):lnM m x=false:=by rw[lnM_def,if_pos hv,hw,decide_eq_false hp];simp
theorem lnM_sp{m:Ma}{x:Ln}(hv:x.v=true)(h:lnSp m x=none):lnM m x=false:=by rw[lnM_def,if_pos hv,h];simp
theorem lnM_at{m:Ma}{x:Ln}(hv:x.v=true)(h:(128≤x.p)↔x.t=-1)(hw:x.w=true→128≤x.p){s:Int}(hs:lnSp m x=some s):
  lnM m x=(decide (0≤fndI m.t.fs (keyI s x.p) x.p) && decide (fndI m.t.fs (keyI s x.p) x.p=x.f) && decide ((m.t.fs.getD (fndI m.t.fs (keyI s x.p) x.p).toNat frz).r=x.r)):=by
 have h2:(!x.w || decide (128≤x.p))=true:=by
  cases hx:x.w with
  | false=>rfl
  | true=>rw[decide_eq_true (hw hx)];rfl
 rw[lnM_def,if_pos hv,decide_eq_true h,h2,hs];show(match fnd m.t.fs (keyI s x.p) x.p with | some i=>decide ((i:Int)=x.f) && decide ((m.t.fs.getD i frz).r=x.r) | none=>false)=_;unfold fndI
 cases fnd m.t.fs (keyI s x.p) x.p with
 | none=>rfl
 | some i=>
  show _=(decide (0≤(i:Int)) && decide ((i:Int)=x.f) && decide ((m.t.fs.getD (i:Int).toNat frz).r=x.r));rw[decide_eq_true (show 0≤(i:Int)by omega),Int.toNat_natCast];rfl
theorem lnM_at1{m:Ma}{t p f r:Int}{w:Bool}(h:(128≤p)↔t=-1)(hw:w=true→128≤p){s:Int}(hs:lnSp m ⟨true,t,p,f,r,w⟩=some s):
  lnM m ⟨true,t,p,f,r,w⟩=(decide (0≤fndI m.t.fs (keyI s p) p) && decide (fndI m.t.fs (keyI s p) p=f) && decide ((m.t.fs.getD (fndI m.t.fs (keyI s p) p).toNat frz).r=r)):=lnM_at rfl h hw hs
theorem lnM_at2{m:Ma}{t p f r:Int}{w:Bool}(h:(128≤p)↔t=-1){s:Int}(hs:lnSp m ⟨true,t,p,f,r,w⟩=some s):
  lnM m ⟨true,t,p,f,r,w⟩=(decide (0≤fndI m.t.fs (keyI s p) p) && decide (fndI m.t.fs (keyI s p) p=f) && decide ((m.t.fs.getD (fndI m.t.fs (keyI s p) p).toNat frz).r=r) && (!w || decide (128≤p))):=by
 by_cases hw:w=true→128≤p
 ·rw[lnM_at1 h hw hs]
  have h2:(!w || decide (128≤p))=true:=by
   cases hx:w with
   | false=>rfl
   | true=>rw[decide_eq_true (hw hx)];rfl
  rw[h2,Bool.and_true]
 ·have hw1:w=true:=by
   cases w with
   | true=>rfl
   | false=>exact absurd (fun h=>by cases h) hw
  have hp:¬128≤p:=fun hp=>hw (fun _=>hp)
  rw[lnM_w rfl hw1 hp,hw1,decide_eq_false hp];simp
theorem lnSp_kval{m:Ma}{x:Ln}{s:Int}(hg:tgv m.g=true)(hp:inR x.p 256=true)(hs:lnSp m x=some s):kval (keyI s x.p,x.p)=true:=by
 unfold kval;simp only[hp,Bool.and_true];unfold keyI;split
 ·rfl
 ·rename_i h128;unfold lnSp at hs;rw[if_neg h128]at hs
  cases e:spc m.g.os x.t with
  | none=>rw[e]at hs;cases hs
  | some i=>
   rw[e]at hs;injection hs with hs;unfold spc at e;obtain⟨hi,_,_⟩:=List.findIdx?_eq_some_iff_getElem.1 e;obtain⟨o,eo,h1,_⟩:=tok_at (tgv_parts hg).2 hi;rw[←hs,List.getD_eq_getElem?_getD,eo];exact h1
theorem lnSp_sh{m:Ma}{x:Ln}(h:128≤x.p):lnSp m x=some 0:=by unfold lnSp;rw[if_pos h]
theorem lnSp_of{m:Ma}{x:Ln}(ht:tgv m.g=true)(h:¬128≤x.p):(spO m.g x.t=true→lnSp m x=some (spV m.g x.t))∧(spO m.g x.t=false→lnSp m x=none):=by
 unfold lnSp spO spV;rw[if_neg h,ht,if_pos rfl]
 cases spc m.g.os x.t with
 | none=>exact⟨fun h=>by simp at h,fun _=>rfl⟩
 | some i=>exact⟨fun _=>rfl,fun h=>by simp at h⟩
theorem mav_parts{m:Ma}(h:mav m=true):tv m.t=true∧cav m.c=true∧tgv m.g=true∧0≤ownI m.g.os m.sp∧(∀f∈m.t.fs,frM f=true)∧∀x∈m.c.ls,lnM m x=true:=by
 unfold mav at h;simp only[Bool.and_eq_true,decide_eq_true_eq,List.all_eq_true]at h;exact⟨h.1.1.1.1.1,h.1.1.1.1.2,h.1.1.1.2,h.1.1.2,h.1.2,h.2⟩
theorem mav_no{m:Ma}(h:mav m=true→False):mav m=false:=bool_ff h
theorem mav_end{m:Ma}(h1:tv m.t=true)(h2:cav m.c=true)(h3:tgv m.g=true)(h4:0≤ownI m.g.os m.sp)(h5:∀f∈m.t.fs,frM f=true)(h6:∀x∈m.c.ls,lnM m x=true):mav m=true:=by
 unfold mav;simp only[Bool.and_eq_true,decide_eq_true_eq,List.all_eq_true];exact⟨⟨⟨⟨⟨h1,h2⟩,h3⟩,h4⟩,h5⟩,h6⟩
theorem mav_fr{m:Ma}{k:Nat}{f:Fr}(e:m.t.fs[k]?=some f)(h:frM f=false):mav m=false:=mav_no fun hv=>by
 have:=(mav_parts hv).2.2.2.2.1 f (List.mem_of_getElem? e);rw[h]at this;cases this
theorem mav_ln{m:Ma}{k:Nat}{x:Ln}(e:m.c.ls[k]?=some x)(h:lnM m x=false):mav m=false:=mav_no fun hv=>by
 have:=(mav_parts hv).2.2.2.2.2 x (List.mem_of_getElem? e);rw[h]at this;cases this
def All_{α:Type}(p:α→Bool)(l:List α)(k:Nat):Prop:=∀(j:Nat) (a:α),j<k→l[j]?=some a→p a=true
theorem all_zero{α:Type}{p:α→Bool}{l:List α}:All_ p l 0:=fun j a h=>absurd h (by omega)
theorem all_step{α:Type}{p:α→Bool}{l:List α}{k:Nat}{a:α}(h:All_ p l k)(e:l[k]?=some a)(ha:p a=true):All_ p l (k+1):=by
 intro j b hj hb;rcases Nat.lt_or_ge j k with h1 | h1
 ·exact h j b h1 hb
 ·obtain rfl:j=k:=by omega
  rw[e]at hb;injection hb with hb;rw[←hb];exact ha
theorem all_end{α:Type}{p:α→Bool}{l:List α}(h:All_ p l l.length):∀a∈l,p a=true:=by
 intro a ha;obtain⟨j,hj,e⟩:=List.getElem_of_mem ha;exact h j a hj (by rw[List.getElem?_eq_getElem hj,e])
def putOK(m:Ma)(s p fr r:Int):Bool:=mav m && decide (keyI s p=s) && mapOK m.t s p fr r
def putV(m:Ma)(s p fr r:Int):Ma:=if putOK m s p fr r=true then {m with t:=mapV m.t s p fr r}else maz
theorem post2_of{f:FuncId}{args:Array Value}{w:World}{v:Value}(h:Calls Tryz.prog f args w fun r w'=>r=.returned v∧Below w.heap.size w w'):Calls Tryz.prog f args w (Post2 fun v' w'=>v'=v∧Below w.heap.size w w'):=h.mono fun _ _ h=>⟨_,h.1,rfl,h.2⟩
theorem keq_iff{a b c d:Int}:keq a b c d=true↔(a,b)=(c,d):=by
 unfold keq;simp
theorem keq_no{a b c d:Int}(h:keq a b c d=false):¬(a,b)=(c,d):=fun hh=>by rw[keq_iff.2 hh]at h;cases h
theorem TaR.fsl{w:World}{vb:Value}{A:Option Addr}{c:Nat}{t:Tab}(h:TaR w vb (.slice A t.fs.length c) t):Rs frE w.heap.size w A t.fs:=by
 obtain⟨A',c',e,_,_,h4⟩:=h.f;injection e with e1 _ _;rw[e1];exact h4
theorem l3Find_any (vb vf:Value) (t:Tab) (s p:Int) (w:World) (hT:TaR w vb vf t) (htv:tv t=true) (hk:kval (s,p)=true):
    Calls Tryz.prog 51 #[.agg #[vb,vf],.agg #[.int .i64 s,.int .i64 p]] w fun r w'=>∃n:Int,r=.returned (.tuple #[.int .i64 (fndI t.fs s p),.int .i64 n])∧Below w.heap.size w w':=by
  obtain⟨⟨_,hfl,hb1,hbl⟩,_⟩:=tv_parts htv;obtain⟨ch,hch,_⟩:=fnd_chain htv hk;obtain⟨hbk,hbe⟩:=bkt_in hk hb1
  have hcl:=(show ch.length≤t.fs.length from by
    obtain⟨x,_,ec⟩:=bch_some hch
    exact chn_len ec)
  have HT:=Hd hT;obtain⟨Ab,cb,rfl,hbc,hbm,hB⟩:=hT.b;obtain⟨Af,cf,rfl,hfc,hfm,hF⟩:=hT.f;have hbx:=(Own.new_ w 26 #[.slice Ab t.bs.length cb,.slice Af t.fs.length cf]).alloc (o:=.cells #[.int .i64 s,.int .i64 p] 54);have hky:=Own.new_ (w.alloc (.cells #[.slice Ab t.bs.length cb,.slice Af t.fs.length cf] 26)) 54 #[.int .i64 s,.int .i64 p];have hb0:Below w.heap.size w ((w.alloc (.cells #[.slice Ab t.bs.length cb,.slice Af t.fs.length cf] 26)).alloc (.cells #[.int .i64 s,.int .i64 p] 54)):=bA (bA bR);rw[show(w.alloc (.cells #[.slice Ab t.bs.length cb,.slice Af t.fs.length cf] 26)).heap.size=w.heap.size+1 by simp]at hky;generalize hW:(w.alloc (.cells #[.slice Ab t.bs.length cb,.slice Af t.fs.length cf] 26)).alloc (.cells #[.int .i64 s,.int .i64 p] 54)=W0 at hbx hky hb0;have q0:=hbx.cell_ 0 (v:=.slice Ab t.bs.length cb) rfl;have q1:=hbx.cell_ 1 (v:=.slice Af t.fs.length cf) rfl;have k0:=hky.cell_ 0 (v:=.int .i64 s) rfl;have k1:=hky.cell_ 1 (v:=.int .i64 p) rfl;have HX0:=Hd hbx;have HK0:=Hd hky;have HB0:=Hd hb0;clear hbx hky hb0;have HH:=Hd (fun W=>post2_of (l2Hash_any s p t.bs.length W hk ⟨by omega,by omega⟩));have HC:=Hd (fun W (h:TaR W (.slice Ab t.bs.length cb) (.slice Af t.fs.length cf) t)=>(l3Chain_any (.slice Ab t.bs.length cb) (.slice Af t.fs.length cf) t (bkt t s p) W h hbk (by omega)).mono (R':=Post2 fun v w'=>∃v1,v=.tuple #[v1,.bool (bch t (bkt t s p)).isSome]∧(∀ch,bch t (bkt t s p)=some ch→SlR intE w' v1 (ints ch))∧Below W.heap.size W w') (fun _ _ ⟨v,e1,e2,e3⟩=>⟨_,e1,v,rfl,e2,e3⟩))
  go_enter Tryz.func51,Tryz.ntmps51
  go_wp2
  go_region_held_law (fun w'=>w'.cell? ⟨w.heap.size,0,none⟩=some (.slice Ab t.bs.length cb)∧w'.cell? ⟨w.heap.size,1,none⟩=some (.slice Af t.fs.length cf)∧w'.cell? ⟨w.heap.size+1,0,none⟩=some (.int .i64 s)∧w'.cell? ⟨w.heap.size+1,1,none⟩=some (.int .i64 p)) (go_keep) (first
    | (go_at_call 94
       refine(HH.o _).mono ?_;rintro _ w1 ⟨_,rfl,rfl,hb1⟩;rw[hbe];have HB1:=Hd (bT (bD HB0.o) hb1);have hx1:=HX0.o.drew.below hb1;have hk1:=HK0.o.drew.below hb1;have d0:=hx1.cell_ 0 (v:=.slice Ab t.bs.length cb) rfl;have d1:=hx1.cell_ 1 (v:=.slice Af t.fs.length cf) rfl;have d2:=hk1.cell_ 0 (v:=.int .i64 s) rfl;have d3:=hk1.cell_ 1 (v:=.int .i64 p) rfl;have HX1:=Hd hx1;have HK1:=Hd hk1
       clear hx1 hk1 hb1)
    | (go_at_call 93
       refine(HC.o _ (HT.o.now HB1.o)).mono ?_;rintro _ w2 ⟨_,rfl,v,rfl,hsl,hb2⟩;have HB2:=Hd (bT HB1.o hb2);have hx2:=HX1.o.below hb2;have hk2:=HK1.o.below hb2;have e0:=hx2.cell_ 0 (v:=.slice Ab t.bs.length cb) rfl;have e1:=hx2.cell_ 1 (v:=.slice Af t.fs.length cf) rfl;have e2:=hk2.cell_ 0 (v:=.int .i64 s) rfl;have e3:=hk2.cell_ 1 (v:=.int .i64 p) rfl;have HX2:=Hd hx2;have HK2:=Hd hk2;have hsv:=hsl ch hch;obtain⟨Al,cl,rfl,hlc,hlm,hL⟩:=hsv;have HL:=Hd hL;rw[ints_length]at*
       clear hx2 hk2 hb2 hsl hL d0 d1 d2 d3))
  all_goals
    go_wp2;clear e0 e1 e2 e3;go_loopw [8] (fun u wi=>∃r:Nat,r≤ch.length∧u=.int .i64 r∧Hi (∀(m j:Nat) (f:Fr),m<r→ch[m]?=some j→t.fs[j]?=some f→¬(f.s,f.p)=(s,p))∧Below w2.heap.size w2 wi) (fun u _=>ch.length-(intOf u).toNat)
    case atStart=>exact⟨0,by omega,rfl,(fun m j f h=>absurd h (by omega)),bR⟩
    case round=>
      obtain⟨r,hr,rfl,hacc,hbi⟩:=hrel;by_cases hlr:r<ch.length
      · obtain⟨j,ej⟩:∃j,ch[r]?=some j:=⟨_,List.getElem?_eq_getElem hlr⟩
        obtain⟨f,ef,huf⟩:=bch_mem hch j (List.mem_of_getElem? ej);obtain⟨hjl,_⟩:=List.getElem?_eq_some_iff.1 ef;obtain⟨b5,o5,hAl,hb5,y0⟩:=(HL.o.now (Nat.le_refl _) hbi).i1 (ints_get ej);obtain⟨b4,o4,hAf,hb4,x0,x1,x2,x3,x4⟩:=((HT.o.now (bT HB2.o hbi)).fsl).fr ef;subst hAl hAf;have z0:=xcell (w:=wr) ((HX2.o.below hbi).cell_ 0 (v:=.slice Ab t.bs.length cb) rfl) (HX2.o.below hbi).lt;have z1:=xcell (w:=wr) ((HX2.o.below hbi).cell_ 1 (v:=.slice (some ⟨b4,o4,none⟩) t.fs.length cf) rfl) (HX2.o.below hbi).lt;have z2:=xcell (w:=wr) ((HK2.o.below hbi).cell_ 0 (v:=.int .i64 s) rfl) (HK2.o.below hbi).lt;have z3:=xcell (w:=wr) ((HK2.o.below hbi).cell_ 1 (v:=.int .i64 p) rfl) (HK2.o.below hbi).lt;have z4:=xcell (w:=wr) y0 (by simp;omega);have z5:=xcell (w:=wr) x1 (by show b4<_;omega);have z6:=xcell (w:=wr) x2 (by show b4<_;omega);have hj2:(j:Int)<(t.fs.length:Int):=by omega
        have he:=fun W=>eql_key f.s f.p s p W
        have hi1:((ints ch).length:Int)=(ch.length:Int):=by rw[ints_length]
        cases hq1:keq f.s f.p s p with
        | true=>
          rw[hq1]at he;have H:=Hd (chain_some htv hk hch ej ef (keq_iff.1 hq1));have Y0:=Hd y0;clear ej ef huf y0 x0 x1 x2 x3 x4;go_wp2;refine wp_region_ext (by kernel_rfl) (by kernel_rfl) ?_;repeat (go_big_quiet_step (fail))
          refine wpQuiet_nil ?_;intro _ hw';obtain⟨⟨wq,hq⟩,hw''⟩:=hw';subst hw'';try dsimp only
          have z7:=(hq.cell (p:=⟨b5,o5+r,none⟩) hb5).trans Y0.o;go_wp2;go_ret2;exact⟨_,by rw[H.o];rfl,bT HB2.o (bT hbi hq)⟩
        | false=>
          rw[hq1]at he
          have HACC:Hi (∀(m j:Nat) (f:Fr),m<r+1→ch[m]?=some j→t.fs[j]?=some f→¬(f.s,f.p)=(s,p)):=fun m j' f' hm e1 e2=>by
            rcases Nat.lt_or_ge m r with h | h
            · exact hacc.o m j' f' h e1 e2
            · obtain rfl:m=r:=by omega
              rw[ej]at e1;injection e1 with e1;subst e1;rw[ef]at e2;injection e2 with e2;subst e2;exact keq_no hq1
          clear ej ef huf y0 x0 x1 x2 x3 x4;go_wp2;refine wp_region_ext (by kernel_rfl) (by kernel_rfl) ?_;repeat (go_big_quiet_step (fail))
          refine wpQuiet_nil ?_;intro _ hw';obtain⟨⟨wq,hq⟩,hw''⟩:=hw';subst hw'';try dsimp only
          go_wp2;go_roundw;case rel=>exact⟨r+1,by omega,by go_num,HACC,bT hbi hq⟩
          case measure=>simp[intOf];omega
      · obtain rfl:r=ch.length:=by omega
        have H:Hi (fndI t.fs s p=-1):=chain_none htv hk hch (fun m j f e1 e2=>hacc.o m j f (List.getElem?_eq_some_iff.1 e1).1 e1 e2);go_wp2;go_ret2;exact⟨_,by rw[H.o];rfl,bT HB2.o hbi⟩
end Go.Proofs.YtfbnokjdkhcgoaaGreatDoor
