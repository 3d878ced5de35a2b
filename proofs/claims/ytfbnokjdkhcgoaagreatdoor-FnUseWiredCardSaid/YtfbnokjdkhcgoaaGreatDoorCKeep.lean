/- A part of the proofs of this seat. -/
import Derived.Test.YtfbnokjdkhcgoaaGreatDoorCUnmI
set_option linter.unusedVariables false
set_option linter.unusedSimpArgs false
set_option maxRecDepth 1000000
set_option maxHeartbeats 16000000
namespace Go.Proofs.YtfbnokjdkhcgoaaGreatDoor
open Go.RowKit
theorem chn_self{fs:List Fr}:∀{k:Nat} {i:Int} {ch:List Nat},chn fs k i=some ch→chn fs ch.length i=some ch:=by
 intro k
 induction k with
 | zero=>
  intro i ch h;by_cases hi:i=-1
  ·subst hi;rw[chn_neg]at h⊢;exact h
  ·rw[chn_none0 hi]at h;cases h
 | succ k ih=>
  intro i ch h;by_cases hi:i=-1
  ·subst hi;rw[chn_neg]at h⊢;exact h
  ·obtain⟨j,k1,f,r,rfl,hk1,e,hu,h2,rfl⟩:=chn_cons h hi;have:k1=k:=by omega
   subst this;rw[List.length_cons,chn_step _ e hu,ih h2];rfl
theorem chn_congr{fs fs':List Fr}:∀{k:Nat} {i:Int} {ch:List Nat},chn fs k i=some ch→(∀j∈ch,∀f,fs[j]?=some f→∃f',fs'[j]?=some f'∧f'.used=f.used∧f'.n=f.n)→chn fs' k i=some ch:=by
 intro k
 induction k with
 | zero=>
  intro i ch h _;by_cases hi:i=-1
  ·subst hi;rw[chn_neg]at h⊢;exact h
  ·rw[chn_none0 hi]at h;cases h
 | succ k ih=>
  intro i ch h hc;by_cases hi:i=-1
  ·subst hi;rw[chn_neg]at h⊢;exact h
  ·obtain⟨j,k1,f,r,rfl,hk1,e,hu,h2,rfl⟩:=chn_cons h hi;have:k1=k:=by omega
   subst this;obtain⟨f',e',hu',hn'⟩:=hc j (by simp) f e;rw[chn_step _ e' (hu'.trans hu),hn',ih h2 (fun j' hj'=>hc j' (by simp[hj']))];rfl
theorem chn_lt'{fs:List Fr}{k:Nat}{i:Int}{ch:List Nat}{x:Nat}(h:chn fs k i=some ch)(hx:x<fs.length)(hn:x∉ch):ch.length<fs.length:=by
 have h1:=len_sub (a:=x::ch) (b:=List.range fs.length) (List.nodup_cons.2 ⟨hn,chn_nodup h⟩) (fun y hy=>by
  rcases List.mem_cons.1 hy with rfl | hy
  ·exact List.mem_range.2 hx
  ·obtain⟨f,e,_⟩:=chn_mem h y hy;obtain⟨hx,_⟩:=List.getElem?_eq_some_iff.1 e
   exact List.mem_range.2 hx)
 simp at h1;omega
structure TV(t:Tab):Prop where
 sz:1≤t.fs.length∧t.fs.length≤16∧1≤t.bs.length∧t.bs.length≤16
 ok:∀(i:Nat) (f:Fr),t.fs[i]?=some f→frok f=true
 key:∀(i j:Nat) (f g:Fr),t.fs[i]?=some f→t.fs[j]?=some g→f.used=true→g.used=true→(f.s,f.p)=(g.s,g.p)→i=j
 ch:∀b:Nat,b<t.bs.length→∃ch,bch t b=some ch∧∀i∈ch,hok t b i=true
 cov:∀(i:Nat) (f:Fr),t.fs[i]?=some f→f.used=true→∃b ch,b<t.bs.length∧bch t b=some ch∧i∈ch
theorem frs_of{fs:List Fr}(h:∀(i:Nat) (f:Fr),fs[i]?=some f→frok f=true)(hd:∀i,i<fs.length→dupf fs i=true):∀n,n≤fs.length→frs fs n=true:=by
 intro n
 induction n with
 | zero=>intro _;rfl
 | succ n ih=>
  intro hn;unfold frs;have e:fs[n]?=some fs[n]:=List.getElem?_eq_getElem (by omega);rw[ih (by omega),hd n (by omega),e];simp[h n _ e]
theorem dupf_of{fs:List Fr}{i:Nat}(h:∀(j:Nat) (f g:Fr),j<i→fs[j]?=some f→fs[i]?=some g→f.used=true→g.used=true→¬(f.s,f.p)=(g.s,g.p)):dupf fs i=true:=by
 unfold dupf
 cases e:fs[i]? with
 | none=>rfl
 | some g=>
  simp only
  cases hg:g.used with
  | false=>rfl
  | true=>
   rw[Bool.not_true,Bool.false_or,List.all_eq_true];intro f hf;obtain⟨j,hj,he⟩:=List.getElem_of_mem hf;rw[List.length_take]at hj;have ej:fs[j]?=some f:=by rw[List.getElem_take]at he;rw[List.getElem?_eq_getElem (by omega),he]
   cases hu:f.used with
   | false=>rfl
   | true=>
    rw[Bool.not_true,Bool.false_or,decide_eq_true_eq];exact h j f g (by omega) ej e hu hg
theorem boks_of{t:Tab}:∀{n:Nat},(∀b,b<n→bok t b=true)→boks t n=true:=by
 intro n
 induction n with
 | zero=>intro _;rfl
 | succ n ih=>intro h;unfold boks;rw[ih (fun b hb=>h b (by omega)),h n (by omega)];rfl
theorem uni_of{t:Tab}{b:Nat}{ch:List Nat}{j:Nat}:∀{n:Nat},b<n→bch t b=some ch→j∈ch→j∈uni t n:=by
 intro n
 induction n with
 | zero=>intro h;omega
 | succ n ih=>
  intro h e hj;unfold uni;rw[List.mem_append];rcases Nat.lt_or_ge b n with h1 | h1
  ·exact .inl (ih h1 e hj)
  ·obtain rfl:b=n:=by omega
   exact .inr (by rw[e];exact hj)
theorem tv_TV{t:Tab}:tv t=true↔TV t:=by
 constructor
 ·intro h;obtain⟨h1,h2,h3,_⟩:=tv_parts h;refine⟨h1,fun i f e=> ?_,fun i j f g ei ej hf hg hk=>key_once h2 ei ej hf hg hk,fun b hb=>bok_parts (boks_at h3 hb),fun i f e hu=> ?_⟩
  ·obtain⟨hi,_⟩:=List.getElem?_eq_some_iff.1 e;obtain⟨⟨g,eg,hg⟩,_⟩:=frs_at h2 hi;rw[e]at eg;injection eg with eg;rw[eg];exact hg
  ·obtain⟨b,ch,hb,e1,h4,_⟩:=tv_in h e hu;exact⟨b,ch,hb,e1,h4⟩
 ·intro h;obtain⟨h1,h2,h3,h4⟩:=h.sz
  have hb:boks t t.bs.length=true:=boks_of fun b hb=>by
   obtain⟨ch,e,hc⟩:=h.ch b hb;unfold bok;rw[e];exact List.all_eq_true.2 hc
  have hf:frs t.fs t.fs.length=true:=frs_of h.ok (fun i hi=>dupf_of fun j f g hj ej ei hu hg hk=>by have:=h.key j i f g ej ei hu hg hk;omega) _ (Nat.le_refl _)
  have hs:bsum t t.bs.length=nus t.fs t.fs.length:=by
   rw[←uni_len,nus_eq _ _ (Nat.le_refl _)];apply Nat.le_antisymm
   ·refine len_sub (uni_nodup hb) fun x hx=> ?_
    obtain⟨b',ch,_,e1,h1⟩:=uni_mem hx;obtain⟨g,e2,hu2⟩:=bch_mem e1 x h1;obtain⟨hx,_⟩:=List.getElem?_eq_some_iff.1 e2;rw[List.mem_filter,List.mem_range];exact⟨hx,by unfold usedAt;rw[e2];exact hu2⟩
   ·refine len_sub (List.nodup_range.filter _) fun x hx=> ?_
    rw[List.mem_filter,List.mem_range]at hx;obtain⟨hx1,hx2⟩:=hx;unfold usedAt at hx2;rw[List.getElem?_eq_getElem hx1]at hx2;obtain⟨b,ch,hb',e,hm⟩:=h.cov x _ (List.getElem?_eq_getElem hx1) hx2;exact uni_of hb' e hm
  unfold tv tsz;rw[hf,hb,hs];simp[h1,h2,h3,h4]
theorem TV.map{t:Tab}(h:TV t){s p r:Int}{i:Nat}{f0:Fr}(hk:kval (s,p)=true)(hn:fnd t.fs s p=none)(hi:t.fs[i]?=some f0)(hu:f0.used=false)(hr:inR r 8=true):
  TV ⟨t.bs.set (bkt t s p) i,t.fs.set i ⟨true,s,p,r,t.bs.getD (bkt t s p) 0⟩⟩:=by
 obtain⟨h1,h2,h3,h4⟩:=h.sz;obtain⟨hb,he⟩:=bkt_in hk h3;obtain⟨hil,_⟩:=List.getElem?_eq_some_iff.1 hi
 have hout:∀{b:Nat} {ch:List Nat},bch t b=some ch→i∉ch:=fun e hm=>by
  obtain⟨f,e1,hf⟩:=bch_mem e i hm;rw[hi]at e1;injection e1 with e1;rw[e1]at hu;rw[hu]at hf;cases hf
 have hcg:∀{k:Nat} {x:Int} {ch:List Nat} {f:Fr},chn t.fs k x=some ch→i∉ch→chn (t.fs.set i f) k x=some ch:=fun e hm=>
  chn_congr e fun j hj g eg=>⟨g,by rw[set_ne (by rintro rfl;exact hm hj)];exact eg,rfl,rfl⟩
 have hbn:∀{b:Nat} {ch:List Nat},b≠bkt t s p→bch t b=some ch→bch ⟨t.bs.set (bkt t s p) i,t.fs.set i ⟨true,s,p,r,t.bs.getD (bkt t s p) 0⟩⟩ b=some ch:=fun hne e=>by
  obtain⟨x,ex,ec⟩:=bch_some e;rw[bch_of (t:=⟨t.bs.set (bkt t s p) i,_⟩) (i:=x) (by rw[set_ne (fun e=>hne e.symm)];exact ex)];simp only[List.length_set];exact hcg ec (hout e)
 have hbe:∀{ch:List Nat},bch t (bkt t s p)=some ch→bch ⟨t.bs.set (bkt t s p) i,t.fs.set i ⟨true,s,p,r,t.bs.getD (bkt t s p) 0⟩⟩ (bkt t s p)=some (i::ch):=fun {ch} e=>by
  obtain⟨x,ex,ec⟩:=bch_some e;rw[bch_of (t:=⟨t.bs.set (bkt t s p) i,_⟩) (i:=(i:Int)) (set_eq hb)];simp only[List.length_set];have hl:=chn_lt' ec hil (hout e)
  obtain⟨m,hm⟩:∃m,t.fs.length=m+1:=⟨t.fs.length-1,by omega⟩
  rw[hm,chn_step m (set_eq hil) rfl];have hx:t.bs.getD (bkt t s p) 0=x:=by rw[List.getD_eq_getElem?_getD,ex];rfl
  simp only[hx];rw[chn_more (show ch.length≤m by omega) (hcg (chn_self ec) (hout e))];rfl
 have hok':∀{b j:Nat},j≠i→hok t b j=true→hok ⟨t.bs.set (bkt t s p) i,t.fs.set i ⟨true,s,p,r,t.bs.getD (bkt t s p) 0⟩⟩ b j=true:=fun hne e=>by
  unfold hok at e⊢;simp only[List.length_set];rw[set_ne (fun e=>hne e.symm)];exact e
 refine⟨by simp only[List.length_set];exact h.sz,fun j f e=> ?_,fun j k f g ej ek hf hg hkk=> ?_,fun b hb'=> ?_,fun j f e hf=> ?_⟩
 ·by_cases hj:i=j
  ·subst hj;rw[set_eq hil]at e;injection e with e;subst e;simp[frok,hk,hr]
  ·rw[set_ne hj]at e;exact h.ok j f e
 ·by_cases hj:i=j
  ·subst hj;rw[set_eq hil]at ej;injection ej with ej;subst ej;by_cases hk2:i=k
   ·exact hk2
   ·rw[set_ne hk2]at ek;exact absurd hkk.symm (fnd_none hn ek hg)
  ·rw[set_ne hj]at ej;by_cases hk2:i=k
   ·subst hk2;rw[set_eq hil]at ek;injection ek with ek;subst ek;exact absurd hkk (fnd_none hn ej hf)
   ·rw[set_ne hk2]at ek;exact h.key j k f g ej ek hf hg hkk
 ·simp only[List.length_set]at hb';obtain⟨ch,e,hc⟩:=h.ch b hb';by_cases hbb:b=bkt t s p
  ·subst hbb;refine⟨_,hbe e,fun j hj=> ?_⟩;rcases List.mem_cons.1 hj with hji | hm
   ·subst hji;unfold hok;simp only[List.length_set];rw[set_eq hil];simp only;rw[decide_eq_true_eq];exact he
   ·exact hok' (by rintro rfl;exact hout e hm) (hc j hm)
  ·exact⟨ch,hbn hbb e,fun j hj=>hok' (by rintro rfl;exact hout e hj) (hc j hj)⟩
 ·by_cases hj:i=j
  ·subst hj;obtain⟨ch,e1,_⟩:=h.ch _ hb;exact⟨_,_,by simp only[List.length_set];exact hb,hbe e1,by simp⟩
  ·rw[set_ne hj]at e;obtain⟨b,ch,hb',e1,hm⟩:=h.cov j f e hf;by_cases hbb:b=bkt t s p
   ·subst hbb;exact⟨_,_,by simp only[List.length_set];exact hb',hbe e1,by simp[hm]⟩
   ·exact⟨b,ch,by simp only[List.length_set];exact hb',hbn hbb e1,hm⟩
theorem chn_next{fs:List Fr}{k:Nat}{x:Int}{ch:List Nat}(h:chn fs k x=some ch){j i:Nat}{f:Fr}(hj:j∈ch)(e:fs[j]?=some f)(hn:f.n=(i:Int)):i∈ch∧∃a r,ch=a++j::i::r:=by
 obtain⟨g,e1,hu,a,r,e2,h3⟩:=chn_mem h j hj;rw[e]at e1;injection e1 with e1;subst e1;obtain⟨j',k',f',r',h4,h5,h6,h7,h8,h9⟩:=chn_cons h3 (by omega);have hjj:j'=j:=by omega
 subst hjj;rw[e]at h6;injection h6 with h6;subst h6;injection h9 with _ h9;subst h9;rw[hn]at h8;obtain⟨i',_,_,r'',h10,_,_,_,_,h11⟩:=chn_cons h8 (by omega);have:i'=i:=by omega
 subst this;rw[h11]at e2;exact⟨by rw[e2];simp,a,r'',e2⟩
theorem chn_cut{fs:List Fr}{i:Nat}{n:Int}{φ:Fr→Fr}(h1:∀f,(φ f).used=f.used)(h2:∀f,f.n≠(i:Int)→(φ f).n=f.n)(h3:∀f,f.used=true→f.n=(i:Int)→(φ f).n=n){fi:Fr}(hi:fs[i]?=some fi)(hn:fi.n=n):
  ∀{a r:List Nat} {k:Nat} {x:Int},a≠[]→chn fs k x=some (a++i::r)→chn ((fs.map φ).set i frz) k x=some (a++r):=by
 have hget:∀{j:Nat} {f:Fr},j≠i→fs[j]?=some f→((fs.map φ).set i frz)[j]?=some (φ f):=fun hne e=>by
  rw[set_ne (fun e=>hne e.symm),List.getElem?_map,e];rfl
 intro a
 induction a with
 | nil=>intro r k x h;exact absurd rfl h
 | cons j a ih=>
  intro r k x _ h;have hnd:=chn_nodup h;have hx:x≠-1:=by rintro rfl;rw[chn_neg]at h;injection h with h;cases h
  obtain⟨j',k',f,r',rfl,rfl,e,hu,hr,hc⟩:=chn_cons h hx;injection hc with hjj hc;subst hjj;have hji:j≠i:=by rintro rfl;simp at hnd
  have hstep:=fun k=>chn_step k (hget hji e) (by rw[h1];exact hu)
  rw[hstep];subst hc
  cases a with
  | nil=>
   change chn fs k' f.n=some (i::r)at hr;have hni:f.n≠-1:=by rintro e2;rw[e2,chn_neg]at hr;injection hr with hr;cases hr
   obtain⟨i',k2,g,r2,h4,h5,h6,h7,h8,h9⟩:=chn_cons hr hni;injection h9 with h9 h10;subst h9 h10;rw[h3 f hu h4];rw[hi]at h6;injection h6 with h6;subst h6;rw[hn]at h8;subst h5;have hnd2:i∉r:=by simp at hnd;exact hnd.2.1
   rw[chn_congr (fs':=(fs.map φ).set i frz) (chn_more (Nat.le_succ _) h8) (fun y hy g eg=>by
    have hne:y≠i:=by rintro rfl;exact hnd2 hy
    refine⟨φ g,hget hne eg,h1 g, ?_⟩;apply h2;intro hgn
    exact hnd2 (chn_next h8 hy eg hgn).1)]
   rfl
  | cons j2 a=>
   have hni:f.n≠(i:Int):=by
    intro e2;rw[e2]at hr;obtain⟨i',_,_,_,h4,_,_,_,_,h9⟩:=chn_cons hr (by omega);injection h9 with h9;have:i'=i:=by omega
    subst this;subst h9;simp at hnd
   rw[h2 f hni,ih (by simp) hr];rfl
theorem TV.unmap{t:Tab}(h:TV t){i:Nat}{f0:Fr}(hi:t.fs[i]?=some f0)(hu:f0.used=true)(hk:kval (f0.s,f0.p)=true):
  TV (if t.bs.getD (bkt t f0.s f0.p) 0=(i:Int)then⟨t.bs.set (bkt t f0.s f0.p) f0.n,t.fs.set i frz⟩else⟨t.bs,(t.fs.map (relink i f0.n)).set i frz⟩):=by
 obtain⟨_,_,hz3,_⟩:=h.sz;obtain⟨hil,_⟩:=List.getElem?_eq_some_iff.1 hi;obtain⟨hb,he⟩:=bkt_in hk hz3;obtain⟨ch0,e0,hc0⟩:=h.ch _ hb
 have hin:i∈ch0:=by
  obtain⟨b,ch,hb',e1,hm⟩:=h.cov i f0 hi hu;obtain⟨ch2,e2,hc2⟩:=h.ch b hb';rw[e1]at e2;injection e2 with e2;subst e2;obtain⟨f,ef,hh⟩:=hok_parts (hc2 i hm);rw[hi]at ef;injection ef with ef;subst ef;have:b=bkt t f0.s f0.p:=by omega
  subst this;rw[e1]at e0;injection e0 with e0;rw[←e0];exact hm
 obtain⟨x,ex,ec⟩:=bch_some e0;have hx:t.bs.getD (bkt t f0.s f0.p) 0=x:=by rw[List.getD_eq_getElem?_getD,ex];rfl
 obtain⟨_,_,_,a,r,ea,hir⟩:=chn_mem ec i hin;have hnd:(a++i::r).Nodup:=ea▸chn_nodup ec
 -- what both ways have in common
 have main:∀(bs':List Int) (φ:Fr→Fr),bs'.length=t.bs.length→(∀b,b≠bkt t f0.s f0.p→bs'[b]?=t.bs[b]?)→(∀f,(φ f).used=f.used∧(φ f).s=f.s∧(φ f).p=f.p∧(φ f).r=f.r)→(∀f,f.used=false→φ f=f)→(∀f,f.n≠(i:Int)→(φ f).n=f.n)→
   bch ⟨bs',(t.fs.map φ).set i frz⟩ (bkt t f0.s f0.p)=some (a++r)→TV ⟨bs',(t.fs.map φ).set i frz⟩:=by
  intro bs' φ hl hbs p1 p2 p3 hch
  have hget:∀{j:Nat} {f:Fr},j≠i→t.fs[j]?=some f→((t.fs.map φ).set i frz)[j]?=some (φ f):=fun hne e=>by
   rw[set_ne (fun e=>hne e.symm),List.getElem?_map,e];rfl
  have hget':∀{j:Nat} {f:Fr},j≠i→((t.fs.map φ).set i frz)[j]?=some f→∃g,t.fs[j]?=some g∧f=φ g:=fun {j f} hne e=>by
   rw[set_ne (fun e=>hne e.symm),List.getElem?_map]at e
   cases eg:t.fs[j]? with
   | none=>rw[eg]at e;cases e
   | some g=>rw[eg]at e;injection e with e;exact⟨g,rfl,e.symm⟩
  have hgi:((t.fs.map φ).set i frz)[i]?=some frz:=set_eq (by rw[List.length_map];exact hil)
  have hbn:∀{b:Nat} {ch:List Nat},b≠bkt t f0.s f0.p→b<t.bs.length→bch t b=some ch→i∉ch∧bch ⟨bs',(t.fs.map φ).set i frz⟩ b=some ch:=fun {b ch} hne hb' e=>by
   have hni:i∉ch:=fun hm=>by
    obtain⟨ch2,e2,hc2⟩:=h.ch b hb';rw[e]at e2;injection e2 with e2;subst e2;obtain⟨f,ef,hh⟩:=hok_parts (hc2 i hm);rw[hi]at ef;injection ef with ef;subst ef;omega
   refine⟨hni, ?_⟩;obtain⟨y,ey,ecy⟩:=bch_some e;rw[bch_of (t:=⟨bs',(t.fs.map φ).set i frz⟩) (i:=y) (by rw[hbs b hne];exact ey)];simp only[List.length_set,List.length_map]
   exact chn_congr ecy fun j hj g eg=>⟨φ g,hget (by rintro rfl;exact hni hj) eg,(p1 g).1,p3 g fun hgn=>hni (chn_next ecy hj eg hgn).1⟩
  have hok':∀{b j:Nat},j≠i→hok t b j=true→hok ⟨bs',(t.fs.map φ).set i frz⟩ b j=true:=fun hne e=>by
   obtain⟨f,ef,hh⟩:=hok_parts e;unfold hok;rw[hget hne ef];simp only[hl];rw[decide_eq_true_eq,(p1 f).2.1,(p1 f).2.2.1];exact hh
  have har:∀j∈a++r,j≠i∧j∈ch0:=fun j hj=>by
   refine⟨?_, ?_⟩
   ·rintro rfl;rw[List.nodup_append]at hnd;rcases List.mem_append.1 hj with hm | hm
    ·exact hnd.2.2 j hm j (by simp) rfl
    ·exact(List.nodup_cons.1 hnd.2.1).1 hm
   ·rw[ea];rcases List.mem_append.1 hj with hm | hm
    ·exact List.mem_append.2 (.inl hm)
    ·exact List.mem_append.2 (.inr (by simp[hm]))
  refine⟨by simp only[List.length_set,List.length_map,hl];exact h.sz,fun j f e=> ?_,fun j k f g ej ek hf hg hkk=> ?_,fun b hb'=> ?_,fun j f e hf=> ?_⟩
  ·by_cases hj:j=i
   ·subst hj;rw[hgi]at e;injection e with e;rw[←e];decide
   ·obtain⟨g,eg,rfl⟩:=hget' hj e;have hg:=h.ok j g eg
    cases hgu:g.used with
    | false=>rw[p2 g hgu];exact hg
    | true=>
     unfold frok at hg⊢;rw[(p1 g).1,(p1 g).2.1,(p1 g).2.2.1,(p1 g).2.2.2];rw[hgu]at hg⊢;simp only[if_true]at hg⊢;exact hg
  ·have hji:j≠i:=by rintro rfl;rw[hgi]at ej;injection ej with ej;rw[←ej]at hf;cases hf
   have hki:k≠i:=by rintro rfl;rw[hgi]at ek;injection ek with ek;rw[←ek]at hg;cases hg
   obtain⟨f',ef,rfl⟩:=hget' hji ej;obtain⟨g',eg,rfl⟩:=hget' hki ek;rw[(p1 f').1]at hf;rw[(p1 g').1]at hg;rw[(p1 f').2.1,(p1 f').2.2.1,(p1 g').2.1,(p1 g').2.2.1]at hkk;exact h.key j k f' g' ef eg hf hg hkk
  ·simp only[hl]at hb';by_cases hbb:b=bkt t f0.s f0.p
   ·subst hbb;refine⟨_,hch,fun j hj=> ?_⟩;obtain⟨h1,h2⟩:=har j hj;exact hok' h1 (hc0 j h2)
   ·obtain⟨ch,e1,hc⟩:=h.ch b hb';obtain⟨h1,h2⟩:=hbn hbb hb' e1;exact⟨ch,h2,fun j hj=>hok' (by rintro rfl;exact h1 hj) (hc j hj)⟩
  ·have hji:j≠i:=by rintro rfl;rw[hgi]at e;injection e with e;rw[←e]at hf;cases hf
   obtain⟨g,eg,rfl⟩:=hget' hji e;rw[(p1 g).1]at hf;obtain⟨b,ch,hb',e1,hm⟩:=h.cov j g eg hf;by_cases hbb:b=bkt t f0.s f0.p
   ·subst hbb;rw[e0]at e1;injection e1 with e1;subst e1;rw[ea]at hm;refine⟨_,_,by simp only[hl];exact hb',hch, ?_⟩;rcases List.mem_append.1 hm with hm | hm
    ·exact List.mem_append.2 (.inl hm)
    ·rcases List.mem_cons.1 hm with hm | hm
     ·exact absurd hm hji
     ·exact List.mem_append.2 (.inr hm)
   ·exact⟨b,ch,by simp only[hl];exact hb',(hbn hbb hb' e1).2,hm⟩
 rw[hx];by_cases hxi:x=(i:Int)
 ·rw[if_pos hxi];subst hxi
  have ha:a=[]:=by
   cases a with
   | nil=>rfl
   | cons j a=>
    exfalso;rw[ea]at ec;have:=chn_same ec hir;injection this with h1 h2;have hl:=congrArg List.length h2;simp at hl;omega
  subst ha
  have:=main (t.bs.set (bkt t f0.s f0.p) f0.n) id (by simp) (fun b hb'=>set_ne (fun e=>hb' e.symm)) (fun f=>⟨rfl,rfl,rfl,rfl⟩) (fun f _=>rfl) (fun f _=>rfl) (by
   rw[List.map_id,bch_of (t:=⟨t.bs.set (bkt t f0.s f0.p) f0.n,t.fs.set i frz⟩) (i:=f0.n) (set_eq hb)];simp only[List.length_set,List.nil_append];obtain⟨i',k',g,r',h4,h5,h6,h7,h8,h9⟩:=chn_cons hir (by omega);injection h9 with h9 h10;subst h9 h10;rw[hi]at h6;injection h6 with h6;subst h6;have hnr:i∉r:=by simp at hnd;exact hnd.1
   exact chn_congr (chn_more (by omega) h8) fun j hj g eg=>⟨g,by rw[set_ne (by rintro rfl;exact hnr hj)];exact eg,rfl,rfl⟩)
  rwa [List.map_id]at this
 ·rw[if_neg hxi]
  have hane:a≠[]:=by
   rintro rfl;rw[ea]at ec;have hx1:x≠-1:=by rintro rfl;rw[chn_neg]at ec;injection ec with ec;cases ec
   obtain⟨i',_,_,_,h4,_,_,_,_,h9⟩:=chn_cons ec hx1;injection h9 with h9;subst h9;exact hxi h4
  refine main t.bs (relink i f0.n) rfl (fun b _=>rfl) (fun f=>by unfold relink;split<;>exact⟨rfl,rfl,rfl,rfl⟩) (fun f hf=>by unfold relink;rw[if_neg (by simp[hf])]) (fun f hf=>by unfold relink;rw[if_neg (fun h=>hf h.2)]) ?_;rw[bch_of (t:=⟨t.bs,(t.fs.map (relink i f0.n)).set i frz⟩) (i:=x) ex];simp only[List.length_set,List.length_map];rw[ea]at ec;exact chn_cut (fun f=>by unfold relink;split<;>rfl) (fun f hf=>by unfold relink;rw[if_neg (fun h=>hf h.2)]) (fun f hf hn=>by unfold relink;rw[if_pos ⟨hf,hn⟩]) hi rfl hane ec
theorem self_ne{t:Tab}(h:tv t=true){k:Nat}{f:Fr}(e:t.fs[k]?=some f)(hu:f.used=true):f.n≠(k:Int):=by
 intro hn;obtain⟨b,ch,_,hc,hm⟩:=(tv_TV.1 h).cov k f e hu;obtain⟨x,_,hx⟩:=bch_some hc;obtain⟨_,a,r,har⟩:=chn_next hx hm e hn;have hd:=chn_nodup hx;rw[har]at hd;have:=(List.nodup_append.1 hd).2.1;simp at this
theorem l3Unmap_any(vb vf:Value)(t:Tab)(s p:Int)(k:Nat)(f:Fr)(w:World)(hT:TaR w vb vf t)(htv:tv t=true)(hkv:kval (s,p)=true)(hk:fndI t.fs s p=(k:Int))(ef:t.fs[k]?=some f)(hu:f.used=true)(hfk:(f.s,f.p)=(s,p)):
  Calls Tryz.prog 210 #[.agg #[vb,vf],.int .i64 k] w (Post2 fun v w'=>∃v1 v2,v=.agg #[v1,v2]∧TaM w.heap.size w' v1 v2 (unmT t s p)∧Below w.heap.size w w'):=by
 obtain⟨⟨_,hfl,hb1,hbl⟩,_⟩:=tv_parts htv;obtain⟨hbk,heq⟩:=bkt_in hkv hb1;injection hfk with hfs hfp;have hsn:=self_ne htv ef hu;have hx:=(Own.new_ w 26 #[vb,vf]).alloc (o:=.cells #[.slice none 0 0,.slice none 0 0] 26);have hr:=ownAt (W:=w.alloc (.cells #[vb,vf] 26)) (g:=w.heap.size+1) (t:=26) (cs:=#[.slice none 0 0,.slice none 0 0]) (by simp);have hb0:Below w.heap.size w ((w.alloc (.cells #[vb,vf] 26)).alloc (.cells #[.slice none 0 0,.slice none 0 0] 26)):=bA (bA bR);generalize hW:(w.alloc (.cells #[vb,vf] 26)).alloc (.cells #[.slice none 0 0,.slice none 0 0] 26)=W0 at hx hr hb0;have HTR:=Hd hT;have HX0:=Hd hx;have HR0:=Hd hr;have HB0:=Hd hb0;clear hT hx hr hb0;have t00:=HX0.c 0 (vb) rfl;have t10:=HX0.c 1 (vf) rfl;have HEF:=Hd ef;have HN:=Hd hk;clear ef hk
 go_enter Tryz.func210,Tryz.ntmps210
 go_wp2_with fail
 refine(l3Copy_any vb vf t _ (HTR.o.now HB0.o) (by omega) (by omega)).mono ?_;rintro e w4 ⟨_,rfl,v1,v2,rfl,hM4,hb4⟩;clear t00 t10;obtain⟨g1,c1,g2,c2,rfl,rfl,e1,e2,l1,l2,hne,a1,a2,b1,b2,m1,m2⟩:=hM4.open_ (by omega) (by omega);have ho5:=Own.new_ w4 26 #[.slice (some ⟨g1,0,none⟩) t.bs.length c1,.slice (some ⟨g2,0,none⟩) t.fs.length c2];have hb5:Below w4.heap.size w4 (w4.alloc (.cells #[.slice (some ⟨g1,0,none⟩) t.bs.length c1,.slice (some ⟨g2,0,none⟩) t.fs.length c2] 26)):=bA bR;generalize hW5:w4.alloc (.cells #[.slice (some ⟨g1,0,none⟩) t.bs.length c1,.slice (some ⟨g2,0,none⟩) t.fs.length c2] 26)=w5 at ho5 hb5;have M1:=Hd (m1.below hb5);have M2:=Hd (m2.below hb5);have HX5:=Hd ((HX0.o.below hb4).below hb5);have HR5:=Hd ((HR0.o.below hb4).below hb5);have HO5:=Hd ho5;have HB5:=Hd (bT HB0.o (bT hb4 hb5));have HS4:Hi (W0.heap.size≤w4.heap.size):=hb4.size;clear hM4 m1 m2 ho5 hb4 hb5;obtain⟨Ab,cb,rfl,hbc,hbm,hB⟩:=HTR.o.b;obtain⟨Af,cf,rfl,hfc,hfm,hF⟩:=HTR.o.f
 obtain⟨n0,en0⟩:∃n0,t.bs[bkt t s p]?=some n0:=⟨_,List.getElem?_eq_getElem hbk⟩
 obtain⟨b4,o4,rfl,hb4,d0,d1,d2,d3,d4⟩:=(hF.now (Nat.le_refl _) HB5.o).fr HEF.o;obtain⟨b5,o5,rfl,hb5,f0⟩:=(hB.now (Nat.le_refl _) HB5.o).i1 en0;have hfl2:=(List.getElem?_eq_some_iff.1 HEF.o).1
 have hut:unmT t s p=if n0=(k:Int)then⟨t.bs.set (bkt t s p) f.n,t.fs.set k frz⟩else⟨t.bs,(t.fs.map (relink k f.n)).set k frz⟩:=by
  unfold unmT;simp only[HN.o,Int.toNat_natCast,List.getD_eq_getElem?_getD,HEF.o,Option.getD_some];rw[en0];rfl
 have HUT:=Hd hut;have HFR:=Hd hF;have HBR:=Hd hB;have HH:=Hd (fun W=>l2Hash_any s p t.bs.length W hkv ⟨by omega,by omega⟩);rw[heq]at HH;generalize hbb:bkt t s p=b at*;rw[hfs]at d1;rw[hfp]at d2;have x0:=xcell (HX5.c 0 (.slice (some ⟨b5,o5,none⟩) t.bs.length cb) rfl) HX5.o.lt;have x1:=xcell (HX5.c 1 (.slice (some ⟨b4,o4,none⟩) t.fs.length cf) rfl) HX5.o.lt;have x2:=xcell d0 hb4;have x3:=xcell d1 hb4;have x4:=xcell d2 hb4;have x5:=xcell d4 hb4;have x6:=xcell f0 hb5;clear hut d0 d1 d2 d3 d4 f0 hF hB;go_wp2;refine wp_region_ext (by kernel_rfl) (by kernel_rfl) ?_;repeat (go_big_quiet_step ((go_at_call 94;exact ext_call (HH.o _))))
 refine wpQuiet_nil ?_;intro _ hw';obtain⟨⟨wq,hq⟩,hw''⟩:=hw';subst hw'';try dsimp only
 rename_i w6;clear x0 x1 x2 x3 x4 x5 x6;have M16:=Hd (M1.o.below hq);have M26:=Hd (M2.o.below hq);have HX6:=Hd (HX5.o.below hq);have HR6:=Hd (HR5.o.below hq);have HO6:=Hd (HO5.o.below hq);have HB6:=Hd (bT HB5.o hq);clear hq;obtain⟨_,cs2,u2,_,Q2,_⟩:=M26.o.own (by omega);injection u2 with u2;injection u2 with u2;subst u2;have ho1:w4.heap.size≠g2:=HO6.o.ne Q2 (by decide);have ho2:g2≠w4.heap.size:=fun h=>ho1 h.symm
 have hr2:w.heap.size+1≠g2:=HR6.o.ne Q2 (by decide);have hr4:g2≠w.heap.size+1:=fun h=>hr2 h.symm
 have hx2:w.heap.size≠g2:=HX6.o.ne Q2 (by decide);have hx4:g2≠w.heap.size:=fun h=>hx2 h.symm
 obtain⟨_,cs1,u1,_,Q1,_⟩:=M16.o.own (by omega);injection u1 with u1;injection u1 with u1;subst u1;have ho3:w4.heap.size≠g1:=HO6.o.ne Q1 (by decide);have ho4:g1≠w4.heap.size:=fun h=>ho3 h.symm
 have hr1:w.heap.size+1≠g1:=HR6.o.ne Q1 (by decide);have hr3:g1≠w.heap.size+1:=fun h=>hr1 h.symm
 have hx1:w.heap.size≠g1:=HX6.o.ne Q1 (by decide);have hx3:g1≠w.heap.size:=fun h=>hx1 h.symm
 have hne':g2≠g1:=fun h=>hne h.symm
 have z2:=Q2.free (k*5);have z3:=Q2.free (k*5+1);have z4:=Q2.free (k*5+2);have z5:=Q2.free (k*5+3);have z6:=Q2.free (k*5+4);obtain⟨bq,oq,eq1,_,v0,v1,v2,v3,v4⟩:=M26.o.is.fr HEF.o;injection eq1 with eq1;injection eq1 with eq1 eq2;subst eq1 eq2;rw[Nat.zero_add]at v0 v1 v2 v3 v4;have x0:=HX6.c 0 (.slice (some ⟨b5,o5,none⟩) t.bs.length cb) rfl;have x1:=HX6.c 1 (.slice (some ⟨b4,o4,none⟩) t.fs.length cf) rfl;have o60:=HO6.c 0 (.slice (some ⟨g1,0,none⟩) t.bs.length c1) rfl;have o61:=HO6.c 1 (.slice (some ⟨g2,0,none⟩) t.fs.length c2) rfl;obtain⟨bz,oz,eq1,hbz,d0,d1,d2,d3,d4⟩:=(HFR.o.now (Nat.le_refl _) HB6.o).fr HEF.o;injection eq1 with eq1;injection eq1 with eq1 eq2;subst eq1 eq2;have nf:=M26.o.wfr hfl2 frz;have nb:=((((M16.o.other (p:=⟨g2,k*5,none⟩) (u:=.bool false) hne').other (p:=⟨g2,k*5+1,none⟩) (u:=.int .i64 0) hne').other (p:=⟨g2,k*5+2,none⟩) (u:=.int .i64 0) hne').other (p:=⟨g2,k*5+3,none⟩) (u:=.int .i64 0) hne').other (p:=⟨g2,k*5+4,none⟩) (u:=.int .i64 (-1)) hne';have hr:=((((HR6.o.far (p:=⟨g2,k*5,none⟩) (u:=.bool false) hr2).far (p:=⟨g2,k*5+1,none⟩) (u:=.int .i64 0) hr2).far (p:=⟨g2,k*5+2,none⟩) (u:=.int .i64 0) hr2).far (p:=⟨g2,k*5+3,none⟩) (u:=.int .i64 0) hr2).far (p:=⟨g2,k*5+4,none⟩) (u:=.int .i64 (-1)) hr2;have ho:=((((HO6.o.far (p:=⟨g2,k*5,none⟩) (u:=.bool false) ho1).far (p:=⟨g2,k*5+1,none⟩) (u:=.int .i64 0) ho1).far (p:=⟨g2,k*5+2,none⟩) (u:=.int .i64 0) ho1).far (p:=⟨g2,k*5+3,none⟩) (u:=.int .i64 0) ho1).far (p:=⟨g2,k*5+4,none⟩) (u:=.int .i64 (-1)) ho1;have hxx:=((((HX6.o.far (p:=⟨g2,k*5,none⟩) (u:=.bool false) hx2).far (p:=⟨g2,k*5+1,none⟩) (u:=.int .i64 0) hx2).far (p:=⟨g2,k*5+2,none⟩) (u:=.int .i64 0) hx2).far (p:=⟨g2,k*5+3,none⟩) (u:=.int .i64 0) hx2).far (p:=⟨g2,k*5+4,none⟩) (u:=.int .i64 (-1)) hx2;have hg2:w.heap.size≤g2:=by have:=HB0.o.size;have:=HS4.o;omega
 have hg1:w.heap.size≤g1:=by have:=HB0.o.size;have:=HS4.o;omega
 have hb:=bS (bS (bS (bS (bS HB6.o (p:=⟨g2,k*5,none⟩) hg2 (u:=.bool false)) (p:=⟨g2,k*5+1,none⟩) hg2 (u:=.int .i64 0)) (p:=⟨g2,k*5+2,none⟩) hg2 (u:=.int .i64 0)) (p:=⟨g2,k*5+3,none⟩) hg2 (u:=.int .i64 0)) (p:=⟨g2,k*5+4,none⟩) hg2 (u:=.int .i64 (-1));have hlx:=HX6.o.lt;have hlo:=HO6.o.lt;generalize hW7:((((w6.setCell ⟨g2,k*5,none⟩ (.bool false)).setCell ⟨g2,k*5+1,none⟩ (.int .i64 0)).setCell ⟨g2,k*5+2,none⟩ (.int .i64 0)).setCell ⟨g2,k*5+3,none⟩ (.int .i64 0)).setCell ⟨g2,k*5+4,none⟩ (.int .i64 (-1))=w7 at nf nb hr ho hxx hb;have nf:MineE frE 80 W0.heap.size w7 (some ⟨g2,0,none⟩) (t.fs.set k frz):=by rw[←hW7];exact M26.o.wfr hfl2 frz
 have NF7:=Hd nf;have NB7:=Hd nb;have HR7:=Hd hr;have HO7:=Hd ho;have HX7:=Hd hxx;have HB7:=Hd hb;clear nf nb hr ho hxx hb Q1 Q2;have x70:=HX7.c 0 (.slice (some ⟨b5,o5,none⟩) t.bs.length cb) rfl;obtain⟨bz,oz,eq1,hbz,e0⟩:=(HBR.o.now (Nat.le_refl _) HB7.o).i1 en0;injection eq1 with eq1;injection eq1 with eq1 eq2;subst eq1 eq2;have x71:=HX7.c 1 (.slice (some ⟨b4,o4,none⟩) t.fs.length cf) rfl;have hlx7:=HX7.o.lt;have hlo7:=HO7.o.lt;have hlr7:=HR7.o.lt;by_cases hbe:n0=(k:Int)
 ·subst hbe;have HU:Hi (unmT t s p=⟨t.bs.set b f.n,t.fs.set k frz⟩):=by show _=_;rw[HUT.o,if_pos rfl]
  have o70:=HO7.c 0 (.slice (some ⟨g1,0,none⟩) t.bs.length c1) rfl;obtain⟨_,cs1,u1,_,Q1,_⟩:=NB7.o.own (by omega);injection u1 with u1;injection u1 with u1;subst u1;have z1:=Q1.free b;obtain⟨bz,oz,eq1,hbz,w0⟩:=NB7.o.is.i1 en0;injection eq1 with eq1;injection eq1 with eq1 eq2;subst eq1 eq2;rw[Nat.zero_add]at w0;have nb:=NB7.o.wint hbk f.n;have nf:=NF7.o.other (p:=⟨g1,b,none⟩) (u:=.int .i64 f.n) hne;have hr8:=HR7.o.far (p:=⟨g1,b,none⟩) (u:=.int .i64 f.n) hr1;have ho8:=HO7.o.far (p:=⟨g1,b,none⟩) (u:=.int .i64 f.n) ho3;have hb8:Below w.heap.size w (w7.setCell ⟨g1,b,none⟩ (.int .i64 f.n)):=bS HB7.o hg1;generalize hW8:w7.setCell ⟨g1,b,none⟩ (.int .i64 f.n)=w8 at nb nf hr8 ho8 hb8;have NB8:=Hd nb;have NF8:=Hd nf;have HR8:=Hd hr8;have HO8:=Hd ho8;have HB8:=Hd hb8;clear nb nf hr8 ho8 hb8 Q1 en0;have r08:=HR8.c 0 (.slice none 0 0) rfl;have r18:=HR8.c 1 (.slice none 0 0) rfl;have fr08:=HR8.o.free 0;have fr18:=HR8.o.free 1;have o80:=HO8.c 0 (.slice (some ⟨g1,0,none⟩) t.bs.length c1) rfl;have o81:=HO8.c 1 (.slice (some ⟨g2,0,none⟩) t.fs.length c2) rfl;have hrl:=HR8.o.lt;have hol:=HO8.o.lt;go_wp2;have o3:=(HR8.o.set_ 0 (.slice (some ⟨g1,0,none⟩) t.bs.length c1)).set_ 1 (.slice (some ⟨g2,0,none⟩) t.fs.length c2);have e0:=o3.cell_ 0 (v:=.slice (some ⟨g1,0,none⟩) t.bs.length c1) rfl;have e1:=o3.cell_ 1 (v:=.slice (some ⟨g2,0,none⟩) t.fs.length c2) rfl;have hlt3:=HR0.o.lt;have Q3:=(NF8.o.far (p:=⟨w.heap.size+1,0,none⟩) (u:=.slice (some ⟨g1,0,none⟩) t.bs.length c1) hlt3).far (p:=⟨w.heap.size+1,1,none⟩) (u:=.slice (some ⟨g2,0,none⟩) t.fs.length c2) hlt3;have Q4:=(NB8.o.far (p:=⟨w.heap.size+1,0,none⟩) (u:=.slice (some ⟨g1,0,none⟩) t.bs.length c1) hlt3).far (p:=⟨w.heap.size+1,1,none⟩) (u:=.slice (some ⟨g2,0,none⟩) t.fs.length c2) hlt3;refine bodyPost_ret (v:=.agg #[.slice (some ⟨g1,0,none⟩) t.bs.length c1,.slice (some ⟨g2,0,none⟩) t.fs.length c2]) (by simp[results,Tryz.results210,go_sem,e0,e1]) rfl ⟨_,rfl,_,_,rfl, ?_, ?_⟩
  ·rw[HU.o];exact⟨slm_of (by simp) (by simpa using a1) a2 (Q4.mono HB0.o.size),slm_of (by simp) (by simpa using b1) b2 (Q3.mono HB0.o.size)⟩
  ·repeat (refine bS ?_ (by simp<;>omega))
   exact HB8.o
 ·have HU:Hi (unmT t s p=⟨t.bs,(t.fs.map (relink k f.n)).set k frz⟩):=by show _=_;rw[HUT.o,if_neg hbe]
  have hne1:(n0 == (k:Int))=false:=by rw[beq_eq_false_iff_ne];exact hbe
  clear en0;go_wp2;clear x0 x1 x70 x71 o60 o61 v0 v1 v2 v3 v4 z2 z3 z4 z5 z6 d0 d1 d2 d3 d4 hlx hlo hlx7 hlo7 hlr7 e0;go_loopw [8] (fun u wr=>∃i:Nat,i≤t.fs.length∧u=.int .i64 i∧MineE intE 3 W0.heap.size wr (some ⟨g1,0,none⟩) t.bs∧MineE frE 80 W0.heap.size wr (some ⟨g2,0,none⟩) ((rl t.fs k f.n i).set k frz)∧Own wr (w.heap.size+1) 26 #[.slice none 0 0,.slice none 0 0]∧Own wr w4.heap.size 26 #[.slice (some ⟨g1,0,none⟩) t.bs.length c1,.slice (some ⟨g2,0,none⟩) t.fs.length c2]∧Own wr w.heap.size 26 #[.slice (some ⟨b5,o5,none⟩) t.bs.length cb,.slice (some ⟨b4,o4,none⟩) t.fs.length cf]∧Below w.heap.size w wr) (fun u _=>t.fs.length-(intOf u).toNat)
  case atStart=>exact⟨0,by omega,rfl,NB7.o,by rw[rl_zero];exact NF7.o,HR7.o,HO7.o,HX7.o,HB7.o⟩
  case round=>
   obtain⟨i,hi,rfl,hnb,hnf,hhr,hho,hhx,hhb⟩:=hrel;have NB8:=Hd hnb;have NF8:=Hd hnf;have HR8:=Hd hhr;have HO8:=Hd hho;have HX8:=Hd hhx;have HB8:=Hd hhb;clear hnb hnf hhr hho hhx hhb;have x81:=HX8.c 1 (.slice (some ⟨b4,o4,none⟩) t.fs.length cf) rfl;have hlx8:=HX8.o.lt;by_cases hlt:i<t.fs.length
   ·obtain⟨fi,ei⟩:∃fi,t.fs[i]?=some fi:=⟨_,List.getElem?_eq_getElem hlt⟩
    obtain⟨bz,oz,eq1,hbz,d0,d1,d2,d3,d4⟩:=(HFR.o.now (Nat.le_refl _) HB8.o).fr ei;injection eq1 with eq1;injection eq1 with eq1 eq2;subst eq1 eq2;have HST:=Hd (rl_step (a:=(k:Int)) (n:=f.n) ei);have HAT:=Hd (rl_at (a:=(k:Int)) (n:=f.n) ei);have hll:=rl_len t.fs (k:Int) f.n i;by_cases hre:fi.used=true∧fi.n=(k:Int)
    ·have hik:k≠i:=by
      rintro rfl;rw[HEF.o]at ei;injection ei with ei;exact hsn (by rw[ei];exact hre.2)
     have HRE:Hi (relink k f.n fi={fi with n:=f.n}):=if_pos hre;have hu:=hre.1;have hn:=hre.2;have hat2:((rl t.fs k f.n i).set k frz)[i]?=some fi:=by rw[List.getElem?_set,if_neg hik];exact HAT.o
     have o81:=HO8.c 1 (.slice (some ⟨g2,0,none⟩) t.fs.length c2) rfl;have hol:=HO8.o.lt;obtain⟨_,cs9,u9,_,Q9,_⟩:=NF8.o.own (by simp;omega);injection u9 with u9;injection u9 with u9;subst u9;have z6:=Q9.free (i*5+4);obtain⟨bz,oz,eq1,_,v0,v1,v2,v3,v4⟩:=NF8.o.is.fr hat2;injection eq1 with eq1;injection eq1 with eq1 eq2;subst eq1 eq2;rw[Nat.zero_add]at v4;rw[hu]at d0;rw[hn]at d4;have nf9:=NF8.o.wnext hat2 f.n;have nb9:=NB8.o.other (p:=⟨g2,i*5+4,none⟩) (u:=.int .i64 f.n) hne';have hr9:=HR8.o.far (p:=⟨g2,i*5+4,none⟩) (u:=.int .i64 f.n) hr2;have ho9:=HO8.o.far (p:=⟨g2,i*5+4,none⟩) (u:=.int .i64 f.n) ho1;have hx9:=HX8.o.far (p:=⟨g2,i*5+4,none⟩) (u:=.int .i64 f.n) hx2;have hb9:Below w.heap.size w (wr.setCell ⟨g2,i*5+4,none⟩ (.int .i64 f.n)):=bS HB8.o hg2
     have heq9:(rl t.fs k f.n (i+1)).set k frz=((rl t.fs k f.n i).set k frz).set i {fi with n:=f.n}:=by
      rw[HST.o,HRE.o,List.set_comm _ _ (fun h=>hik h.symm)]
     have NF9:=Hd nf9;have NB9:=Hd nb9;have HR9:=Hd hr9;have HO9:=Hd ho9;have HX9:=Hd hx9;have HB9:=Hd hb9;have HE9:=Hd heq9;clear nf9 nb9 hr9 ho9 hx9 hb9 hre hu hn Q9 v0 v1 v2 v3 ei hat2 d1 d2 d3 heq9;go_wp2;go_roundw;case rel=>exact⟨i+1,by omega,by go_num,NB9.o,by rw[HE9.o];exact NF9.o,HR9.o,HO9.o,HX9.o,HB9.o⟩
     case measure=>simp[intOf];omega
    ·have HRE:Hi (relink k f.n fi=fi):=if_neg hre
     have HSM:Hi (rl t.fs k f.n (i+1)=rl t.fs k f.n i):=by
      show _=_;rw[HST.o,HRE.o]
      exact List.ext_getElem? fun j=>by
       rw[List.getElem?_set];split
       ·rename_i hij;subst hij;rw[HAT.o,if_pos (by omega)]
       ·rfl
     clear ei d1 d2 d3
     cases hu:fi.used with
     | false=>
      rw[hu]at d0;clear d4 hre hu;go_wp2;go_roundw;case rel=>exact⟨i+1,by omega,by go_num,NB8.o,by rw[HSM.o];exact NF8.o,HR8.o,HO8.o,HX8.o,HB8.o⟩
      case measure=>simp[intOf];omega
     | true=>
      rw[hu]at d0;have hn2:(fi.n == (k:Int))=false:=by rw[beq_eq_false_iff_ne];exact fun h=>hre ⟨hu,h⟩
      clear hre hu;go_wp2;go_roundw;case rel=>exact⟨i+1,by omega,by go_num,NB8.o,by rw[HSM.o];exact NF8.o,HR8.o,HO8.o,HX8.o,HB8.o⟩
      case measure=>simp[intOf];omega
   ·obtain rfl:i=t.fs.length:=by omega
    have hra:=rl_all t.fs k f.n;rw[hra]at NF8;have r08:=HR8.c 0 (.slice none 0 0) rfl;have r18:=HR8.c 1 (.slice none 0 0) rfl;have fr08:=HR8.o.free 0;have fr18:=HR8.o.free 1;have o80:=HO8.c 0 (.slice (some ⟨g1,0,none⟩) t.bs.length c1) rfl;have o81:=HO8.c 1 (.slice (some ⟨g2,0,none⟩) t.fs.length c2) rfl;have hrl:=HR8.o.lt;have hol:=HO8.o.lt;go_wp2;have o3:=(HR8.o.set_ 0 (.slice (some ⟨g1,0,none⟩) t.bs.length c1)).set_ 1 (.slice (some ⟨g2,0,none⟩) t.fs.length c2);have e0:=o3.cell_ 0 (v:=.slice (some ⟨g1,0,none⟩) t.bs.length c1) rfl;have e1:=o3.cell_ 1 (v:=.slice (some ⟨g2,0,none⟩) t.fs.length c2) rfl;have hlt3:=HR0.o.lt;have Q3:=(NF8.o.far (p:=⟨w.heap.size+1,0,none⟩) (u:=.slice (some ⟨g1,0,none⟩) t.bs.length c1) hlt3).far (p:=⟨w.heap.size+1,1,none⟩) (u:=.slice (some ⟨g2,0,none⟩) t.fs.length c2) hlt3;have Q4:=(NB8.o.far (p:=⟨w.heap.size+1,0,none⟩) (u:=.slice (some ⟨g1,0,none⟩) t.bs.length c1) hlt3).far (p:=⟨w.heap.size+1,1,none⟩) (u:=.slice (some ⟨g2,0,none⟩) t.fs.length c2) hlt3;refine bodyPost_ret (v:=.agg #[.slice (some ⟨g1,0,none⟩) t.bs.length c1,.slice (some ⟨g2,0,none⟩) t.fs.length c2]) (by simp[results,Tryz.results210,go_sem,e0,e1]) rfl ⟨_,rfl,_,_,rfl, ?_, ?_⟩
    ·rw[HU.o];exact⟨slm_of (by simp) (by simpa using a1) a2 (Q4.mono HB0.o.size),slm_of (by simp) (by simpa using b1) b2 (Q3.mono HB0.o.size)⟩
    ·repeat (refine bS ?_ (by simp<;>omega))
     exact HB8.o
theorem sUnmapPage_any(vb vf:Value)(t:Tab)(s p:Int)(w:World)(hT:TaR w vb vf t):
  Calls Tryz.prog 161 #[.agg #[vb,vf],.agg #[.int .i64 s,.int .i64 p]] w (Post2 fun v w'=>∃v1 v2,v=.tuple #[.agg #[v1,v2],.bool (fOK t s p)]∧TaM w.heap.size w' v1 v2 (unmV t s p)∧Below w.heap.size w w'):=by
 have ht0:=((Own.new_ w 26 #[vb,vf]).alloc (o:=.cells #[.int .i64 s,.int .i64 p] 54)).alloc (o:=.cells #[.slice none 0 0,.slice none 0 0] 26);have hk0:=(Own.new_ (w.alloc (.cells #[vb,vf] 26)) 54 #[.int .i64 s,.int .i64 p]).alloc (o:=.cells #[.slice none 0 0,.slice none 0 0] 26);have hr0:=Own.new_ ((w.alloc (.cells #[vb,vf] 26)).alloc (.cells #[.int .i64 s,.int .i64 p] 54)) 26 #[.slice none 0 0,.slice none 0 0];have hb0:Below w.heap.size w (((w.alloc (.cells #[vb,vf] 26)).alloc (.cells #[.int .i64 s,.int .i64 p] 54)).alloc (.cells #[.slice none 0 0,.slice none 0 0] 26)):=bA (bA (bA bR));rw[show(w.alloc (.cells #[vb,vf] 26)).heap.size=w.heap.size+1 by simp]at hk0;rw[show((w.alloc (.cells #[vb,vf] 26)).alloc (.cells #[.int .i64 s,.int .i64 p] 54)).heap.size=w.heap.size+1+1 by simp]at hr0;have hs0:(((w.alloc (.cells #[vb,vf] 26)).alloc (.cells #[.int .i64 s,.int .i64 p] 54)).alloc (.cells #[.slice none 0 0,.slice none 0 0] 26)).heap.size=w.heap.size+3:=by simp
 generalize hW:((w.alloc (.cells #[vb,vf] 26)).alloc (.cells #[.int .i64 s,.int .i64 p] 54)).alloc (.cells #[.slice none 0 0,.slice none 0 0] 26)=W0 at ht0 hk0 hr0 hb0 hs0;have HT0:=Hd ht0;have HK0:=Hd hk0;have HR0:=Hd hr0;have HB0:=Hd hb0;clear ht0 hk0 hr0 hb0;have t00:=HT0.c 0 (vb) rfl;have t10:=HT0.c 1 (vf) rfl;have k00:=HK0.c 0 (.int .i64 s) rfl;have k10:=HK0.c 1 (.int .i64 p) rfl;have HTR:=Hd hT;clear hT
 go_enter Tryz.func161,Tryz.ntmps161
 go_wp2_with fail
 refine(sFindPage_any vb vf t s p _ (HTR.o.now HB0.o)).mono ?_;rintro e w1 ⟨_,rfl,stp,rfl,hb1⟩;have HT1:=Hd (HT0.o.below hb1);have HK1:=Hd (HK0.o.below hb1);have HR1:=Hd (HR0.o.below hb1);have HB1:=Hd (bT HB0.o hb1);clear hb1;have t01:=HT1.o.cell_ 0 rfl;have t11:=HT1.o.cell_ 1 rfl;have k01:=HK1.c 0 (.int .i64 s) rfl;have k11:=HK1.c 1 (.int .i64 p) rfl;have r01:=HR1.c 0 (.slice none 0 0) rfl;have r11:=HR1.c 1 (.slice none 0 0) rfl;have fr01:=HR1.o.free 0;have fr11:=HR1.o.free 1;clear t00 t10 k00 k10;try clear r00 r10 fr00 fr10
 cases h1:fOK t s p with
 | false=>
  have HA:Hi (fOK t s p=false):=h1;have HV:=Hd (unmOK_false HA.o);go_wp2;have o3:=(HR1.o.set_ 0 (.slice none 0 0)).set_ 1 (.slice none 0 0);have e0:=o3.cell_ 0 (v:=.slice none 0 0) rfl;have e1:=o3.cell_ 1 (v:=.slice none 0 0) rfl;refine bodyPost_ret (v:=.tuple #[.agg #[.slice none 0 0,.slice none 0 0],.bool false]) (by simp[results,Tryz.results161,go_sem,e0,e1]) rfl ⟨_,rfl,_,_,by rw[HA.o], ?_,bS (bS HB1.o (by simp;omega)) (by simp;omega)⟩;rw[HV.o];exact tam_z
 | true=>
 have HA:Hi (fOK t s p=true):=h1;have HV:Hi (unmV t s p=unmT t s p):=by show _=_;unfold unmV;rw[HA.o];rfl
 have h1':=h1;unfold fOK at h1';simp only[Bool.and_eq_true,decide_eq_true_eq]at h1';obtain⟨⟨htv,hkv⟩,h3⟩:=h1';obtain⟨k,f,hk,ef,hfu,hfk⟩:=fndI_lt h3;have HFP:Hi (fpV t s p=(k:Int)):=by show _=_;unfold fpV;rw[h1,if_pos rfl,hk]
 rw[HFP.o];have HC:=Hd (l3Unmap_any vb vf t s p k f w1 (HTR.o.now HB1.o) htv hkv hk ef hfu hfk);clear hk ef hfk h3 hfu htv hkv;go_wp2_with fail
 refine HC.o.mono ?_;rintro e w4 ⟨_,rfl,v1,v2,rfl,hM4,hb4'⟩;have hb4:=hb4';have hs4:w.heap.size+1+1<w1.heap.size:=HR1.o.lt;have HT4:=Hd (HT1.o.below hb4);have HK4:=Hd (HK1.o.below hb4);have HR4:=Hd (HR1.o.below hb4);have HB4:=Hd (bT HB1.o hb4);clear hb4;have t04:=HT4.o.cell_ 0 rfl;have t14:=HT4.o.cell_ 1 rfl;have k04:=HK4.c 0 (.int .i64 s) rfl;have k14:=HK4.c 1 (.int .i64 p) rfl;have r04:=HR4.c 0 (.slice none 0 0) rfl;have r14:=HR4.c 1 (.slice none 0 0) rfl;have fr04:=HR4.o.free 0;have fr14:=HR4.o.free 1;clear t01 t11 k01 k11;try clear r01 r11 fr01 fr11
 obtain⟨A1,c1,rfl,_⟩:=hM4.b;obtain⟨A2,c2,rfl,_⟩:=hM4.f;have HM4:=Hd hM4;have hsz3:=HB1.o.size;have hlr:=HR4.o.lt;clear hM4 hb4';go_wp2;have o3:=(HR4.o.set_ 0 (.slice A1 (unmT t s p).bs.length c1)).set_ 1 (.slice A2 (unmT t s p).fs.length c2);have e0:=o3.cell_ 0 (v:=.slice A1 (unmT t s p).bs.length c1) rfl;have e1:=o3.cell_ 1 (v:=.slice A2 (unmT t s p).fs.length c2) rfl;have M7:=((HM4.o.far (p:=⟨w.heap.size+1+1,0,none⟩) (u:=.slice A1 (unmT t s p).bs.length c1) hs4).far (p:=⟨w.heap.size+1+1,1,none⟩) (u:=.slice A2 (unmT t s p).fs.length c2) hs4).mono (B':=w.heap.size) hsz3;refine bodyPost_ret (v:=.tuple #[.agg #[.slice A1 (unmT t s p).bs.length c1,.slice A2 (unmT t s p).fs.length c2],.bool true]) (by simp[results,Tryz.results161,go_sem,e0,e1]) rfl ⟨_,rfl,_,_,by rw[HA.o], ?_,bS (bS HB4.o (by simp;omega)) (by simp;omega)⟩;rw[HV.o];exact M7
end Go.Proofs.YtfbnokjdkhcgoaaGreatDoor
