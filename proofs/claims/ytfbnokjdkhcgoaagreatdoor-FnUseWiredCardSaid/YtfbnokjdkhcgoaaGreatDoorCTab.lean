/- A part of the proofs of this seat. -/
import Derived.Maps.OwnSet
import Derived.DeepKeys4
import Derived.Test.YtfbnokjdkhcgoaaGreatDoorCMem
set_option linter.unusedVariables false
set_option linter.unusedSimpArgs false
set_option maxRecDepth 1000000
set_option maxHeartbeats 16000000
namespace Go.Proofs.YtfbnokjdkhcgoaaGreatDoor
open Go.RowKit
def frok(f:Fr):Bool:=if f.used=true then kval (f.s,f.p) && inR f.r 8 else decide (f=frz)
def dupf(fs:List Fr)(i:Nat):Bool:=match fs[i]? with
 | some f=>!f.used || (fs.take i).all (fun g=>!g.used || decide (¬(g.s,g.p)=(f.s,f.p)))
 | none=>true
def frs(fs:List Fr):Nat→Bool
 | 0=>true
 | i+1=>frs fs i && (match fs[i]? with | some f=>frok f | none=>false) && dupf fs i
def nus(fs:List Fr)(i:Nat):Nat:=(fs.take i).countP (·.used)
def hsh(s p:Int)(nb:Int):Int:=((s*256+p)*2654435761 % 4294967296)*nb / 4294967296
def chn (fs:List Fr):Nat→Int→Option (List Nat)
  | 0,i=>if i=-1 then some []else none
  | k +1,i=>if i=-1 then some []else if 0≤i then
      match fs[i.toNat]? with
      | some f=>if f.used=true then(chn fs k f.n).map (i.toNat::·)else none
      | none=>none
    else none
def bch(t:Tab)(b:Nat):Option (List Nat):=match t.bs[b]? with
 | some i=>chn t.fs t.fs.length i
 | none=>none
def hok(t:Tab)(b:Nat)(i:Nat):Bool:=match t.fs[i]? with
 | some f=>decide (hsh f.s f.p t.bs.length=b)
 | none=>false
def bok(t:Tab)(b:Nat):Bool:=match bch t b with
 | some ch=>ch.all (hok t b)
 | none=>false
def bln(t:Tab)(b:Nat):Nat:=match bch t b with
 | some ch=>ch.length
 | none=>0
def bsum(t:Tab):Nat→Nat
 | 0=>0
 | b+1=>bsum t b+bln t b
def boks(t:Tab):Nat→Bool
 | 0=>true
 | b+1=>boks t b && bok t b
def tsz(t:Tab):Bool:=decide (1≤t.fs.length) && decide (t.fs.length≤16) && decide (1≤t.bs.length) && decide (t.bs.length≤16)
def tv(t:Tab):Bool:=tsz t && frs t.fs t.fs.length && boks t t.bs.length && decide (bsum t t.bs.length=nus t.fs t.fs.length)
theorem chn_neg(fs:List Fr)(k:Nat):chn fs k (-1)=some []:=by cases k<;>simp[chn]
theorem chn_out{fs:List Fr}(k:Nat){i:Int}(h1:i≠-1)(h:¬(0≤i∧i<fs.length)):chn fs k i=none:=by
 cases k with
 | zero=>simp[chn,h1]
 | succ k=>
  unfold chn;rw[if_neg h1];split
  ·rename_i h0;rw[List.getElem?_eq_none (by omega)]
  ·rfl
theorem chn_free{fs:List Fr}(k:Nat){i:Nat}{f:Fr}(e:fs[i]?=some f)(h:f.used=false):chn fs k i=none:=by
 cases k with
 | zero=>simp[chn]
 | succ k=>
  unfold chn;rw[if_neg (by omega),if_pos (by omega),Int.toNat_natCast,e];simp[h]
theorem chn_step{fs:List Fr}(k:Nat){i:Nat}{f:Fr}(e:fs[i]?=some f)(h:f.used=true):chn fs (k+1) i=(chn fs k f.n).map (i::·):=by
 conv=>lhs;unfold chn
 rw[if_neg (by omega),if_pos (by omega),Int.toNat_natCast,e];simp[h]
theorem chn_none0{fs:List Fr}{i:Int}(h:i≠-1):chn fs 0 i=none:=by simp[chn,h]
theorem chn_cons{fs:List Fr}{k:Nat}{i:Int}{ch:List Nat}(h:chn fs k i=some ch)(hi:i≠-1):
  ∃(j k':Nat) (f:Fr) (r:List Nat),i=(j:Int)∧k=k'+1∧fs[j]?=some f∧f.used=true∧chn fs k' f.n=some r∧ch=j::r:=by
 cases k with
 | zero=>rw[chn_none0 hi]at h;cases h
 | succ k=>
  unfold chn at h;rw[if_neg hi]at h;split at h
  ·rename_i h0
   cases e:fs[i.toNat]? with
   | none=>rw[e]at h;cases h
   | some f=>
    rw[e]at h;simp only at h;split at h
    ·rename_i hu
     cases e2:chn fs k f.n with
     | none=>rw[e2]at h;cases h
     | some r=>
      rw[e2]at h;injection h with h;exact⟨i.toNat,k,f,r,by omega,rfl,e,hu,e2,h.symm⟩
    ·cases h
  ·cases h
theorem chn_more{fs:List Fr}{k k':Nat}(hk:k≤k'):∀{i:Int} {ch:List Nat},chn fs k i=some ch→chn fs k' i=some ch:=by
 induction k generalizing k' with
 | zero=>
  intro i ch h;by_cases hi:i=-1
  ·subst hi;rw[chn_neg]at h⊢;exact h
  ·rw[chn_none0 hi]at h;cases h
 | succ k ih=>
  intro i ch h;by_cases hi:i=-1
  ·subst hi;rw[chn_neg]at h⊢;exact h
  ·obtain⟨j,k1,f,r,rfl,hk1,e,hu,h2,rfl⟩:=chn_cons h hi
   obtain⟨k2,rfl⟩:∃k2,k'=k2+1:=⟨k'-1,by omega⟩
   have:k1=k:=by omega
   subst this;rw[chn_step k2 e hu,ih (by omega) h2];rfl
theorem chn_same{fs:List Fr}{k k':Nat}{i:Int}{a b:List Nat}(h:chn fs k i=some a)(h':chn fs k' i=some b):a=b:=by
 rcases Nat.le_total k k' with hk | hk
 ·have:=chn_more hk h;rw[h']at this;exact(Option.some.inj this).symm
 ·have:=chn_more hk h';rw[h]at this;exact Option.some.inj this
theorem chn_len{fs:List Fr}:∀{k:Nat} {i:Int} {ch:List Nat},chn fs k i=some ch→ch.length≤k:=by
 intro k
 induction k with
 | zero=>
  intro i ch h;by_cases hi:i=-1
  ·subst hi;rw[chn_neg]at h;injection h with h;subst h;simp
  ·rw[chn_none0 hi]at h;cases h
 | succ k ih=>
  intro i ch h;by_cases hi:i=-1
  ·subst hi;rw[chn_neg]at h;injection h with h;subst h;simp
  ·obtain⟨j,k1,f,r,rfl,hk1,e,hu,h2,rfl⟩:=chn_cons h hi;have:k1=k:=by omega
   subst this;have:=ih h2;simp;omega
theorem chn_mem{fs:List Fr}:∀{k:Nat} {i:Int} {ch:List Nat},chn fs k i=some ch→∀j∈ch,∃f,fs[j]?=some f∧f.used=true∧∃a r,ch=a++j::r∧chn fs k j=some (j::r):=by
 intro k
 induction k with
 | zero=>
  intro i ch h j hj;by_cases hi:i=-1
  ·subst hi;rw[chn_neg]at h;injection h with h;subst h;cases hj
  ·rw[chn_none0 hi]at h;cases h
 | succ k ih=>
  intro i ch h j hj;by_cases hi:i=-1
  ·subst hi;rw[chn_neg]at h;injection h with h;subst h;cases hj
  ·obtain⟨j0,k1,f,r,rfl,hk1,e,hu,h2,rfl⟩:=chn_cons h hi;have hk:k1=k:=by omega
   subst hk;rcases List.mem_cons.1 hj with rfl | hj
   ·exact⟨f,e,hu,[],r,rfl,h⟩
   ·obtain⟨g,e1,hu1,a,r1,e2,h3⟩:=ih h2 j hj;exact⟨g,e1,hu1,j0::a,r1,by rw[e2];rfl,chn_more (Nat.le_succ _) h3⟩
theorem chn_nodup{fs:List Fr}{k:Nat}{i:Int}{ch:List Nat}(h:chn fs k i=some ch):ch.Nodup:=by
 induction k generalizing i ch with
 | zero=>
  by_cases hi:i=-1
  ·subst hi;rw[chn_neg]at h;injection h with h;subst h;exact List.nodup_nil
  ·rw[chn_none0 hi]at h;cases h
 | succ k ih=>
  by_cases hi:i=-1
  ·subst hi;rw[chn_neg]at h;injection h with h;subst h;exact List.nodup_nil
  ·obtain⟨j0,k1,f,r,rfl,hk1,e,hu,h2,rfl⟩:=chn_cons h hi;have hk:k1=k:=by omega
   subst hk;refine List.nodup_cons.2 ⟨fun hm=> ?_,ih h2⟩;obtain⟨g,e1,hu1,a,r1,e2,h3⟩:=chn_mem h2 j0 hm;have:=chn_same h h3;injection this with _ this;rw[this]at e2;have hl:=congrArg List.length e2;simp at hl;omega
theorem len_sub{α:Type}[DecidableEq α]:∀{a b:List α},a.Nodup→(∀x∈a,x∈b)→a.length≤b.length:=by
 intro a
 induction a with
 | nil=>intro b _ _;simp
 | cons x a ih=>
  intro b hn hs;have hx:=hs x (by simp)
  have h:=ih (b:=b.erase x) (List.nodup_cons.1 hn).2 (fun y hy=>by
   have hne:y≠x:=by rintro rfl;exact(List.nodup_cons.1 hn).1 hy
   exact(List.mem_erase_of_ne hne).2 (hs y (by simp[hy])))
  rw[List.length_erase_of_mem hx]at h;have:=List.length_pos_of_mem hx;simp;omega
theorem sub_of_len{α:Type}[DecidableEq α]{a b:List α}(hn:a.Nodup)(hs:∀x∈a,x∈b)(hl:b.length≤a.length):∀x∈b,x∈a:=by
 intro x hx;apply Decidable.byContradiction;intro hxa
 have h:=len_sub (b:=b.erase x) hn (fun y hy=>by
  have hne:y≠x:=by rintro rfl;exact hxa hy
  exact(List.mem_erase_of_ne hne).2 (hs y hy))
 rw[List.length_erase_of_mem hx]at h;have:=List.length_pos_of_mem hx;omega
def usedAt(fs:List Fr)(i:Nat):Bool:=match fs[i]? with | some f=>f.used | none=>false
theorem nus_eq(fs:List Fr):∀i,i≤fs.length→nus fs i=((List.range i).filter (usedAt fs)).length:=by
 intro i
 induction i with
 | zero=>intro _;simp[nus]
 | succ i ih=>
  intro hi;have ih:=ih (by omega);unfold nus at ih⊢;rw[List.take_add_one,List.getElem?_eq_getElem (by omega),List.range_succ,List.filter_append,List.length_append,←ih,List.countP_append]
  congr 1
  simp[usedAt,List.getElem?_eq_getElem (show i<fs.length by omega),List.filter_cons];split<;>simp_all
def uni(t:Tab):Nat→List Nat
 | 0=>[]
 | b+1=>uni t b++(bch t b).getD []
theorem uni_len(t:Tab):∀b,(uni t b).length=bsum t b:=by
 intro b
 induction b with
 | zero=>rfl
 | succ b ih=>
  unfold uni bsum bln;rw[List.length_append,ih];cases bch t b<;>simp
theorem boks_at{t:Tab}:∀{b b':Nat},boks t b=true→b'<b→bok t b'=true:=by
 intro b
 induction b with
 | zero=>intro b' _ h;omega
 | succ b ih=>
  intro b' h hlt;unfold boks at h;rw[Bool.and_eq_true]at h;rcases Nat.lt_or_ge b' b with h1 | h1
  ·exact ih h.1 h1
  ·obtain rfl:b'=b:=by omega
   exact h.2
theorem bok_parts{t:Tab}{b:Nat}(h:bok t b=true):∃ch,bch t b=some ch∧∀i∈ch,hok t b i=true:=by
 unfold bok at h
 cases e:bch t b with
 | none=>rw[e]at h;cases h
 | some ch=>rw[e]at h;exact⟨ch,rfl,List.all_eq_true.1 h⟩
theorem hok_parts{t:Tab}{b i:Nat}(h:hok t b i=true):∃f,t.fs[i]?=some f∧hsh f.s f.p t.bs.length=b:=by
 unfold hok at h
 cases e:t.fs[i]? with
 | none=>rw[e]at h;cases h
 | some f=>rw[e]at h;exact⟨f,rfl,of_decide_eq_true h⟩
theorem bch_mem{t:Tab}{b:Nat}{ch:List Nat}(h:bch t b=some ch):∀j∈ch,∃f,t.fs[j]?=some f∧f.used=true:=by
 unfold bch at h
 cases e:t.bs[b]? with
 | none=>rw[e]at h;cases h
 | some i=>
  rw[e]at h;intro j hj;obtain⟨f,e1,hu,_⟩:=chn_mem h j hj;exact⟨f,e1,hu⟩
theorem bch_nodup{t:Tab}{b:Nat}{ch:List Nat}(h:bch t b=some ch):ch.Nodup:=by
 unfold bch at h
 cases e:t.bs[b]? with
 | none=>rw[e]at h;cases h
 | some i=>rw[e]at h;exact chn_nodup h
theorem uni_mem{t:Tab}:∀{b:Nat} {j:Nat},j∈uni t b→∃b' ch,b'<b∧bch t b'=some ch∧j∈ch:=by
 intro b
 induction b with
 | zero=>intro j h;cases h
 | succ b ih=>
  intro j h;unfold uni at h;rcases List.mem_append.1 h with h | h
  ·obtain⟨b',ch,h1,h2,h3⟩:=ih h;exact⟨b',ch,by omega,h2,h3⟩
  ·cases e:bch t b with
   | none=>rw[e]at h;cases h
   | some ch=>rw[e]at h;exact⟨b,ch,by omega,e,h⟩
theorem uni_nodup{t:Tab}:∀{b:Nat},boks t b=true→(uni t b).Nodup:=by
 intro b
 induction b with
 | zero=>intro _;exact List.nodup_nil
 | succ b ih=>
  intro h;have h1:=boks_at (b':=b) h (by omega);unfold boks at h;rw[Bool.and_eq_true]at h;obtain⟨ch,e,hc⟩:=bok_parts h1;unfold uni;rw[e,Option.getD_some,List.nodup_append];refine⟨ih h.1,bch_nodup e,fun x hx y hy hxy=> ?_⟩;subst hxy;obtain⟨b',ch',hb',e',hx'⟩:=uni_mem hx;obtain⟨ch2,e2,hc2⟩:=bok_parts (boks_at h.1 hb');rw[e']at e2;injection e2 with e2;subst e2;obtain⟨f,e3,h3⟩:=hok_parts (hc x hy);obtain⟨f',e4,h4⟩:=hok_parts (hc2 x hx');rw[e3]at e4;injection e4 with e4;subst e4;omega
theorem tv_parts{t:Tab}(h:tv t=true):(1≤t.fs.length∧t.fs.length≤16∧1≤t.bs.length∧t.bs.length≤16)∧frs t.fs t.fs.length=true∧boks t t.bs.length=true∧bsum t t.bs.length=nus t.fs t.fs.length:=by
 unfold tv tsz at h;simp only[Bool.and_eq_true,decide_eq_true_eq]at h;obtain⟨⟨⟨⟨⟨⟨h1,h2⟩,h3⟩,h4⟩,h5⟩,h6⟩,h7⟩:=h;exact⟨⟨h1,h2,h3,h4⟩,h5,h6,h7⟩
theorem tv_in{t:Tab}(h:tv t=true){i:Nat}{f:Fr}(e:t.fs[i]?=some f)(hu:f.used=true):
  ∃(b:Nat) (ch:List Nat),b<t.bs.length∧bch t b=some ch∧i∈ch∧hsh f.s f.p t.bs.length=b:=by
 obtain⟨_,_,h3,h4⟩:=tv_parts h;obtain⟨hi,_⟩:=List.getElem?_eq_some_iff.1 e
 have hsub:=sub_of_len (a:=uni t t.bs.length) (b:=(List.range t.fs.length).filter (usedAt t.fs)) (uni_nodup h3) (fun x hx=>by
  obtain⟨b',ch,_,e1,h1⟩:=uni_mem hx;obtain⟨g,e2,hu2⟩:=bch_mem e1 x h1;obtain⟨hx,_⟩:=List.getElem?_eq_some_iff.1 e2;rw[List.mem_filter,List.mem_range]
  exact⟨hx,by unfold usedAt;rw[e2];exact hu2⟩) (by rw[uni_len,h4,nus_eq _ _ (Nat.le_refl _)];exact Nat.le_refl _)
 have hm:=hsub i (by rw[List.mem_filter,List.mem_range];exact⟨hi,by unfold usedAt;rw[e];exact hu⟩);obtain⟨b,ch,hb,e1,h1⟩:=uni_mem hm;obtain⟨ch2,e2,hc⟩:=bok_parts (boks_at h3 hb);rw[e1]at e2;injection e2 with e2;subst e2;obtain⟨g,e3,h5⟩:=hok_parts (hc i h1);rw[e]at e3;injection e3 with e3;subst e3;exact⟨b,ch,hb,e1,h1,h5⟩
def fnd(fs:List Fr)(s p:Int):Option Nat:=fs.findIdx? (fun f=>f.used && decide ((f.s,f.p)=(s,p)))
def fndI(fs:List Fr)(s p:Int):Int:=match fnd fs s p with | some i=>i | none=>-1
theorem frs_at{fs:List Fr}:∀{n i:Nat},frs fs n=true→i<n→(∃f,fs[i]?=some f∧frok f=true)∧dupf fs i=true:=by
 intro n
 induction n with
 | zero=>intro i _ h;omega
 | succ n ih=>
  intro i h hi;unfold frs at h;rw[Bool.and_eq_true,Bool.and_eq_true]at h;rcases Nat.lt_or_ge i n with h1 | h1
  ·exact ih h.1.1 h1
  ·obtain rfl:i=n:=by omega
   refine⟨?_,h.2⟩;have h2:=h.1.2
   cases e:fs[i]? with
   | none=>rw[e]at h2;cases h2
   | some f=>rw[e]at h2;exact⟨f,rfl,h2⟩
theorem dup_ne{fs:List Fr}{i j:Nat}{f g:Fr}(h:dupf fs j=true)(hij:i<j)(ei:fs[i]?=some f)(ej:fs[j]?=some g)(hf:f.used=true)(hg:g.used=true):¬(f.s,f.p)=(g.s,g.p):=by
 unfold dupf at h;rw[ej]at h;simp only[hg,Bool.not_true,Bool.false_or]at h
 have hm:f∈fs.take j:=by
  obtain⟨hi,rfl⟩:=List.getElem?_eq_some_iff.1 ei;exact List.mem_of_getElem? (i:=i) (by rw[List.getElem?_take,if_pos hij,ei])
 have:=List.all_eq_true.1 h f hm;rw[Bool.or_eq_true,decide_eq_true_eq]at this;rcases this with h' | h'
 ·rw[hf]at h';cases h'
 ·exact h'
theorem key_once{fs:List Fr}(h:frs fs fs.length=true){i j:Nat}{f g:Fr}(ei:fs[i]?=some f)(ej:fs[j]?=some g)(hf:f.used=true)(hg:g.used=true)(hk:(f.s,f.p)=(g.s,g.p)):i=j:=by
 obtain⟨hi,_⟩:=List.getElem?_eq_some_iff.1 ei;obtain⟨hj,_⟩:=List.getElem?_eq_some_iff.1 ej;rcases Nat.lt_trichotomy i j with h1 | h1 | h1
 ·exact absurd hk (dup_ne (frs_at h hj).2 h1 ei ej hf hg)
 ·exact h1
 ·exact absurd hk.symm (dup_ne (frs_at h hi).2 h1 ej ei hg hf)
theorem fnd_some{fs:List Fr}{s p:Int}{i:Nat}(h:fnd fs s p=some i):∃f,fs[i]?=some f∧f.used=true∧(f.s,f.p)=(s,p):=by
 unfold fnd at h;rw[List.findIdx?_eq_some_iff_getElem]at h;obtain⟨hi,h1,_⟩:=h;rw[Bool.and_eq_true,decide_eq_true_eq]at h1;exact⟨fs[i],List.getElem?_eq_getElem hi,h1.1,h1.2⟩
theorem fnd_none{fs:List Fr}{s p:Int}(h:fnd fs s p=none){i:Nat}{f:Fr}(e:fs[i]?=some f)(hu:f.used=true):¬(f.s,f.p)=(s,p):=by
 unfold fnd at h;rw[List.findIdx?_eq_none_iff]at h;have:=h f (List.mem_of_getElem? e);simpa[hu]using this
theorem fnd_of{fs:List Fr}(h:frs fs fs.length=true){s p:Int}{i:Nat}{f:Fr}(e:fs[i]?=some f)(hu:f.used=true)(hk:(f.s,f.p)=(s,p)):fnd fs s p=some i:=by
 cases hf:fnd fs s p with
 | none=>exact absurd hk (fnd_none hf e hu)
 | some j=>
  obtain⟨g,e2,hu2,hk2⟩:=fnd_some hf;rw[key_once h e2 e hu2 hu (hk2.trans hk.symm)]
theorem bch_some{t:Tab}{b:Nat}{ch:List Nat}(h:bch t b=some ch):∃i,t.bs[b]?=some i∧chn t.fs t.fs.length i=some ch:=by
 unfold bch at h
 cases e:t.bs[b]? with
 | none=>rw[e]at h;cases h
 | some i=>rw[e]at h;exact⟨i,rfl,h⟩
theorem bch_of{t:Tab}{b:Nat}{i:Int}(e:t.bs[b]?=some i):bch t b=chn t.fs t.fs.length i:=by
 unfold bch;rw[e]
theorem set_ne{α:Type}{l:List α}{i j:Nat}{a:α}(h:i≠j):(l.set i a)[j]?=l[j]?:=by rw[List.getElem?_set,if_neg h]
theorem set_eq{α:Type}{l:List α}{i:Nat}{a:α}(h:i<l.length):(l.set i a)[i]?=some a:=by rw[List.getElem?_set,if_pos rfl,if_pos h]
theorem frs_mono{fs:List Fr}{k:Nat}(h:frs fs k=false):∀{m:Nat},k≤m→frs fs m=false:=by
  intro m
  induction m with
  | zero => intro hk;have:k=0:=by omega
            subst this;exact h
  | succ m ih=>
    intro hk;rcases Nat.lt_or_ge k (m+1)with h1 | h1
    · unfold frs;rw[ih (by omega)];rfl
    · obtain rfl:k=m+1:=by omega
      exact h
theorem tv_frs{t:Tab}{k:Nat}(h:frs t.fs (k+1)=false)(hk:k<t.fs.length):tv t=false:=by
 unfold tv;rw[frs_mono h (show k+1≤t.fs.length by omega)];simp
theorem tv_fr{t:Tab}{k:Nat}{f:Fr}(e:t.fs[k]?=some f)(h:frok f=false):tv t=false:=by
 obtain⟨hk,_⟩:=List.getElem?_eq_some_iff.1 e;refine tv_frs (k:=k) ?_ hk;unfold frs;rw[e];simp[h]
theorem tv_dup{t:Tab}{k r:Nat}{f g:Fr}(hr:r<k)(er:t.fs[r]?=some f)(ek:t.fs[k]?=some g)(hf:f.used=true)(hg:g.used=true)(hkk:(f.s,f.p)=(g.s,g.p)):tv t=false:=by
 cases h:tv t with
 | false=>rfl
 | true=>
  obtain⟨_,h2,_,_⟩:=tv_parts h;have:=key_once h2 er ek hf hg hkk;omega
theorem tv_bok{t:Tab}{b:Nat}(h:bok t b=false)(hb:b<t.bs.length):tv t=false:=by
 cases e:tv t with
 | false=>rfl
 | true=>
  obtain⟨_,_,h3,_⟩:=tv_parts e;rw[boks_at h3 hb]at h;cases h
theorem tv_sz{t:Tab}(h:tsz t=false):tv t=false:=by unfold tv;rw[h];rfl
theorem tv_end{t:Tab}(h1:tsz t=true)(h2:frs t.fs t.fs.length=true)(h3:boks t t.bs.length=true):tv t=decide (bsum t t.bs.length=nus t.fs t.fs.length):=by unfold tv;rw[h1,h2,h3];rfl
theorem frs_step{fs:List Fr}{k:Nat}{f:Fr}(h:frs fs k=true)(e:fs[k]?=some f)(hf:frok f=true)(hd:f.used=true→∀(r:Nat) (g:Fr),r<k→fs[r]?=some g→g.used=true→¬(g.s,g.p)=(f.s,f.p)):frs fs (k+1)=true:=by
 unfold frs;rw[h,e];simp only[hf,Bool.true_and];unfold dupf;rw[e];simp only
 cases hu:f.used with
 | false=>rfl
 | true=>
  rw[Bool.not_true,Bool.false_or,List.all_eq_true];intro g hg;obtain⟨j,hj,he⟩:=List.getElem_of_mem hg;rw[List.length_take]at hj;have ej:fs[j]?=some g:=by rw[List.getElem_take]at he;rw[List.getElem?_eq_getElem (by omega),he]
  cases hgu:g.used with
  | false=>rfl
  | true=>
   rw[Bool.not_true,Bool.false_or,decide_eq_true_eq];exact hd hu j g (by omega) ej hgu
theorem nus_step{fs:List Fr}{k:Nat}{f:Fr}(e:fs[k]?=some f):nus fs (k+1)=nus fs k+if f.used=true then 1 else 0:=by
 unfold nus;rw[List.take_add_one,e,Option.toList_some,List.countP_append,List.countP_singleton]
theorem nus_le(fs:List Fr)(k:Nat):nus fs k≤k:=by
 unfold nus;have h:=List.countP_le_length (p:=fun x:Fr=>x.used) (l:=fs.take k);rw[List.length_take]at h;omega
theorem bok_false{t:Tab}{b j:Nat}{ch:List Nat}{f:Fr}(e:bch t b=some ch)(hj:j∈ch)(ef:t.fs[j]?=some f)(hh:hsh f.s f.p t.bs.length≠b):bok t b=false:=by
 cases h:bok t b with
 | false=>rfl
 | true=>
  obtain⟨ch',e',hc⟩:=bok_parts h;rw[e]at e';injection e' with e';subst e';obtain⟨g,eg,h1⟩:=hok_parts (hc j hj);rw[ef]at eg;injection eg with eg;subst eg;exact absurd h1 hh
theorem bok_none{t:Tab}{b:Nat}(e:bch t b=none):bok t b=false:=by unfold bok;rw[e]
theorem boks_step{t:Tab}{b:Nat}{ch:List Nat}(h:boks t b=true)(e:bch t b=some ch)(hc:∀(k j:Nat),ch[k]?=some j→∃f:Fr,t.fs[j]?=some f∧hsh f.s f.p t.bs.length=b):boks t (b+1)=true:=by
 unfold boks bok;rw[h,e];simp only[Bool.true_and];rw[List.all_eq_true];intro j hj;obtain⟨k,hk,he⟩:=List.getElem_of_mem hj;obtain⟨f,ef,hh⟩:=hc k j (by rw[List.getElem?_eq_getElem hk,he]);unfold hok;rw[ef];simp[hh]
theorem bsum_step{t:Tab}{b:Nat}{ch:List Nat}(e:bch t b=some ch):bsum t (b+1)=bsum t b+ch.length:=by
 unfold bsum bln;rw[e];cases b<;>rfl
def keyI(s p:Int):Int:=if 128≤p then 0 else s
def mapOK(t:Tab)(s p fr r:Int):Bool:=
 tv t && kval (s,p) && !decide (0≤fndI t.fs s p) && inR fr t.fs.length && (match t.fs[fr.toNat]? with | some f=>!f.used | none=>false) && inR r 8
def bkt(t:Tab)(s p:Int):Nat:=(hsh s p t.bs.length).toNat
def mapT(t:Tab)(s p fr r:Int):Tab:=⟨t.bs.set (bkt t s p) fr,t.fs.set fr.toNat ⟨true,s,p,r,t.bs.getD (bkt t s p) 0⟩⟩
def mapV(t:Tab)(s p fr r:Int):Tab:=if mapOK t s p fr r=true then mapT t s p fr r else tabz
def fOK(t:Tab)(s p:Int):Bool:=tv t && kval (s,p) && decide (0≤fndI t.fs s p)
def relink(i n:Int)(f:Fr):Fr:=if f.used=true∧f.n=i then {f with n:=n}else f
def unmT(t:Tab)(s p:Int):Tab:=
 let i:=fndI t.fs s p
 let n:=(t.fs.getD i.toNat frz).n
 let b:=bkt t s p
 if t.bs.getD b 0=i then⟨t.bs.set b n,t.fs.set i.toNat frz⟩else⟨t.bs,(t.fs.map (relink i n)).set i.toNat frz⟩
def unmV(t:Tab)(s p:Int):Tab:=if fOK t s p=true then unmT t s p else tabz
def tagv(n:Int):Bool:=decide (-1≤n) && decide (n<8)
def lnok(x:Ln):Bool:=if x.v=true then tagv x.t && inR x.p 256 && inR x.f 16 && inR x.r 8 else decide (x=lnz)
def clash(x y:Ln):Bool:=x.v && y.v && decide (x.p=y.p) && (decide (x.t=y.t) || decide (x.t=-1) || decide (y.t=-1))
def lok(ls:List Ln):Nat→Bool
 | 0=>true
 | i+1=>lok ls i && (match ls[i]? with | some x=>lnok x && (ls.take i).all (fun y=>!clash x y) | none=>false)
def cav(c:Ca):Bool:=decide (1≤c.ls.length) && decide (c.ls.length≤8) && inR c.hand c.ls.length && lok c.ls c.ls.length && c.ls.any (fun x=>!x.w)
def fits(tag page:Int)(x:Ln):Bool:=x.v && decide (x.p=page) && (decide (x.t=tag) || decide (x.t=-1))
def plc(ls:List Ln)(tag page:Int):Option Nat:=ls.findIdx? (fits tag page)
def plcI(ls:List Ln)(tag page:Int):Int:=match plc ls tag page with | some i=>i | none=>-1
def vicFrom(ls:List Ln):Nat→Nat→Nat
 | 0,at_=>at_
 | k+1,at_=>match ls[at_]? with
  | some x=>if x.w=true then vicFrom ls k ((at_+1) % ls.length)else at_
  | none=>at_
def vic(c:Ca):Nat:=match c.ls.findIdx? (fun x=>!x.v)with
 | some i=>i
 | none=>vicFrom c.ls c.ls.length c.hand.toNat
def filC(c:Ca)(x:Ln):Ca:=⟨c.ls.set (vic c) x,match c.ls[vic c]? with | some y=>if y.v=true then((vic c:Int)+1) % c.ls.length else c.hand | none=>c.hand⟩
def filOK(c:Ca)(x:Ln):Bool:=cav c && x.v && lnok x && !decide (0≤plcI c.ls x.t x.p) && cav (filC c x)
def filV(c:Ca)(x:Ln):Ca:=if filOK c x=true then filC c x else caz
def wirC(c:Ca)(i:Int)(w:Bool):Ca:=⟨c.ls.set i.toNat {c.ls.getD i.toNat lnz with w:=w},c.hand⟩
def wirOK(c:Ca)(i:Int)(w:Bool):Bool:=cav c && inR i c.ls.length && (c.ls.getD i.toNat lnz).v && cav (wirC c i w)
def wirV(c:Ca)(i:Int)(w:Bool):Ca:=if wirOK c i w=true then wirC c i w else caz
def tok(os:List (Int×Int))(next:Int):Nat→Bool
 | 0=>true
 | i+1=>tok os next i && (match os[i]? with
  | some o=>inR o.1 16 && decide (0≤o.2) && decide (o.2<next) && (match i with | 0=>true | j+1=>(match os[j]? with | some q=>decide (q.2<o.2) | none=>false)) && (os.take i).all (fun q=>decide (¬q.1=o.1))
  | none=>false)
def tgv(g:Tg):Bool:=decide (1≤g.count) && decide (g.count≤8) && decide (0≤g.next) && decide (g.next≤g.count) && decide (0≤g.round) && decide (g.round≤1000000) && tok g.os g.next g.os.length
def own(os:List (Int×Int))(s:Int):Option Nat:=os.findIdx? (fun o=>decide (o.1=s))
def ownI(os:List (Int×Int))(s:Int):Int:=match own os s with | some i=>i | none=>-1
def spc(os:List (Int×Int))(tag:Int):Option Nat:=os.findIdx? (fun o=>decide (o.2=tag))
def takG (g:Tg) (s:Int):Tg×Int×Bool×Bool:=
 if (tgv g && inR s 16)=true then
  match own g.os s with
  | some i=>(g,(g.os.getD i (0,0)).2,false,true)
  | none=>
   if g.next=g.count then
    if g.round=1000000 then(tgz,0,false,false)
    else(⟨g.count,1,g.round+1,[(s,0)]⟩,0,true,true)
   else(⟨g.count,g.next+1,g.round,g.os++[(s,g.next)]⟩,g.next,false,true)
 else(tgz,0,false,false)
def lnM (m:Ma) (x:Ln):Bool:=
  if x.v=true then
    decide ((128≤x.p)↔x.t=-1) && (!x.w || decide (128≤x.p)) &&
    (let sp:Option Int:=if 128≤x.p then some 0 else match spc m.g.os x.t with | some i=>some (m.g.os.getD i (0,0)).1 | none=>none
     match sp with
     | some s=>(match fnd m.t.fs (keyI s x.p) x.p with | some i=>decide ((i:Int)=x.f) && decide ((m.t.fs.getD i frz).r=x.r) | none=>false)
     | none=>false)
  else true
def frM(f:Fr):Bool:=!(f.used && decide (128≤f.p) && !decide (f.s=0))
def mav(m:Ma):Bool:=tv m.t && cav m.c && tgv m.g && decide (0≤ownI m.g.os m.sp) && m.t.fs.all frM && m.c.ls.all (lnM m)
theorem kval_iff{s p:Int}:kval (s,p)=true↔(0≤s∧s<16)∧(0≤p∧p<256):=by
 unfold kval;rw[Bool.and_eq_true,inR_iff,inR_iff]
theorem hsh_in{s p nb:Int}(h:kval (s,p)=true)(h1:1≤nb):0≤hsh s p nb∧hsh s p nb<nb:=by
 obtain⟨⟨h2,h3⟩,h4,h5⟩:=kval_iff.1 h;unfold hsh;have hm0:0≤(s*256+p)*2654435761 % 4294967296:=Int.emod_nonneg _ (by omega);have hm1:(s*256+p)*2654435761 % 4294967296<4294967296:=Int.emod_lt_of_pos _ (by omega);generalize (s*256+p)*2654435761 % 4294967296=m at*;have h0:0≤m*nb:=Int.mul_nonneg hm0 (by omega);refine⟨Int.ediv_nonneg h0 (by omega),Int.ediv_lt_of_lt_mul (by omega) ?_⟩;rw[Int.mul_comm nb];exact Int.mul_lt_mul_of_pos_right hm1 (by omega)
theorem bkt_in{t:Tab}{s p:Int}(h:kval (s,p)=true)(h1:1≤t.bs.length):bkt t s p<t.bs.length∧hsh s p t.bs.length=(bkt t s p:Int):=by
 have:=hsh_in (nb:=t.bs.length) h (by omega);unfold bkt;omega
theorem bucketsValid_any(n:Int)(w:World):Calls Tryz.prog 74 #[.int .i64 n] w fun r w'=>r=.returned (.bool (decide (1≤n) && decide (n≤16)))∧w=w':=by
 by_cases h0:1≤n
 ·have H:Hi ((decide (1≤n) && decide (n≤16))=decide (n≤16)):=by simp[Hi,h0]
  go_enter Tryz.func74,Tryz.ntmps74
  go_wp2;go_ret;exact⟨by rw[H.o];rfl,rfl⟩
 ·have H:Hi ((decide (1≤n) && decide (n≤16))=false):=by simp[Hi,h0]
  go_enter Tryz.func74,Tryz.ntmps74
  go_wp2;go_ret;exact⟨by rw[H.o];rfl,rfl⟩
theorem l2Buckets_any(n:Int)(w:World):Calls Tryz.prog 195 #[.int .i64 n] w fun r w'=>r=.returned (.bool (decide (1≤n) && decide (n≤16)))∧w=w':=by
 by_cases h0:1≤n
 ·have H:Hi ((decide (1≤n) && decide (n≤16))=decide (n≤16)):=by simp[Hi,h0]
  go_enter Tryz.func195,Tryz.ntmps195
  go_wp2;go_ret;exact⟨by rw[H.o];rfl,rfl⟩
 ·have H:Hi ((decide (1≤n) && decide (n≤16))=false):=by simp[Hi,h0]
  go_enter Tryz.func195,Tryz.ntmps195
  go_wp2;go_ret;exact⟨by rw[H.o];rfl,rfl⟩
theorem RightsValid_any(n:Int)(w:World):Calls Tryz.prog 38 #[.int .i64 n] w fun r w'=>r=.returned (.bool (inR n 8))∧w=w':=by
 go_enter Tryz.func38,Tryz.ntmps38
 go_wp2_with (go_at_call 37;refine(within_any _ _ _).mono ?_;rintro e w' ⟨rfl,rfl⟩)
 go_ret;exact⟨rfl,rfl⟩
theorem inR8(n:Int):inR n 8=(decide (0≤n) && decide (n≤7)):=by
 unfold inR;by_cases h:n≤7
 ·rw[decide_eq_true h,decide_eq_true (show n<8 by omega)]
 ·rw[decide_eq_false h,decide_eq_false (show¬n<8 by omega)]
theorem sRightsValid_any(n:Int)(w:World):Calls Tryz.prog 49 #[.int .i64 n] w fun r w'=>r=.returned (.bool (inR n 8))∧w=w':=by
 by_cases h0:0≤n
 ·have H:Hi (inR n 8=decide (n≤7)):=by show _=_;rw[inR8];simp[h0]
  go_enter Tryz.func49,Tryz.ntmps49
  go_wp2;go_ret;exact⟨by rw[H.o];rfl,rfl⟩
 ·have H:Hi (inR n 8=false):=by show _=_;rw[inR8];simp[h0]
  go_enter Tryz.func49,Tryz.ntmps49
  go_wp2;go_ret;exact⟨by rw[H.o];rfl,rfl⟩
theorem sKeyValid_any(a b:Int)(w:World):Calls Tryz.prog 212 #[.agg #[.int .i64 a,.int .i64 b]] w fun r w'=>r=.returned (.bool (kval (a,b)))∧Below w.heap.size w w':=by
 by_cases h0:inR a 16=true
 ·have H:Hi (kval (a,b)=inR b 256):=by simp[Hi,kval,h0]
  go_enter Tryz.func212,Tryz.ntmps212
  go_wp2_with (first | (go_at_call 198;refine(l1Space_any _ _).mono ?_;rintro e w' ⟨rfl,rfl⟩) | (go_at_call 48;refine(l1Page_any _ _).mono ?_;rintro e w' ⟨rfl,rfl⟩))
  go_ret;exact⟨by rw[H.o];rfl,bA bR⟩
 ·have h0:inR a 16=false:=by simpa using h0
  have H:Hi (kval (a,b)=false):=by simp[Hi,kval,h0]
  go_enter Tryz.func212,Tryz.ntmps212
  go_wp2_with (first | (go_at_call 198;refine(l1Space_any _ _).mono ?_;rintro e w' ⟨rfl,rfl⟩) | (go_at_call 48;refine(l1Page_any _ _).mono ?_;rintro e w' ⟨rfl,rfl⟩))
  go_ret;exact⟨by rw[H.o];rfl,bA bR⟩
theorem l2Hash_any(s p nb:Int)(w:World)(hk:kval (s,p)=true)(hn:1≤nb∧nb≤16):
  Calls Tryz.prog 94 #[.agg #[.int .i64 s,.int .i64 p],.int .i64 nb] w fun r w'=>r=.returned (.int .i64 (hsh s p nb))∧Below w.heap.size w w':=by
 obtain⟨⟨h2,h3⟩,h4,h5⟩:=kval_iff.1 hk;have hm0:0≤(s*256+p)*2654435761 % 4294967296:=Int.emod_nonneg _ (by omega);have hm1:(s*256+p)*2654435761 % 4294967296<4294967296:=Int.emod_lt_of_pos _ (by omega);have H:Hi (hsh s p nb=(s*256+p)*2654435761 % 4294967296*nb / 4294967296):=rfl;have h0:0≤(s*256+p)*2654435761 % 4294967296*nb:=Int.mul_nonneg hm0 (by omega);have hb:(s*256+p)*2654435761 % 4294967296*nb≤4294967296*16:=Int.mul_le_mul (by omega) hn.2 (by omega) (by omega);have hd0:0≤(s*256+p)*2654435761 % 4294967296*nb / 4294967296:=Int.ediv_nonneg h0 (by omega);have hd1:(s*256+p)*2654435761 % 4294967296*nb / 4294967296≤16:=by omega
 have k1:IntKind.i64.wrap (s*256)=s*256:=IntWalk.i64_in _ (by omega);have k2:IntKind.i64.wrap (s*256+p)=s*256+p:=IntWalk.i64_in _ (by omega);have k3:IntKind.i64.wrap ((s*256+p)*2654435761)=(s*256+p)*2654435761:=IntWalk.i64_in _ (by omega);have k4:IntKind.i64.wrap ((s*256+p)*2654435761 % 4294967296*nb)=(s*256+p)*2654435761 % 4294967296*nb:=IntWalk.i64_in _ (by omega);have k5:IntKind.i64.wrap ((s*256+p)*2654435761 % 4294967296*nb / 4294967296)=(s*256+p)*2654435761 % 4294967296*nb / 4294967296:=IntWalk.i64_in _ (by omega)
 go_enter Tryz.func94,Tryz.ntmps94
 go_wp2;go_ret;exact⟨by rw[H.o];rfl,bA bR⟩
theorem hash_any(s p nb:Int)(w:World)(hk:kval (s,p)=true)(hn:1≤nb∧nb≤16):
  Calls Tryz.prog 59 #[.agg #[.int .i64 s,.int .i64 p],.int .i64 nb] w fun r w'=>r=.returned (.int .i64 (hsh s p nb))∧Below w.heap.size w w':=by
 obtain⟨⟨h2,h3⟩,h4,h5⟩:=kval_iff.1 hk;have hm0:0≤(s*256+p)*2654435761 % 4294967296:=Int.emod_nonneg _ (by omega);have hm1:(s*256+p)*2654435761 % 4294967296<4294967296:=Int.emod_lt_of_pos _ (by omega);have H:Hi (hsh s p nb=(s*256+p)*2654435761 % 4294967296*nb / 4294967296):=rfl;have h0:0≤(s*256+p)*2654435761 % 4294967296*nb:=Int.mul_nonneg hm0 (by omega);have hb:(s*256+p)*2654435761 % 4294967296*nb≤4294967296*16:=Int.mul_le_mul (by omega) hn.2 (by omega) (by omega);have hd0:0≤(s*256+p)*2654435761 % 4294967296*nb / 4294967296:=Int.ediv_nonneg h0 (by omega);have hd1:(s*256+p)*2654435761 % 4294967296*nb / 4294967296≤16:=by omega
 have k1:IntKind.i64.wrap (s*256)=s*256:=IntWalk.i64_in _ (by omega);have k2:IntKind.i64.wrap (s*256+p)=s*256+p:=IntWalk.i64_in _ (by omega);have k3:IntKind.i64.wrap ((s*256+p)*2654435761)=(s*256+p)*2654435761:=IntWalk.i64_in _ (by omega);have k4:IntKind.i64.wrap ((s*256+p)*2654435761 % 4294967296*nb)=(s*256+p)*2654435761 % 4294967296*nb:=IntWalk.i64_in _ (by omega);have k5:IntKind.i64.wrap ((s*256+p)*2654435761 % 4294967296*nb / 4294967296)=(s*256+p)*2654435761 % 4294967296*nb / 4294967296:=IntWalk.i64_in _ (by omega);have u1:IntKind.u64.wrap (s*256+p)=s*256+p:=by rw[IntKind.wrap_u64];omega
 have u2:IntKind.u64.wrap ((s*256+p)*2654435761)=(s*256+p)*2654435761:=by rw[IntKind.wrap_u64];omega
 have u3:IntKind.u64.wrap nb=nb:=by rw[IntKind.wrap_u64];omega
 have u4:IntKind.u64.wrap ((s*256+p)*2654435761 % 4294967296*nb)=(s*256+p)*2654435761 % 4294967296*nb:=by rw[IntKind.wrap_u64];omega
 go_enter Tryz.func59,Tryz.ntmps59
 go_wp2;go_ret;exact⟨by rw[H.o];rfl,bA bR⟩
theorem int_info2:(Tryz.prog.info? 3).map (fun i=>(i.zero,i.size,i.bytes))=some (some (.int .i64 0),1,8):=by kernel_rfl
theorem run_append_i(base:Nat)(W:World)(v:Value)(n:Nat)(l:List Int)(x:Int)(hown:W.ownsRow base 3 1 v n (intE.cells l))(hn:l.length=n)(hs:n≤1048576)(hb:base≤W.heap.size):
  ∃v' w',(Builtin.append_ #[23,23] 23 #[v,.slice (some ⟨W.heap.size,0,none⟩) 1 1]).run Tryz.prog (W.alloc (.cells #[.int .i64 x] 3))=.ok v' w'∧
   w'.ownsRow base 3 1 v' (n+1) (intE.cells (l++[x]))∧(W.alloc (.cells #[.int .i64 x] 3)).grownBy w' v.ownBlock∧(v'.ownBlock=v.ownBlock∨v'.ownBlock=some (W.heap.size+1)):=by
 obtain⟨i0,hi0,hz0,hz1,hz2⟩:=info_parts int_info2;exact run_append_el intE 23 3 i0 _ 8 Tryz.underlying23 hi0 hz0 hz1 hz2 rfl (by omega) base W v n l x hown hn hs hb
theorem Rd.i1{B:Nat}{w:World}{A:Option Addr}{l:List Int}(h:Rs intE B w A l){k:Nat}{x:Int}(hk:l[k]?=some x):
  ∃b o,A=some ⟨b,o,none⟩∧b<B∧w.cell? ⟨b,o+k,none⟩=some (.int .i64 x):=by
 obtain⟨b,o,e,hb,hc⟩:=h.el hk;have:=hc 0 _ rfl;exact⟨b,o,e,hb,by simpa[intE]using this⟩
theorem Rd.fr{B:Nat}{w:World}{A:Option Addr}{l:List Fr}(h:Rs frE B w A l){k:Nat}{f:Fr}(hk:l[k]?=some f):
  ∃b o,A=some ⟨b,o,none⟩∧b<B∧w.cell? ⟨b,o+k*5,none⟩=some (.bool f.used)∧w.cell? ⟨b,o+k*5+1,none⟩=some (.int .i64 f.s)∧w.cell? ⟨b,o+k*5+2,none⟩=some (.int .i64 f.p)
   ∧w.cell? ⟨b,o+k*5+3,none⟩=some (.int .i64 f.r)∧w.cell? ⟨b,o+k*5+4,none⟩=some (.int .i64 f.n):=by
 obtain⟨b,o,e,hb,hc⟩:=h.el hk;exact⟨b,o,e,hb,hc 0 _ rfl,hc 1 _ rfl,hc 2 _ rfl,hc 3 _ rfl,hc 4 _ rfl⟩
theorem fnd_chain{t:Tab}(h:tv t=true){s p:Int}(hk:kval (s,p)=true):
  ∃ch,bch t (bkt t s p)=some ch∧(∀i,fnd t.fs s p=some i→i∈ch)∧(∀j∈ch,∀f,t.fs[j]?=some f→(f.s,f.p)=(s,p)→fnd t.fs s p=some j):=by
 obtain⟨⟨_,_,h1,_⟩,h5,h3,_⟩:=tv_parts h;obtain⟨hb,he⟩:=bkt_in hk h1;obtain⟨ch,e,hc⟩:=bok_parts (boks_at h3 hb);refine⟨ch,e,fun i hi=> ?_,fun j hj f ef hf=> ?_⟩
 ·obtain⟨f,ef,hu,hkk⟩:=fnd_some hi;obtain⟨b,ch',_,e',hm,hh⟩:=tv_in h ef hu;injection hkk with g1 g2;rw[g1,g2,he]at hh;have:b=bkt t s p:=by omega
  subst this;rw[e]at e';injection e' with e';rw[e'];exact hm
 ·obtain⟨g,eg,hu⟩:=bch_mem e j hj;rw[ef]at eg;injection eg with eg;subst eg;exact fnd_of h5 ef hu hf
theorem four_of{α β:Type}{f:α→β}{l:List α}{x y z u:β}(h:l.map f=[x,y,z,u]):∃a b c d,l=[a,b,c,d]∧f a=x∧f b=y∧f c=z∧f d=u:=by
 match l,h with
 | [a,b,c,d],h=>simp at h;exact⟨a,b,c,d,rfl,h.1,h.2.1,h.2.2.1,h.2.2.2⟩
abbrev frV(f:Fr):Value:=.agg #[.bool f.used,.int .i64 f.s,.int .i64 f.p,.int .i64 f.r,.int .i64 f.n]
theorem eqIn_key(e:Nat)(a b c d:Int)(w:World):(Op.equalIn (e+2) 54 (.agg #[.int .i64 a,.int .i64 b]) (.agg #[.int .i64 c,.int .i64 d])).run Tryz.prog w=.ok (keq a b c d) w:=by
 have hu:Tryz.prog.underlying 54=some (.struct (Tryz.prog.fieldsOf 54)):=by kernel_rfl
 have hp:Tryz.prog.stoodInHeld 54=false:=by kernel_rfl
 have hf:(Tryz.prog.fieldsOf 54).toList.map (fun f=>(f.name,f.type,f.offset))=[("Space",3,0),("Page",3,1)]:=by kernel_rfl
 rw[run_equalIn_struct w (e+1) _ _ _ hu hp];obtain⟨f,g,hl,h1,h2⟩:=two_of hf;rw[hl];simp only[Prod.mk.injEq]at h1 h2;obtain⟨n1,t1,o1⟩:=h1;obtain⟨n2,t2,o2⟩:=h2;simp[Op.eqFields,n1,t1,o1,n2,t2,o2,part,run_equalIn_int,Tryz.underlying3,go_sem,keq];by_cases e1:a=c<;>by_cases e2:b=d<;>simp[e1,e2]
theorem eqIn_fr(e:Nat)(f g:Fr)(w:World):(Op.equalIn (e+3) 80 (frV f) (frV g)).run Tryz.prog w=.ok (decide (f=g)) w:=by
 have hu:Tryz.prog.underlying 80=some (.struct (Tryz.prog.fieldsOf 80)):=by kernel_rfl
 have hp:Tryz.prog.stoodInHeld 80=false:=by kernel_rfl
 have hf:(Tryz.prog.fieldsOf 80).toList.map (fun f=>(f.name,f.type,f.offset))=[("Used",4,0),("Key",54,1),("Rights",3,3),("Next",3,4)]:=by kernel_rfl
 have hk:Tryz.prog.underlying 54=some (.struct (Tryz.prog.fieldsOf 54)):=by kernel_rfl
 have hc:Tryz.prog.cellsOf 54=2:=by kernel_rfl
 show(Op.equalIn (e+2+1) 80 (.agg _) (.agg _)).run Tryz.prog w=_;rw[run_equalIn_struct w (e+2) _ _ _ hu hp];obtain⟨f1,f2,f3,f4,hl,h1,h2,h3,h4⟩:=four_of hf;rw[hl];simp only[Prod.mk.injEq]at h1 h2 h3 h4;obtain⟨n1,t1,o1⟩:=h1;obtain⟨n2,t2,o2⟩:=h2;obtain⟨n3,t3,o3⟩:=h3;obtain⟨n4,t4,o4⟩:=h4;obtain⟨fu,fs,fp,frr,fn⟩:=f;obtain⟨gu,gs,gp,grr,gn⟩:=g;simp[Op.eqFields,n1,t1,o1,n2,t2,o2,n3,t3,o3,n4,t4,o4,part,run_equalIn_int,run_equalIn_bool,eqIn_key,Tryz.underlying3,Tryz.underlying4,go_sem];unfold keq;by_cases e1:fu=gu<;>by_cases e2:fs=gs<;>by_cases e3:fp=gp<;>by_cases e4:frr=grr<;>by_cases e5:fn=gn<;>simp[e1,e2,e3,e4,e5]
theorem eql_of{t:TypeId}{a b:Array Value}{r:Bool}(h:∀(e:Nat) (w:World),(Op.equalIn (e+3) t (.agg a) (.agg b)).run Tryz.prog w=.ok r w)(w:World):(binOp .eql t (.agg a) (.agg b)).run Tryz.prog w=.ok (.bool r) w:=by
 simp only[binOp];simp[Op.equal,Op.maxDepth,h 9997]
theorem neq_of{t:TypeId}{a b:Array Value}{r:Bool}(h:∀(e:Nat) (w:World),(Op.equalIn (e+3) t (.agg a) (.agg b)).run Tryz.prog w=.ok r w)(w:World):(binOp .neq t (.agg a) (.agg b)).run Tryz.prog w=.ok (.bool !r) w:=by
 simp only[binOp];simp[Op.equal,Op.maxDepth,h 9997]
theorem eql_fr(f g:Fr)(w:World):(binOp .eql 80 (frV f) (frV g)).run Tryz.prog w=.ok (.bool (decide (f=g))) w:=eql_of (fun e w=>eqIn_fr e f g w) w
theorem neq_fr(f g:Fr)(w:World):(binOp .neq 80 (frV f) (frV g)).run Tryz.prog w=.ok (.bool !(decide (f=g))) w:=neq_of (fun e w=>eqIn_fr e f g w) w
theorem six_of{α β:Type}{f:α→β}{l:List α}{x y z u v s:β}(h:l.map f=[x,y,z,u,v,s]):∃a b c d e g,l=[a,b,c,d,e,g]∧f a=x∧f b=y∧f c=z∧f d=u∧f e=v∧f g=s:=by
 match l,h with
 | [a,b,c,d,e,g],h=>simp at h;exact⟨a,b,c,d,e,g,rfl,h.1,h.2.1,h.2.2.1,h.2.2.2.1,h.2.2.2.2.1,h.2.2.2.2.2⟩
abbrev lnV(x:Ln):Value:=.agg #[.bool x.v,.int .i64 x.t,.int .i64 x.p,.int .i64 x.f,.int .i64 x.r,.bool x.w]
theorem eqIn_ln(e:Nat)(x y:Ln)(w:World):(Op.equalIn (e+3) 50 (lnV x) (lnV y)).run Tryz.prog w=.ok (decide (x=y)) w:=by
 have hu:Tryz.prog.underlying 50=some (.struct (Tryz.prog.fieldsOf 50)):=by kernel_rfl
 have hp:Tryz.prog.stoodInHeld 50=false:=by kernel_rfl
 have hf:(Tryz.prog.fieldsOf 50).toList.map (fun f=>(f.name,f.type,f.offset))=[("Valid",4,0),("Tag",3,1),("Page",3,2),("Frame",3,3),("Rights",3,4),("Wired",4,5)]:=by kernel_rfl
 show(Op.equalIn (e+2+1) 50 (.agg _) (.agg _)).run Tryz.prog w=_;rw[run_equalIn_struct w (e+2) _ _ _ hu hp];obtain⟨f1,f2,f3,f4,f5,f6,hl,h1,h2,h3,h4,h5,h6⟩:=six_of hf;rw[hl];simp only[Prod.mk.injEq]at h1 h2 h3 h4 h5 h6;obtain⟨n1,t1,o1⟩:=h1;obtain⟨n2,t2,o2⟩:=h2;obtain⟨n3,t3,o3⟩:=h3;obtain⟨n4,t4,o4⟩:=h4;obtain⟨n5,t5,o5⟩:=h5;obtain⟨n6,t6,o6⟩:=h6;obtain⟨a1,a2,a3,a4,a5,a6⟩:=x;obtain⟨b1,b2,b3,b4,b5,b6⟩:=y;simp[Op.eqFields,n1,t1,o1,n2,t2,o2,n3,t3,o3,n4,t4,o4,n5,t5,o5,n6,t6,o6,part,run_equalIn_int,run_equalIn_bool,Tryz.underlying3,Tryz.underlying4,go_sem];by_cases e1:a1=b1<;>by_cases e2:a2=b2<;>by_cases e3:a3=b3<;>by_cases e4:a4=b4<;>by_cases e5:a5=b5<;>by_cases e6:a6=b6<;>simp[e1,e2,e3,e4,e5,e6]
theorem eql_ln(f g:Ln)(w:World):(binOp .eql 50 (lnV f) (lnV g)).run Tryz.prog w=.ok (.bool (decide (f=g))) w:=eql_of (fun e w=>eqIn_ln e f g w) w
theorem l3Frame_any(f:Fr)(w:World):Calls Tryz.prog 196 #[frV f] w fun r w'=>r=.returned (.bool (frok f))∧Below w.heap.size w w':=by
 obtain⟨u,s,p,r,n⟩:=f
 cases u with
 | false=>
  have he:∀W,(binOp .eql 80 (.agg #[.bool false,.int .i64 s,.int .i64 p,.int .i64 r,.int .i64 n]) (.agg #[.bool false,.int .i64 0,.int .i64 0,.int .i64 0,.int .i64 (-1)])).run Tryz.prog W=.ok (.bool (frok ⟨false,s,p,r,n⟩)) W:=fun W=>eql_fr ⟨false,s,p,r,n⟩ frz W
  simp only[frV];generalize frok ⟨false,s,p,r,n⟩=B at he⊢
  go_enter Tryz.func196,Tryz.ntmps196
  go_wp2;go_ret;exact⟨rfl,by repeat first | exact bR | refine bA ?_⟩
 | true=>
  have H:Hi (frok ⟨true,s,p,r,n⟩=(kval (s,p) && inR r 8)):=rfl;by_cases hk:kval (s,p)=true
  ·simp only[frV]
   go_enter Tryz.func196,Tryz.ntmps196
   go_wp2_with fail
   refine(sKeyValid_any _ _ _).mono ?_;rintro e w1 ⟨rfl,hb1⟩;obtain⟨ob,hbw⟩:=one_box hb1;have q3:=ob.cell_ 3 (v:=.int .i64 r) rfl;rw[hk]
   go_wp2_with (go_at_call 49;refine(sRightsValid_any _ _).mono ?_;rintro e w' ⟨rfl,rfl⟩)
   go_ret;exact⟨by rw[H.o,hk];rfl,hbw⟩
  ·have hk:=bool_ff hk;simp only[frV]
   go_enter Tryz.func196,Tryz.ntmps196
   go_wp2_with fail
   refine(sKeyValid_any _ _ _).mono ?_;rintro e w1 ⟨rfl,hb1⟩;obtain⟨ob,hbw⟩:=one_box hb1;rw[hk];go_wp2;go_ret;exact⟨by rw[H.o,hk];rfl,hbw⟩
end Go.Proofs.YtfbnokjdkhcgoaaGreatDoor
namespace Go.Proofs.YtfbnokjdkhcgoaaGreatDoor
open Go.RowKit Go.Maps Go.WideMaps
theorem laidOutK:laidOutB Tryz.prog=true:=by kernel_rfl
theorem klaw:Keyed Tryz.prog 54:=Keyed.of_law (deep_law_laid laidOutK (m:=2) (by omega) (of_decide_eq_true (by kernel_rfl)) (by kernel_rfl) (by rw[Tryz.underlying54]))
theorem kcellsOf:Program.cellsOf Tryz.prog 54=2:=by kernel_rfl
theorem icellsOf:Program.cellsOf Tryz.prog 3=1:=by kernel_rfl
theorem kkey:Program.keyType Tryz.prog 54=true:=by kernel_rfl
theorem ksize:0<Tryz.prog.types.size:=of_decide_eq_true (by kernel_rfl)
def klit(x y:Int):Lit:=.string (keyBytes [.int .i64 x,.int .i64 y])
theorem key_of{x y:Int}(hx:(Lit.int .i64 x).wf=true)(hy:(Lit.int .i64 y).wf=true):keyOf Tryz.prog 54 (.agg #[.int .i64 x,.int .i64 y])=some (klit x y):=by
 obtain⟨m,hm⟩:∃m,Tryz.prog.types.size=m+1:=⟨_,(Nat.succ_pred_eq_of_pos ksize).symm⟩
 have hf:(Value.agg #[.int .i64 x,.int .i64 y]).formed Tryz.prog 54=true:=by
  unfold Value.formed;rw[Tryz.underlying54];simp[kcellsOf]
 have hk:Tryz.prog.keyLits (Tryz.prog.types.size+1) 54 [.int .i64 x,.int .i64 y]=some [.int .i64 x,.int .i64 y]:=by
  rw[hm];unfold Program.keyLits;rw[Tryz.underlying54];simp[kcellsOf]
  have h3:∀z:Int,(Lit.int .i64 z).wf=true→Tryz.prog.keyLits (m+1) 3 [.int .i64 z]=some [.int .i64 z]:=by
   intro z hz;unfold Program.keyLits;rw[Tryz.underlying3];simp[hz]
  rw[icellsOf];show((Tryz.prog.keyLits (m+1) 3 [.int .i64 x]).bind (Option.map List.flatten∘fun a=>((Tryz.prog.keyLits (m+1) 3 [.int .i64 y]).bind fun b=>some [b]).bind fun c=>some (a::c)))=_;rw[h3 x hx,h3 y hy];rfl
 unfold keyOf;rw[Tryz.underlying54];show(if(Tryz.prog.keyType 54 && (Value.agg #[.int .i64 x,.int .i64 y]).formed Tryz.prog 54)=true then _ else _)=_;rw[kkey,hf];show(Tryz.prog.keyLits (Tryz.prog.types.size+1) 54 [.int .i64 x,.int .i64 y]).map _=_;rw[hk];rfl
theorem klit_inj{x y x' y':Int}(hx:(Lit.int .i64 x).wf=true)(hy:(Lit.int .i64 y).wf=true)(hx':(Lit.int .i64 x').wf=true)(hy':(Lit.int .i64 y').wf=true)(h:klit x y=klit x' y'):(x,y)=(x',y'):=by
 have h1:=key_of hx hy;rw[h]at h1;have:=klaw.inj h1 (key_of hx' hy');injection this with e;injection e with e;injection e with e1 e2;injection e2 with e2 _;injection e1 with _ e1;injection e2 with _ e2;rw[e1,e2]
theorem kval_wf{x y:Int}(h:kval (x,y)=true):(Lit.int .i64 x).wf=true∧(Lit.int .i64 y).wf=true:=by
 unfold kval inR at h;simp at h;exact⟨WalkArith.wf_i64 (by omega),WalkArith.wf_i64 (by omega)⟩
theorem plainElem_bool_inv{v:Value}{z:DataW Unit×List MemPlace}(h:plainElem Tryz.prog 4 v=some z):∃a,v=.bool a∧z=(.lit (.bool a),[]):=by
 unfold plainElem at h;rw[Tryz.underlying4]at h;cases v<;>simp at h
 obtain rfl:=h;exact⟨_,rfl,rfl⟩
theorem bool_info:(Tryz.prog.info? 4).map (fun i=>i.zero)=some (some (.bool false)):=by kernel_rfl
theorem zero_bool(w:World):(zeroValue 4).run Tryz.prog w=.ok (.bool false) w:=by
 obtain⟨i,hi,hz⟩:=Option.map_eq_some_iff.1 bool_info;simp[zeroValue,typeInfo,hi,hz]
structure SetD{α:Type}[DecidableEq α](kof:α→Lit)(ok:α→Prop)(S:List α)(D:DataW Unit):Prop where
 tidy:Tidy D
 siz:size D=S.length
 has_:∀a,ok a→has D (kof a)=decide (a∈S)
 at_:∀a,ok a→D.atKey (kof a) (.lit (.bool false))=.lit (.bool (decide (a∈S)))
section
variable {α : Type} [DecidableEq α] {kof : α → Lit} {ok : α → Prop}
theorem SetD.nil_:SetD kof ok [] (.map []):=⟨tidy_empty,rfl,fun _ _=>rfl,fun _ _=>rfl⟩
theorem SetD.add{S:List α}{D:DataW Unit}{a:α}(h:SetD kof ok S D)(ha:ok a)(hkl:WideAt.IsKeyLit (kof a))(hinj:∀a b,ok a→ok b→kof a=kof b→a=b)(hn:a∉S):SetD kof ok (S++[a]) (D.put (kof a) (.lit (.bool true))):=by
 refine⟨h.tidy.put hkl _, ?_,fun b hb=> ?_,fun b hb=> ?_⟩
 ·rw[size_put h.tidy,h.has_ a ha,h.siz];simp[hn]
 ·by_cases hk:kof b=kof a
  ·have:=hinj b a hb ha hk;subst this;rw[has_put_same h.tidy.isMap hkl];simp
  ·rw[has_put_other hk,h.has_ b hb];have:b≠a:=fun e=>hk (by rw[e])
   simp[this]
 ·by_cases hk:kof b=kof a
  ·have:=hinj b a hb ha hk;subst this;rw[atKey_put_same h.tidy.isMap hkl];simp
  ·rw[atKey_put_other hk,h.at_ b hb];have:b≠a:=fun e=>hk (by rw[e])
   simp[this]
end
def kok(a:Key):Prop:=(Lit.int .i64 a.1).wf=true∧(Lit.int .i64 a.2).wf=true
abbrev SetK(S:List Key)(D:DataW Unit):Prop:=SetD (fun a:Key=>klit a.1 a.2) kok S D
theorem setk_add{S:List Key}{D:DataW Unit}{x y:Int}(h:SetK S D)(ha:kok (x,y))(hn:(x,y)∉S):SetK (S++[(x,y)]) (D.put (klit x y) (.lit (.bool true))):=
 SetD.add (kof:=fun a:Key=>klit a.1 a.2) (a:=(x,y)) h ha (klaw.key (key_of ha.1 ha.2)) (fun _ _ h1 h2 e=>klit_inj h1.1 h1.2 h2.1 h2.2 e) hn
theorem setk_look{S:List Key}{D:DataW Unit}{w:World}{b n:Nat}{x y:Int}(ho:w.ownsMap Tryz.prog 54 (plainElem Tryz.prog 4) b n D)(h:SetK S D)(ha:kok (x,y)):
  (Instr.lookup 120 (.map (some b)) (.agg #[.int .i64 x,.int .i64 y]) false).run Tryz.prog w=.ok (.bool (decide ((x,y)∈S))) w:=by
 obtain⟨v,ps,hrun,hv⟩:=ho.lookup klaw Tryz.underlying120 (zero_bool w) (plainElem_bool Tryz.underlying4 false) (key_of ha.1 ha.2);obtain⟨c,rfl,hc⟩:=plainElem_bool_inv hv;injection hc with hc;rw[h.at_ (x,y) ha]at hc;injection hc with hc;injection hc with hc;have e:c=decide ((x,y)∈S):=by rw[←hc];exact decide_eq_decide.2 Iff.rfl
 rw[e]at hrun;exact hrun
def iok(a:Int):Prop:=(Lit.int .i64 a).wf=true
abbrev SetI(S:List Int)(D:DataW Unit):Prop:=SetD (fun a:Int=>Lit.int .i64 a) iok S D
theorem ilaw:Keyed Tryz.prog 3:=int_keyed Tryz.underlying3
theorem ikey_of{a:Int}(h:iok a):keyOf Tryz.prog 3 (.int .i64 a)=some (.int .i64 a):=by
 unfold iok at h;unfold keyOf;rw[Tryz.underlying3];simp[mapKey,Tryz.underlying3,h]
theorem seti_add{S:List Int}{D:DataW Unit}{x:Int}(h:SetI S D)(ha:iok x)(hn:x∉S):SetI (S++[x]) (D.put (.int .i64 x) (.lit (.bool true))):=
 SetD.add (kof:=fun a:Int=>Lit.int .i64 a) (a:=x) h ha (ilaw.key (ikey_of ha)) (fun _ _ _ _ e=>by injection e) hn
theorem seti_look{S:List Int}{D:DataW Unit}{w:World}{b n:Nat}{x:Int}(ho:w.ownsMap Tryz.prog 3 (plainElem Tryz.prog 4) b n D)(h:SetI S D)(ha:iok x):
  (Instr.lookup 121 (.map (some b)) (.int .i64 x) false).run Tryz.prog w=.ok (.bool (decide (x∈S))) w:=by
 obtain⟨v,ps,hrun,hv⟩:=ho.lookup ilaw Tryz.underlying121 (zero_bool w) (plainElem_bool Tryz.underlying4 false) (ikey_of ha);obtain⟨c,rfl,hc⟩:=plainElem_bool_inv hv;injection hc with hc;rw[h.at_ x ha]at hc;injection hc with hc;injection hc with hc;have e:c=decide (x∈S):=by rw[←hc]
 rw[e]at hrun;exact hrun
end Go.Proofs.YtfbnokjdkhcgoaaGreatDoor
