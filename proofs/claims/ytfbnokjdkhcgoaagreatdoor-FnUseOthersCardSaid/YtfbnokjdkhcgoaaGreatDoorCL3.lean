/- A part of the proofs of this seat. -/
import Derived.Deep.LoopGhost
import Derived.Test.YtfbnokjdkhcgoaaGreatDoorCTab
set_option linter.unusedVariables false
set_option linter.unusedSimpArgs false
set_option maxRecDepth 1000000
set_option maxHeartbeats 16000000
namespace Go.Proofs.YtfbnokjdkhcgoaaGreatDoor
open Go.RowKit
def lenV:Value→Nat
 | .slice _ n _=>n
 | _=>0
theorem own_other{w w':World}{g:Nat}{t:TypeId}{cs:Array Value}{r:Option Nat}(h:Own w g t cs)(hg:w.grownBy w' r)(hne:some g≠r):Own w' g t cs:=(hg.block g h.lt hne).trans h
def ints(l:List Nat):List Int:=l.map (fun i=>Int.ofNat i)
theorem ints_append(a b:List Nat):ints (a++b)=ints a++ints b:=List.map_append
theorem ints_length(a:List Nat):(ints a).length=a.length:=List.length_map _
theorem ints_get{a:List Nat}{k j:Nat}(h:a[k]?=some j):(ints a)[k]?=some (j:Int):=by unfold ints;rw[List.getElem?_map,h];rfl
def ChSt(t:Tab)(b:Nat)(pre:List Nat)(i:Int):Prop:=bch t b=(chn t.fs (t.fs.length-pre.length) i).map (pre++·)
theorem chst_end{t:Tab}{b:Nat}{pre:List Nat}(h:ChSt t b pre (-1)):bch t b=some pre:=by
 unfold ChSt at h;rw[h,chn_neg];simp
theorem chst_out{t:Tab}{b:Nat}{pre:List Nat}{i:Int}(h:ChSt t b pre i)(h1:i≠-1)(h2:¬(0≤i∧i<t.fs.length)):bch t b=none:=by
 unfold ChSt at h;rw[h,chn_out _ h1 h2];rfl
theorem chst_full{t:Tab}{b:Nat}{pre:List Nat}{i:Int}(h:ChSt t b pre i)(h1:i≠-1)(h2:t.fs.length≤pre.length):bch t b=none:=by
 unfold ChSt at h;rw[h,show t.fs.length-pre.length=0 by omega,chn_none0 h1];rfl
theorem chst_free{t:Tab}{b:Nat}{pre:List Nat}{i:Nat}{f:Fr}(h:ChSt t b pre i)(e:t.fs[i]?=some f)(hu:f.used=false):bch t b=none:=by
 unfold ChSt at h;rw[h,chn_free _ e hu];rfl
theorem chst_step{t:Tab}{b:Nat}{pre:List Nat}{i:Nat}{f:Fr}(h:ChSt t b pre i)(e:t.fs[i]?=some f)(hu:f.used=true)(h2:pre.length<t.fs.length):ChSt t b (pre++[i]) f.n:=by
 unfold ChSt at h⊢;rw[h]
 obtain⟨m,hm⟩:∃m,t.fs.length-pre.length=m+1:=⟨t.fs.length-pre.length-1,by omega⟩
 rw[hm,chn_step m e hu,List.length_append,List.length_singleton,show t.fs.length-(pre.length+1)=m by omega];cases chn t.fs m f.n<;>simp
theorem chst_zero{t:Tab}{b:Nat}{i:Int}(e:t.bs[b]?=some i):ChSt t b [] i:=by
 unfold ChSt;rw[bch_of e];cases chn t.fs t.fs.length i<;>simp
theorem chst_in{t:Tab}{b:Nat}{pre ch:List Nat}{k:Nat}(h:ChSt t b pre k)(e:bch t b=some ch):∃r,ch=pre++k::r:=by
 unfold ChSt at h;rw[e]at h
 cases e2:chn t.fs (t.fs.length-pre.length) k with
 | none=>rw[e2]at h;cases h
 | some r0=>
  rw[e2]at h;injection h with h;obtain⟨j,_,_,r,h1,_,_,_,_,h2⟩:=chn_cons e2 (by omega);have:j=k:=by omega
  subst this;exact⟨r,by rw[h,h2]⟩
theorem chst_twice{t:Tab}{b:Nat}{pre:List Nat}{k:Nat}(h:ChSt t b pre k)(hk:k∈pre):bch t b=none:=by
 cases e:bch t b with
 | none=>rfl
 | some ch=>
  obtain⟨r,hr⟩:=chst_in h e;have hn:=bch_nodup e;rw[hr,List.nodup_append]at hn;exact absurd rfl (hn.2.2 k hk k (by simp))
theorem chst_other{t:Tab}{b:Nat}{pre:List Nat}{k:Nat}(h:ChSt t b pre k)(hb:boks t b=true)(hk:k∈uni t b):bok t b=false:=by
 cases e:bch t b with
 | none=>exact bok_none e
 | some ch=>
  obtain⟨r,hr⟩:=chst_in h e;obtain⟨b',ch',hb',e',hm⟩:=uni_mem hk;obtain⟨ch2,e2,hc2⟩:=bok_parts (boks_at hb hb');rw[e']at e2;injection e2 with e2;subst e2;obtain⟨f,ef,hh⟩:=hok_parts (hc2 k hm);exact bok_false e (by rw[hr];simp) ef (by omega)
theorem chst_hash{t:Tab}{b:Nat}{pre:List Nat}{k:Nat}{f:Fr}(h:ChSt t b pre k)(ef:t.fs[k]?=some f)(hh:hsh f.s f.p t.bs.length≠b):bok t b=false:=by
 cases e:bch t b with
 | none=>exact bok_none e
 | some ch=>
  obtain⟨r,hr⟩:=chst_in h e;exact bok_false e (by rw[hr];simp) ef hh
set_option maxRecDepth 100000 in
theorem l3Chain_any(vb vf:Value)(t:Tab)(b:Nat)(w:World)(hT:TaR w vb vf t)(hb:b<t.bs.length)(hl:t.fs.length≤100000):
  Calls Tryz.prog 93 #[.agg #[vb,vf],.int .i64 b] w fun r w'=>∃v,r=.returned (.tuple #[v,.bool (bch t b).isSome])∧(∀ch,bch t b=some ch→SlR intE w' v (ints ch))∧Below w.heap.size w w':=by
 obtain⟨Ab,cb,rfl,hbc,hbm,hB⟩:=hT.b;obtain⟨Af,cf,rfl,hfc,hfm,hF⟩:=hT.f
 obtain⟨i0,ei0⟩:∃i0,t.bs[b]?=some i0:=⟨_,List.getElem?_eq_getElem hb⟩
 have H0:=Hd (chst_zero ei0);obtain⟨b1,o1,rfl,hb1,c1⟩:=hB.i1 ei0;have HF:=Hd hF;clear hF hB hT ei0;have hbx:Own ((w.alloc (.cells #[.slice (some ⟨b1,o1,none⟩) t.bs.length cb,.slice Af t.fs.length cf] 26)).alloc (.cells #[] 3)) w.heap.size 26 #[.slice (some ⟨b1,o1,none⟩) t.bs.length cb,.slice Af t.fs.length cf]:=(Own.new_ _ _ _).alloc
 have hO:((w.alloc (.cells #[.slice (some ⟨b1,o1,none⟩) t.bs.length cb,.slice Af t.fs.length cf] 26)).alloc (.cells #[] 3)).ownsRow (w.heap.size+1) 3 1 (.slice (some ⟨w.heap.size+1,0,none⟩) 0 0) 0 (intE.cells (ints [])):=by
  have h:=World.ownsRow_made (base:=w.heap.size+1) (e:=3) (size:=1) (w.alloc (.cells #[.slice (some ⟨b1,o1,none⟩) t.bs.length cb,.slice Af t.fs.length cf] 26)) #[] 0 (by simp) (by simp[maxLen]) rfl;simpa[Enc.cells,ints]using h
 have HBX:=Hd hbx;have HO:=Hd hO;have hb0:Below w.heap.size w ((w.alloc (.cells #[.slice (some ⟨b1,o1,none⟩) t.bs.length cb,.slice Af t.fs.length cf] 26)).alloc (.cells #[] 3)):=bA (bA bR);clear hbx hO
 go_enter Tryz.func93,Tryz.ntmps93
 go_wp2;clear c1;go_loopw [6,7] (fun v u wr=>∃(pre:List Nat) (i:Int),u=.int .i64 i∧pre.length≤t.fs.length∧Hi (ChSt t b pre i)∧wr.ownsRow (w.heap.size+1) 3 1 v pre.length (intE.cells (ints pre))∧Own wr w.heap.size 26 #[.slice (some ⟨b1,o1,none⟩) t.bs.length cb,.slice Af t.fs.length cf]∧Below w.heap.size w wr) (fun v _ _=>t.fs.length-lenV v)
 case atStart=>exact⟨[],i0,rfl,by simp,H0,HO.o,HBX.o,hb0⟩
 case round=>
  obtain⟨pre,i,rfl,hpl,hst,hown,hbox,hb'⟩:=hrel;obtain⟨Ao,co,rfl,hoc,hom,hro⟩:=rs_own (E:=intE) (l:=ints pre) (ints_length pre).symm hown;rw[ints_length]at*;have q0:=hbox.cell_ 0 (v:=.slice (some ⟨b1,o1,none⟩) t.bs.length cb) rfl;have q1:=hbox.cell_ 1 (v:=.slice Af t.fs.length cf) rfl;have hbl:=hbox.lt;have HBOX:=Hd hbox;have HOWN:=Hd hown;clear hbox hown;by_cases h1:i=-1
  ·subst h1;have HE:=Hd (chst_end hst.o)
   have HR:Hi (SlR intE wr (.slice Ao pre.length co) (ints pre)):=⟨Ao,co,by rw[ints_length],by rw[ints_length];exact hoc,hom,hro⟩
   go_wp2;go_ret2;rw[HE.o];exact⟨_,rfl,(fun ch h=>by injection h with h;subst h;exact HR.o),hb'⟩
  ·have g1:(i == -1)=false:=by rw[beq_eq_false_iff_ne];exact h1
   by_cases h2:0≤i∧i<t.fs.length
   ·obtain⟨h3,h4⟩:=h2;obtain⟨k,rfl⟩:=Int.eq_ofNat_of_zero_le h3;have g2:¬(k:Int)<0:=by omega
    have g3:¬(t.fs.length:Int)≤(k:Int):=by omega
    by_cases h5:pre.length<t.fs.length
    ·have g4:¬(t.fs.length:Int)≤(pre.length:Int):=by omega
     obtain⟨f,ef⟩:∃f,t.fs[k]?=some f:=⟨_,List.getElem?_eq_getElem (by omega)⟩
     obtain⟨b2,o2,rfl,hb2,d0,d1,d2,d3,d4⟩:=(HF.o.below hb').fr ef;by_cases hu:f.used=true
     ·rw[hu]at d0;have HST:=Hd (chst_step hst.o ef hu h5);obtain⟨v4,w4,hrun,hown4,hg4,_⟩:=run_append_i (w.heap.size+1) wr _ pre.length (ints pre) (k:Int) HOWN.o (ints_length pre) (by omega) (by omega);have hb4:=bG (bA hb' (o:=.cells #[.int .i64 (k:Int)] 3)) hg4 (fun x hx=>by have:=own_block HOWN.o x hx;omega);have hne:∀k,k≤w.heap.size→some k≠Value.ownBlock (.slice Ao pre.length co):=fun k hk e=>by have:=own_block HOWN.o k e.symm;omega
      have hd4:w4.cell? ⟨b2,o2+k*5+4,none⟩=some (.int .i64 f.n):=hg4.cell (a:=⟨b2,o2+k*5+4,none⟩) (((bA (bR (w:=wr))).cell (p:=⟨b2,o2+k*5+4,none⟩) (by have:=hb'.size;show b2<_;omega)).trans d4) (hne b2 (by have:=hb'.size;omega));have hbox4:=own_other (HBOX.o.alloc (o:=.cells #[.int .i64 (k:Int)] 3)) hg4 (hne _ (Nat.le_refl _));rw[show ints pre++[(k:Int)]=ints (pre++[k])by rw[ints_append];rfl]at hown4;obtain⟨A4,c4,rfl,_,_,_⟩:=own_rd hown4;have y1:=hbox4.cell_ 1 (v:=.slice (some ⟨b2,o2,none⟩) t.fs.length cf) rfl;have HB4:=Hd hbox4;have HO4:=Hd hown4;clear hown4 hbox4 hg4 hne
      go_wp2_with (at_builtin;refine wpList_append_run _ rfl (.tmp 43) (.tmp 45) 23 rfl _ _ _ _ rfl rfl hrun ?_)
      go_roundw;case rel=>exact⟨pre++[k],f.n,rfl,by simp;omega,HST,by simpa using HO4.o,HB4.o,hb4⟩
      case measure=>simp[lenV];omega
     ·have hu:=bool_ff hu;rw[hu]at d0;have HE:Hi (bch t b=none):=chst_free hst.o ef hu;go_wp2;go_ret2;rw[HE.o];exact⟨_,rfl,(fun _ h=>by cases h),hb'⟩
    ·have g4:(t.fs.length:Int)≤(pre.length:Int):=by omega
     have HE:Hi (bch t b=none):=chst_full hst.o h1 (by omega);go_wp2;go_ret2;rw[HE.o];exact⟨_,rfl,(fun _ h=>by cases h),hb'⟩
   ·by_cases h3:i<0
    ·have HE:Hi (bch t b=none):=chst_out hst.o h1 h2;go_wp2;go_ret2;rw[HE.o];exact⟨_,rfl,(fun _ h=>by cases h),hb'⟩
    ·have g2:(t.fs.length:Int)≤i:=by omega
     have HE:Hi (bch t b=none):=chst_out hst.o h1 h2;go_wp2;go_ret2;rw[HE.o];exact⟨_,rfl,(fun _ h=>by cases h),hb'⟩
set_option maxRecDepth 100000 in
theorem sTableValid_any (vb vf:Value) (t:Tab) (w:World) (hT:TaR w vb vf t):
  Calls Tryz.prog 130 #[.agg #[vb,vf]] w fun r w'=>r=.returned (.bool (tv t))∧Below w.heap.size w w':=by
 have HT:=Hd hT;obtain⟨Ab,cb,rfl,hbc,hbm,hB⟩:=hT.b;obtain⟨Af,cf,rfl,hfc,hfm,hF⟩:=hT.f;have hbm2:t.bs.length≤9223372036854775807:=by unfold maxLen at hbm;omega
 have hfm2:t.fs.length≤9223372036854775807:=by unfold maxLen at hfm;omega
 have HF:=Hd hF;have hbx:=Own.new_ w 26 #[.slice Ab t.bs.length cb,.slice Af t.fs.length cf];have hbz:Below w.heap.size w (w.alloc (.cells #[.slice Ab t.bs.length cb,.slice Af t.fs.length cf] 26)):=bA bR;generalize hW:w.alloc (.cells #[.slice Ab t.bs.length cb,.slice Af t.fs.length cf] 26)=W0 at hbx hbz;have q0:=hbx.cell_ 0 (v:=.slice Ab t.bs.length cb) rfl;have q1:=hbx.cell_ 1 (v:=.slice Af t.fs.length cf) rfl;have HBX:=Hd hbx;clear hB hF hbx hT hbm hfm;by_cases h1:t.fs.length<1
 ·have g1:(t.fs.length:Int)<1:=by omega
  go_enter Tryz.func130,Tryz.ntmps130
  have HE:Hi (tv t=false):=tv_sz (by unfold tsz;simp;omega);go_wp2;go_ret;exact⟨by rw[HE.o];rfl,hbz⟩
 ·have g1 : ¬ (t.fs.length:Int)<1:=by omega
  by_cases h2:16<t.fs.length
  ·have g2:(16:Int)<(t.fs.length:Int):=by omega
   go_enter Tryz.func130,Tryz.ntmps130
   have HE:Hi (tv t=false):=tv_sz (by unfold tsz;simp;omega);go_wp2;go_ret;exact⟨by rw[HE.o];rfl,hbz⟩
  ·have g2 : ¬(16:Int)<(t.fs.length:Int):=by omega
   by_cases h3:1≤t.bs.length∧t.bs.length≤16
   case neg=>
    have g3:(decide ((1:Int)≤(t.bs.length:Int)) && decide ((t.bs.length:Int)≤16))=false:=by
     simp;omega
    go_enter Tryz.func130,Tryz.ntmps130
    go_wp2_with fail
    refine(l2Buckets_any _ _).mono ?_;rintro e w1 ⟨rfl,rfl⟩;rw[g3];have HE:Hi (tv t=false):=tv_sz (by unfold tsz;simp;omega);go_wp2;go_ret;exact⟨by rw[HE.o];rfl,hbz⟩
   case pos =>
    have g3:(decide ((1:Int)≤(t.bs.length:Int)) && decide ((t.bs.length:Int)≤16))=true:=by
     simp;omega
    have HSZ:Hi (tsz t=true):=by show _=_;unfold tsz;simp;omega
    go_enter Tryz.func130,Tryz.ntmps130
    go_wp2_with fail
    refine(l2Buckets_any _ _).mono ?_;rintro e w1 ⟨rfl,rfl⟩;rw[g3];go_wp2;clear q0 q1;go_loopw [3,4] (fun sv u wr=>∃k:Nat,k≤t.fs.length∧u=.int .i64 k∧sv=.int .i64 (nus t.fs k)∧Hi (frs t.fs k=true)∧Own wr w.heap.size 26 #[.slice Ab t.bs.length cb,.slice Af t.fs.length cf]∧Below w.heap.size w wr) (fun _ u _=>t.fs.length-(intOf u).toNat)
    case atStart=>exact⟨0,by omega,rfl,rfl,rfl,HBX.o,hbz⟩
    case round=>
     clear hbz;obtain⟨k,hk,rfl,rfl,hfr,hbox,hbz⟩:=hrel;have q0:=hbox.cell_ 0 (v:=.slice Ab t.bs.length cb) rfl;have q1:=hbox.cell_ 1 (v:=.slice Af t.fs.length cf) rfl;have HBOX:=Hd hbox;have hbl:=hbox.lt;clear hbox;by_cases hlt:k<t.fs.length
     ·obtain ⟨f,ef⟩:∃f,t.fs[k]?=some f:=⟨_,List.getElem?_eq_getElem hlt⟩
      obtain⟨b2,o2,rfl,hb2,d0,d1,d2,d3,d4⟩:=(HF.o.below hbz).fr ef;go_wp2_with fail
      refine(l3Frame_any f _).mono ?_;rintro e w3 ⟨rfl,hb3'⟩;have hbz3:=bT hbz hb3';have HBX3:=Hd (HBOX.o.below hb3');have hbl3:=HBX3.o.lt;clear d0 d1 d2 d3 d4 q0 q1 hbz hbl;have hbz:=hbz3;clear hbz3;have q0:=HBX3.c 0 (.slice Ab t.bs.length cb) rfl;have q1:=HBX3.c 1 (.slice (some ⟨b2,o2,none⟩) t.fs.length cf) rfl;obtain⟨b2',o2',e2,hb2',d0,d1,d2,d3,d4⟩:=(HF.o.below hbz).fr ef;injection e2 with e2;injection e2 with e2 e3;subst e2 e3;have HD0:=Hd d0;by_cases hok:frok f=true
      case neg=>
       have hok:=bool_ff hok;rw[hok];have HE:Hi (tv t=false):=tv_fr ef hok;go_wp2;go_ret;exact⟨by rw[HE.o];rfl,hbz⟩
      case pos=>
       rw[hok];have HN:=Hd (nus_step ef);have hnk:=nus_le t.fs k;generalize nus t.fs k=F at*;have HK:Hi ((f.used=true→∀(r:Nat) (g:Fr),r<k→t.fs[r]?=some g→g.used=true→¬(g.s,g.p)=(f.s,f.p))→frs t.fs (k+1)=true):=fun h=>frs_step (f:=f) hfr.o ef hok h
       have EF:=Hd ef
       cases hu:f.used with
       | false=>
        have HN2:Hi (nus t.fs (k+1)=F):=by have h:=HN.o;rw[hu]at h;exact h
        rw[hu]at d0;clear ef hok;go_wp2;clear q0 q1 d0 d1 d2 d3 d4;go_loopw [5] (fun u wi=>∃r:Nat,r≤k∧u=.int .i64 r∧Below w3.heap.size w3 wi) (fun u _=>k-(intOf u).toNat)
        case atStart=>exact⟨0,by omega,rfl,bR⟩
        case round=>
         obtain⟨r,hr,rfl,hbi⟩:=hrel;have hboxi:=HBX3.o.below hbi;have q0:=hboxi.cell_ 0 (v:=.slice Ab t.bs.length cb) rfl;have q1:=hboxi.cell_ 1 (v:=.slice (some ⟨b2,o2,none⟩) t.fs.length cf) rfl;have hbli:=hboxi.lt;clear hboxi;obtain⟨b3,o3,e3,hb3,d0,d1,d2,d3,d4⟩:=(HF.o.below (bT hbz hbi)).fr EF.o;injection e3 with e3;injection e3 with e3 e5;subst e3 e5;rw[hu]at d0;by_cases hlr:r<k
         ·go_wp2;go_quiet (fail)
          go_wp2;go_roundw;case rel=>exact⟨r+1,by omega,by go_num,bDN hbi⟩
          case measure=>simp[intOf];omega
         ·go_wp2;go_roundw;case rel=>exact⟨k+1,by omega,by go_num,by rw[HN2.o],HK.o (fun h=>by rw[hu]at h;cases h),HBX3.o.below hbi,bT hbz hbi⟩
          case measure=>simp[intOf];omega
       | true =>
        have HN2:Hi (nus t.fs (k+1)=F+1):=by have h:=HN.o;rw[hu]at h;exact h
        rw[hu]at d0;clear ef hok;go_wp2;clear q0 q1 d0 d1 d2 d3 d4;go_loopw [5] (fun u wi=>∃r:Nat,r≤k∧u=.int .i64 r∧Hi (∀(j:Nat) (g:Fr),j<r→t.fs[j]?=some g→g.used=true→¬(g.s,g.p)=(f.s,f.p))∧Below w3.heap.size w3 wi) (fun u _=>k-(intOf u).toNat)
        case atStart=>exact⟨0,by omega,rfl,(fun j g h=>absurd h (by omega)),bR⟩
        case round=>
         obtain⟨r,hr,rfl,hdup,hbi⟩:=hrel;have hboxi:=HBX3.o.below hbi;have q0:=hboxi.cell_ 0 (v:=.slice Ab t.bs.length cb) rfl;have q1:=hboxi.cell_ 1 (v:=.slice (some ⟨b2,o2,none⟩) t.fs.length cf) rfl;have hbli:=hboxi.lt;clear hboxi;obtain⟨b3,o3,e3,hb3,d0,d1,d2,d3,d4⟩:=(HF.o.below (bT hbz hbi)).fr EF.o;injection e3 with e3;injection e3 with e3 e5;subst e3 e5;rw[hu]at d0;by_cases hlr:r<k
         ·obtain⟨g,eg⟩:∃g,t.fs[r]?=some g:=⟨_,List.getElem?_eq_getElem (by omega)⟩
          obtain⟨b4,o4,e4,hb4,x0,x1,x2,x3,x4⟩:=(HF.o.below (bT hbz hbi)).fr eg;injection e4 with e4;injection e4 with e4 e5;subst e4 e5;have he:=fun W=>eql_key g.s g.p f.s f.p W
          have EG:=Hd eg;clear eg
          cases hug:g.used with
          | false=>
           rw[hug]at x0
           have HD2:Hi (∀(j:Nat) (g':Fr),j<r+1→t.fs[j]?=some g'→g'.used=true→¬(g'.s,g'.p)=(f.s,f.p)):=fun j g' hj e hgu=>by
            rcases Nat.lt_or_ge j r with h | h
            ·exact hdup.o j g' h e hgu
            ·obtain rfl:j=r:=by omega
             rw[EG.o]at e;injection e with e;rw[←e,hug]at hgu;cases hgu
           go_wp2;go_quiet (fail)
           go_wp2;go_roundw;case rel=>exact⟨r+1,by omega,by go_num,HD2,bDN hbi⟩
           case measure=>simp[intOf];omega
          | true=>
           rw[hug]at x0;by_cases hkk:(g.s,g.p)=(f.s,f.p)
           ·have hq:keq g.s g.p f.s f.p=true:=keq_true hkk;have HE:Hi (tv t=false):=tv_dup hlr EG.o EF.o hug hu hkk;clear hkk;go_wp2;go_quiet (fail)
            go_wp2;go_ret;exact⟨by rw[HE.o];rfl,bT hbz (bDN hbi)⟩
           ·have hq:keq g.s g.p f.s f.p=false:=keq_false hkk
            have HD2:Hi (∀(j:Nat) (g':Fr),j<r+1→t.fs[j]?=some g'→g'.used=true→¬(g'.s,g'.p)=(f.s,f.p)):=fun j g' hj e hgu=>by
             rcases Nat.lt_or_ge j r with h | h
             ·exact hdup.o j g' h e hgu
             ·obtain rfl:j=r:=by omega
              rw[EG.o]at e;injection e with e;rw[←e];exact hkk
            clear hkk;go_wp2;go_quiet (fail)
            go_wp2;go_roundw;case rel=>exact⟨r+1,by omega,by go_num,HD2,bDN hbi⟩
            case measure=>simp[intOf];omega
         ·obtain rfl:r=k:=by omega
          go_wp2;go_roundw;case rel=>exact⟨r+1,by omega,by go_num,by rw[HN2.o];rfl,HK.o (fun _=>hdup.o),HBX3.o.below hbi,bT hbz hbi⟩
          case measure=>simp[intOf];omega
     ·obtain rfl:k=t.fs.length:=by omega
      have hnn:=nus_le t.fs t.fs.length;have HFR:=Hd hfr.o;have HBOX1:=HBOX;have hbz1:=hbz;clear hlt hk;generalize hU:nus t.fs t.fs.length=U at*;go_wp2;clear q0 q1 hbl;go_loopw [3,6] (fun sv u wr=>∃b:Nat,b≤t.bs.length∧u=.int .i64 b∧sv=.int .i64 ((U:Int)-(bsum t b:Nat))∧bsum t b≤b*16∧Hi (boks t b=true)∧Own wr w.heap.size 26 #[.slice Ab t.bs.length cb,.slice Af t.fs.length cf]∧Below w.heap.size w wr) (fun _ u _=>t.bs.length-(intOf u).toNat)
      case atStart=>exact⟨0,by omega,rfl,by simp[bsum],by simp[bsum],rfl,HBOX1.o,hbz1⟩
      case round=>
       clear hbz hbz1;obtain⟨b,hb,rfl,rfl,hsum,hbo,hbox,hbz⟩:=hrel;have q0:=hbox.cell_ 0 (v:=.slice Ab t.bs.length cb) rfl;have q1:=hbox.cell_ 1 (v:=.slice Af t.fs.length cf) rfl;have HBOX:=Hd hbox;have hbl:=hbox.lt;clear hbox;by_cases hlt:b<t.bs.length
       ·go_wp2_with fail
        refine(l3Chain_any _ _ t b _ (HT.o.now hbz) hlt (by omega)).mono ?_;rintro e w3 ⟨v,rfl,hsl,hb3'⟩;have HBX3:=Hd (HBOX.o.below hb3');have hbz3:=bT hbz hb3';clear q0 q1 hbz hbl;have hbz:=hbz3;clear hbz3
        cases hch:bch t b with
        | none=>
         simp only[Option.isSome_none];have HE:Hi (tv t=false):=tv_bok (bok_none hch) hlt;go_wp2;go_ret;exact⟨by rw[HE.o];rfl,hbz⟩
        | some ch=>
         simp only[Option.isSome_some];obtain⟨Al,cl,rfl,hlc,hlm,hL⟩:=hsl ch hch;rw[ints_length]at*;have HL:=Hd hL;have HCH:=Hd hch
         have hcl:=(show ch.length≤t.fs.length from by
          obtain⟨x,_,ec⟩:=bch_some hch
          exact chn_len ec)
         have hsb:=bsum_step hch;clear hsl hL hch;go_wp2;go_loopw [9] (fun u wi=>∃r:Nat,r≤ch.length∧u=.int .i64 r∧Hi (∀(m j:Nat),m<r→ch[m]?=some j→∃f:Fr,t.fs[j]?=some f∧hsh f.s f.p t.bs.length=b)∧Below w3.heap.size w3 wi) (fun u _=>ch.length-(intOf u).toNat)
         case atStart=>exact⟨0,by omega,rfl,(fun m j h=>absurd h (by omega)),bR⟩
         case round=>
          obtain⟨r,hr,rfl,hacc,hbi⟩:=hrel;have hboxi:=HBX3.o.below hbi;have q0:=hboxi.cell_ 0 (v:=.slice Ab t.bs.length cb) rfl;have q1:=hboxi.cell_ 1 (v:=.slice Af t.fs.length cf) rfl;have hbli:=hboxi.lt;clear hboxi;by_cases hlr:r<ch.length
          ·obtain⟨j,ej⟩:∃j,ch[r]?=some j:=⟨_,List.getElem?_eq_getElem hlr⟩
           obtain⟨f,ef,huf⟩:=bch_mem HCH.o j (List.mem_of_getElem? ej);obtain⟨hjl,_⟩:=List.getElem?_eq_some_iff.1 ef;obtain⟨b5,o5,hAl,hb5,y0⟩:=(HL.o.now (Nat.le_refl _) hbi).i1 (ints_get ej);obtain⟨b4,o4,hAf,hb4,x0,x1,x2,x3,x4⟩:=(HF.o.below (bT hbz hbi)).fr ef
           have hkv:kval (f.s,f.p)=true:=by
            obtain⟨⟨g,eg,hg⟩,_⟩:=frs_at HFR.o hjl;rw[ef]at eg;injection eg with eg;subst eg;unfold frok at hg;rw[huf]at hg;simp only[if_true,Bool.and_eq_true]at hg;exact hg.1
           have HH:=fun W=>l2Hash_any f.s f.p t.bs.length W hkv (by omega)
           have HHH:=Hd HH
           have HACC:Hi (hsh f.s f.p t.bs.length=b→∀(m j:Nat),m<r+1→ch[m]?=some j→∃f:Fr,t.fs[j]?=some f∧hsh f.s f.p t.bs.length=b):=fun hh m j' hm e=>by
            rcases Nat.lt_or_ge m r with h | h
            ·exact hacc.o m j' h e
            ·obtain rfl:m=r:=by omega
             rw[ej]at e;injection e with e;rw[←e];exact⟨f,ef,hh⟩
           have HBAD:Hi (hsh f.s f.p t.bs.length≠b→tv t=false):=fun hh=>tv_bok (bok_false HCH.o (List.mem_of_getElem? ej) ef hh) hlt
           have hj2:(j:Int)<(t.fs.length:Int):=by omega
           subst hAl hAf;clear HH ef ej hkv huf;generalize hsh f.s f.p t.bs.length=hv at HHH HACC HBAD;have z0:=xcell (w:=wr) q0 (by simp;omega);have z1:=xcell (w:=wr) q1 (by simp;omega);have z2:=xcell (w:=wr) y0 (by simp;omega);have z3:=xcell (w:=wr) x1 (by have:=(bT hbz hbi).size;show b4<_;omega);have z4:=xcell (w:=wr) x2 (by have:=(bT hbz hbi).size;show b4<_;omega);by_cases hh:hv=b
           ·have HAC2:=Hd (HACC.o hh);subst hh;clear HACC;go_wp2;refine wp_region_ext (by kernel_rfl) (by kernel_rfl) ?_;repeat (go_big_quiet_step ((go_at_call 94;exact ext_call (HHH.o _))))
            refine wpQuiet_nil ?_;intro _ hw';obtain⟨⟨wq,hq⟩,hw''⟩:=hw';subst hw'';try dsimp only
            go_wp2;go_roundw;case rel=>exact⟨r+1,by omega,by go_num,HAC2.o,bT hbi hq⟩
            case measure=>simp[intOf];omega
           ·have g5:(hv == (b:Int))=false:=by rw[beq_eq_false_iff_ne];exact hh
            have HE:Hi (tv t=false):=HBAD.o hh;go_wp2;refine wp_region_ext (by kernel_rfl) (by kernel_rfl) ?_;repeat (go_big_quiet_step ((go_at_call 94;exact ext_call (HHH.o _))))
            refine wpQuiet_nil ?_;intro _ hw';obtain⟨⟨wq,hq⟩,hw''⟩:=hw';subst hw'';try dsimp only
            go_wp2;go_ret;exact⟨by rw[HE.o];rfl,bT hbz (bT hbi hq)⟩
          ·obtain rfl:r=ch.length:=by omega
           have hB2:Hi (boks t (b+1)=true):=boks_step hbo.o HCH.o (fun m j e=>hacc.o m j (List.getElem?_eq_some_iff.1 e).1 e);have hs2:bsum t (b+1)≤(b+1)*16:=by omega
           have HS2:=Hd hsb;clear hsb;go_wp2;go_roundw;case rel=>exact⟨b+1,by omega,by go_num,by rw[HS2.o];congr 1;omega,hs2,hB2,HBX3.o.below hbi,bT hbz hbi⟩
           case measure=>simp[intOf];omega
       ·obtain rfl:b=t.bs.length:=by omega
        have HE:Hi (tv t=decide (bsum t t.bs.length=nus t.fs t.fs.length)):=tv_end HSZ.o HFR.o hbo.o;rw[hU]at HE;generalize bsum t t.bs.length=S at*;by_cases hSU:S=U
        ·have HE2:Hi (tv t=true):=by show _=_;rw[HE.o,decide_eq_true hSU]
         have g5:((U:Int)-(S:Int) == 0)=true:=by rw[beq_iff_eq];omega
         go_wp2;go_ret;exact⟨by rw[HE2.o];rfl,hbz⟩
        ·have HE2:Hi (tv t=false):=by show _=_;rw[HE.o,decide_eq_false hSU]
         have g5:((U:Int)-(S:Int) == 0)=false:=by rw[beq_eq_false_iff_ne];omega
         go_wp2;go_ret;exact⟨by rw[HE2.o];rfl,hbz⟩
end Go.Proofs.YtfbnokjdkhcgoaaGreatDoor
namespace Go.Proofs.YtfbnokjdkhcgoaaGreatDoor
open Go.RowKit Go.Maps Go.WideMaps
structure Free(w:World):Prop where
 lt:0<w.heap.size
 c0:w.cell? ⟨0,0,none⟩=some (.bool false)
 c1:w.cell? ⟨0,1,none⟩=some (.int .i64 0)
 c2:w.cell? ⟨0,2,none⟩=some (.int .i64 0)
 c3:w.cell? ⟨0,3,none⟩=some (.int .i64 0)
 c4:w.cell? ⟨0,4,none⟩=some (.int .i64 (-1))
theorem Free.now{w w':World}(h:Free w)(hb:Below w.heap.size w w'):Free w':=
 ⟨Nat.lt_of_lt_of_le h.lt hb.size,(hb.cell (p:=⟨0,0,none⟩) h.lt).trans h.c0,(hb.cell (p:=⟨0,1,none⟩) h.lt).trans h.c1,(hb.cell (p:=⟨0,2,none⟩) h.lt).trans h.c2,(hb.cell (p:=⟨0,3,none⟩) h.lt).trans h.c3,(hb.cell (p:=⟨0,4,none⟩) h.lt).trans h.c4⟩
theorem map_now{k:TypeId}{R:Value→Option (DataW Unit×List MemPlace)}{w w':World}{b n:Nat}{D:DataW Unit}(h:w.ownsMap Tryz.prog k R b n D)(hb:Below w.heap.size w w'):w'.ownsMap Tryz.prog k R b n D:=
 h.kept (row:=none) ⟨hb.os,hb.tape,hb.output,hb.size,fun i hi _=>hb.block i hi⟩ (by simp)
def KSt(fs:List Fr)(k:Nat)(S:List Key):Prop:=S.length=nus fs k∧∀a,a∈S↔∃(r:Nat) (g:Fr),r<k∧fs[r]?=some g∧g.used=true∧(g.s,g.p)=a
theorem TableValid_any (vb vf : Value) (t:Tab) (w:World) (hT:TaR w vb vf t) (hfree:Free w):
    Calls Tryz.prog 32 #[.agg #[vb,vf]] w fun r w'=>r=.returned (.bool (tv t))∧Below w.heap.size w w':=by
  obtain⟨Ab,cb,rfl,hbc,hbm,hB⟩:=hT.b;obtain⟨Af,cf,rfl,hfc,hfm,hF⟩:=hT.f;have hbm2:t.bs.length≤9223372036854775807:=by unfold maxLen at hbm;omega
  have hfm2:t.fs.length≤9223372036854775807:=by unfold maxLen at hfm;omega
  have HF:=Hd hF;have HBS:=Hd hB;have HFREE:=Hd hfree;have hmm:= @run_makeMap Tryz.prog;have hbx:=Own.new_ w 26 #[.slice Ab t.bs.length cb,.slice Af t.fs.length cf];have hbz:Below w.heap.size w (w.alloc (.cells #[.slice Ab t.bs.length cb,.slice Af t.fs.length cf] 26)):=bA bR;have hsz0:(w.alloc (.cells #[.slice Ab t.bs.length cb,.slice Af t.fs.length cf] 26)).heap.size=w.heap.size+1:=by simp
  generalize hW:w.alloc (.cells #[.slice Ab t.bs.length cb,.slice Af t.fs.length cf] 26)=W0 at hbx hbz hsz0;have q0:=hbx.cell_ 0 (v:=.slice Ab t.bs.length cb) rfl;have q1:=hbx.cell_ 1 (v:=.slice Af t.fs.length cf) rfl;have HBX:=Hd hbx;clear hB hF hbx hT hbm hfm hfree;by_cases h1:t.fs.length<1
  · have g1:(t.fs.length:Int)<1:=by omega
    go_enter Tryz.func32,Tryz.ntmps32
    have HE:Hi (tv t=false):=tv_sz (by unfold tsz;simp;omega);go_wp2;go_ret;exact⟨by rw[HE.o];rfl,hbz⟩
  · have g1 : ¬ (t.fs.length:Int)<1:=by omega
    by_cases h2:16<t.fs.length
    · have g2:(16:Int)<(t.fs.length:Int):=by omega
      go_enter Tryz.func32,Tryz.ntmps32
      have HE:Hi (tv t=false):=tv_sz (by unfold tsz;simp;omega);go_wp2;go_ret;exact⟨by rw[HE.o];rfl,hbz⟩
    · have g2 : ¬ (16 : Int) < (t.fs.length:Int):=by omega
      by_cases h3:1≤t.bs.length∧t.bs.length≤16
      case neg=>
        have g3:(decide ((1:Int)≤(t.bs.length:Int)) && decide ((t.bs.length:Int)≤16))=false:=by
          simp;omega
        go_enter Tryz.func32,Tryz.ntmps32
        go_wp2_with fail
        refine(bucketsValid_any _ _).mono ?_;rintro e w1 ⟨rfl,rfl⟩;rw[g3];have HE:Hi (tv t=false):=tv_sz (by unfold tsz;simp;omega);go_wp2;go_ret;exact⟨by rw[HE.o];rfl,hbz⟩
      case pos=>
        have g3:(decide ((1:Int)≤(t.bs.length:Int)) && decide ((t.bs.length:Int)≤16))=true:=by
          simp;omega
        have HSZ:Hi (tsz t=true):=by show _=_;unfold tsz;simp;omega
        go_enter Tryz.func32,Tryz.ntmps32
        go_wp2_with fail
        refine(bucketsValid_any _ _).mono ?_;rintro e w1 ⟨rfl,rfl⟩;rw[g3];go_wp2;clear q0 q1;go_loopw [30] (fun u wr=>∃(k:Nat) (S:List Key) (D:DataW Unit),k≤t.fs.length∧u=.int .i64 k∧Hi (frs t.fs k=true)∧Hi (KSt t.fs k S)∧SetK S D∧wr.ownsMap Tryz.prog 54 (plainElem Tryz.prog 4) (w.heap.size+1) k D∧Own wr w.heap.size 26 #[.slice Ab t.bs.length cb,.slice Af t.fs.length cf]∧Below w.heap.size w wr) (fun u _=>t.fs.length-(intOf u).toNat)
        case atStart=>exact⟨0,[],_,by omega,rfl,rfl,⟨rfl,fun a=>⟨fun h=>(by cases h),fun⟨r,g,h,_⟩=>absurd h (by omega)⟩⟩,SetD.nil_,(by rw[←hsz0];exact World.ownsMap_made _ _ _ _),HBX.o.alloc,bA hbz⟩
        case round=>
          clear hbz;obtain⟨k,S,D,hk,rfl,hfr,hks,hsd,hmap,hbox,hbz⟩:=hrel;have q0:=hbox.cell_ 0 (v:=.slice Ab t.bs.length cb) rfl;have q1:=hbox.cell_ 1 (v:=.slice Af t.fs.length cf) rfl;have HBOX:=Hd hbox;have hbl:=hbox.lt;clear hbox;by_cases hlt:k<t.fs.length
          · obtain ⟨f,ef⟩:∃f,t.fs[k]?=some f:=⟨_,List.getElem?_eq_getElem hlt⟩
            obtain⟨b2,o2,rfl,hb2,d0,d1,d2,d3,d4⟩:=(HF.o.below hbz).fr ef;have hb2w:b2<wr.heap.size:=by have:=hbz.size;omega
            have HMAP:=Hd hmap;have EF:=Hd ef;clear hmap;have FR:=HFREE.o.now hbz;obtain⟨z0,z1,z2,z3,z4,z5⟩:=FR
            cases hu:f.used with
            | false =>
              rw[hu]at d0;have hft:frok f=decide (f=frz):=by unfold frok;rw[hu];rfl
              have he:∀W,(binOp .neq 80 (.agg #[.bool false,.int .i64 f.s,.int .i64 f.p,.int .i64 f.r,.int .i64 f.n]) (.agg #[.bool false,.int .i64 0,.int .i64 0,.int .i64 0,.int .i64 (-1)])).run Tryz.prog W=.ok (.bool (!frok f)) W:=fun W=>by
                have h:=neq_fr f frz W;rw[←hft]at h;simp only[frV,hu,frz]at h;exact h
              by_cases hok:frok f=true
              · rw [hok]at he
                have HK:=Hd (frs_step (f:=f) hfr.o ef hok (fun h=>by rw[hu]at h;cases h));have HN:Hi (nus t.fs (k+1)=nus t.fs k):=by show _=_;rw[nus_step ef,hu];rfl
                have HKS:Hi (KSt t.fs (k+1) S):=⟨by rw[HN.o];exact hks.o.1,fun a=>⟨fun h=>(let ⟨r,g,h1,h2⟩:=(hks.o.2 a).1 h;⟨r,g,by omega,h2⟩),fun⟨r,g,h1,h2,h3,h4⟩=>(hks.o.2 a).2 (by
                  rcases Nat.lt_or_ge r k with h | h
                  · exact⟨r,g,h,h2,h3,h4⟩
                  · obtain rfl:r=k:=by omega
                    rw[ef]at h2;injection h2 with h2
                    rw[←h2,hu]at h3;cases h3)⟩⟩
                go_wp2;go_roundw;case rel=>exact⟨k+1,S,D,by omega,by go_num,HK,HKS,hsd,(HMAP.o.alloc _).mono (by omega),HBOX.o.alloc,bA hbz⟩
                case measure=>simp[intOf];omega
              · have hok:=bool_ff hok
                rw[hok]at he;have HE:Hi (tv t=false):=tv_fr ef hok;go_wp2;go_ret;exact⟨by rw[HE.o];rfl,bA hbz⟩
            | true=>
              rw[hu]at d0;go_wp2_with fail
              refine(keyValid_any _ _ _).mono ?_;rintro e w3 ⟨rfl,hb3'⟩;obtain⟨ob,hb3⟩:=one_box hb3';have y0:=ob.cell_ 0 (v:=.bool true) rfl;have y1:=ob.cell_ 1 (v:=.int .i64 f.s) rfl;have y2:=ob.cell_ 2 (v:=.int .i64 f.p) rfl;have y3:=ob.cell_ 3 (v:=.int .i64 f.r) rfl;have hol:=ob.lt;have HMAP3:=Hd ((HMAP.o.alloc (.cells #[.bool true,.int .i64 f.s,.int .i64 f.p,.int .i64 f.r,.int .i64 f.n] 80)).kept (row:=none) ⟨hb3'.os,hb3'.tape,hb3'.output,hb3'.size,fun i hi _=>hb3'.block i hi⟩ (by simp));have HBOX3:=Hd (HBOX.o.below hb3);have hbz3:=bT hbz hb3;clear ob hb3' q0 q1 d0 d1 d2 d3 d4 z0 z1 z2 z3 z4 z5 hbz hbl;have hbz:=hbz3;clear hbz3;have hfk:frok f=(kval (f.s,f.p) && inR f.r 8):=by unfold frok;rw[hu];rfl
              by_cases hkv:kval (f.s,f.p)=true
              case neg=>
                have hkv:=bool_ff hkv;rw[hkv];have HE:Hi (tv t=false):=tv_fr ef (by rw[hfk,hkv];rfl);go_wp2;go_ret;exact⟨by rw[HE.o];rfl,hbz⟩
              case pos=>
                rw[hkv];by_cases hrr:inR f.r 8=true
                case neg=>
                  have hrr:=bool_ff hrr;have HE:Hi (tv t=false):=tv_fr ef (by rw[hfk,hrr];simp)
                  go_wp2_with (go_at_call 38;refine(RightsValid_any _ _).mono ?_;rintro e w' ⟨rfl,rfl⟩)
                  go_ret;exact⟨by rw[HE.o];rfl,hbz⟩
                case pos=>
                  have hok:frok f=true:=by rw[hfk,hkv,hrr];rfl
                  have hkk:kok (f.s,f.p):=kval_wf hkv;have hlook:=setk_look HMAP3.o hsd hkk;by_cases hin:(f.s,f.p)∈S
                  · rw[decide_eq_true hin]at hlook
                    have HE:Hi (tv t=false):=by
                      obtain⟨r,g,h5,h6,h7,h8⟩:=(hks.o.2 _).1 hin;exact tv_dup h5 h6 ef h7 hu h8
                    go_wp2_with (go_at_call 38;refine(RightsValid_any _ _).mono ?_;rintro e w' ⟨rfl,rfl⟩)
                    go_ret;exact⟨by rw[HE.o];rfl,hbz⟩
                  · rw [decide_eq_false hin]at hlook
                    have HK:=Hd (frs_step (f:=f) hfr.o ef hok (fun _ r g h1 h2 h3 h4=>hin ((hks.o.2 _).2 ⟨r,g,h1,h2,h3,h4⟩)));have HN:Hi (nus t.fs (k+1)=nus t.fs k+1):=by show _=_;rw[nus_step ef,hu];rfl
                    have HKS:Hi (KSt t.fs (k+1) (S++[(f.s,f.p)])):=⟨by rw[HN.o,List.length_append,hks.o.1];rfl,fun a=>by
                      rw[List.mem_append,List.mem_singleton,hks.o.2 a];constructor
                      · rintro(⟨r,g,h1,h2⟩ | rfl)
                        · exact⟨r,g,by omega,h2⟩
                        · exact⟨k,f,by omega,ef,hu,rfl⟩
                      · rintro⟨r,g,h1,h2,h3,h4⟩
                        rcases Nat.lt_or_ge r k with h | h
                        · exact .inl ⟨r,g,h,h2,h3,h4⟩
                        · obtain rfl:r=k:=by omega
                          rw[ef]at h2;injection h2 with h2
                          exact .inr (by rw[←h4,←h2])⟩
                    have HNEW:=Hd (setk_add hsd hkk hin);have HKEY:=Hd (key_of hkk.1 hkk.2);clear ef hok hfk hin hkk hsd hks hfr
                    go_wp2_with (first
                      | (go_at_call 38;refine(RightsValid_any _ _).mono ?_;rintro e w' ⟨rfl,rfl⟩)
                      | (at_mapUpdate;refine wpList_mapUpdate_own _ rfl _ _ _ 120 rfl 54 4 klaw Tryz.underlying120 (plainElem (H:=Unit) Tryz.prog 4) (w.heap.size+1) k _ rfl HMAP3.o (by unfold maxLen;omega) _ _ _ rfl rfl HKEY.o _ [] (plainElem_bool Tryz.underlying4 true) ?_;intro w4 hown4 hgrow4)
                      | go_in)
                    go_roundw;case rel=>exact⟨k+1,_,_,by omega,by go_num,HK,HKS,HNEW.o,hown4,own_other HBOX3.o hgrow4 (by simp),bG hbz hgrow4 (by intro q hq;injection hq with hq;omega)⟩
                    case measure=>simp[intOf];omega
          · obtain rfl:k=t.fs.length:=by omega
            have HFR:=Hd hfr.o;have HBOX1:=HBOX;have hbz1:=hbz;have hKS:=hks.o.1;have hDS:=hsd.siz;have hnn:=nus_le t.fs t.fs.length;have HMAPK:=Hd (hmap.alloc (.map #[] 0));have HM0:Hi ((wr.alloc (.map #[] 0)).ownsMap Tryz.prog 3 (plainElem (H:=Unit) Tryz.prog 4) wr.heap.size 0 (.map [])):=World.ownsMap_made _ _ _ _;have hgm:=hmap.lt;have HSZK:Hi (size D=nus t.fs t.fs.length):=by show _=_;rw[hDS,hKS]
            clear hlt hk hks hsd hmap hKS hDS;generalize hgme:wr.heap.size=gm at*;go_wp2;clear q0 q1 hbl;have hb00:Below w.heap.size w (wr.alloc (.map #[] 0)):=bA hbz1;have hbx00:=Hd (HBOX1.o.alloc (o:=.map #[] 0));generalize wr.alloc (.map #[] 0)=W5 at HMAPK HM0 hb00 hbx00⊢;clear hbz hbz1 hW HBX HBOX;go_loopw [75] (fun u wr=>∃(b:Nat) (M:List Int) (D2:DataW Unit),b≤t.bs.length∧u=.int .i64 b∧Hi (boks t b=true)∧Hi (M=ints (uni t b))∧M.length≤b*16∧SetI M D2∧wr.ownsMap Tryz.prog 3 (plainElem Tryz.prog 4) gm M.length D2∧wr.ownsMap Tryz.prog 54 (plainElem Tryz.prog 4) (w.heap.size+1) t.fs.length D∧Own wr w.heap.size 26 #[.slice Ab t.bs.length cb,.slice Af t.fs.length cf]∧Below w.heap.size w wr) (fun u _=>t.bs.length-(intOf u).toNat)
            case atStart=>exact⟨0,[],_,by omega,rfl,rfl,rfl,by simp,SetD.nil_,HM0.o,HMAPK.o,hbx00.o,hb00⟩
            case round=>
              obtain⟨b,M,D2,hb,rfl,hbo,hM,hMl,hsd,hmap,hmapk,hbox,hbz⟩:=hrel;have q0:=hbox.cell_ 0 (v:=.slice Ab t.bs.length cb) rfl;have q1:=hbox.cell_ 1 (v:=.slice Af t.fs.length cf) rfl;have hbl:=hbox.lt;have HBOX:=Hd hbox;have HMAP:=Hd hmap;have HKEYS:=Hd hmapk;have HSD:=Hd hsd;clear hbox hmap hmapk hsd;by_cases hlt:b<t.bs.length
              · obtain ⟨i0, ei0⟩ :∃i0,t.bs[b]?=some i0:=⟨_,List.getElem?_eq_getElem hlt⟩
                obtain⟨b1,o1,hAb,hb1,c1⟩:=(HBS.o.below hbz).i1 ei0;subst hAb;have H0:=Hd (chst_zero ei0);have hwr:=hbz
                obtain⟨w6,rfl⟩:∃w6,w6=wr:=⟨_,rfl⟩
                clear ei0 hbz;go_wp2;clear c1 q0 q1 hbl
                go_loopg [9] (t.fs.length+1) (fun g u wi=>∃(pre:List Nat) (i:Int) (D3:DataW Unit),g=t.fs.length+1-pre.length∧u=.int .i64 i∧Hi (ChSt t b pre i)∧Hi (pre.Nodup∧∀j∈pre,∃f:Fr,t.fs[j]?=some f∧f.used=true∧hsh f.s f.p t.bs.length=b)∧SetI (M++ints pre) D3∧wi.ownsMap Tryz.prog 3 (plainElem Tryz.prog 4) gm (M++ints pre).length D3∧wi.ownsMap Tryz.prog 54 (plainElem Tryz.prog 4) (w.heap.size+1) t.fs.length D∧Own wi w.heap.size 26 #[.slice (some ⟨b1,o1,none⟩) t.bs.length cb,.slice Af t.fs.length cf]∧Below w.heap.size w wi)
                case atStart=>exact⟨[],i0,D2,by simp,rfl,H0,⟨List.nodup_nil,fun j h=>by cases h⟩,by simpa[ints]using HSD.o,by simpa[ints]using HMAP.o,HKEYS.o,HBOX.o,hwr⟩
                case round=>
                  clear hwr;obtain⟨pre,i,D3,rfl,rfl,hst,hpre,hsd,hmap,hmapk,hbox,hbz⟩:=hrel;have q0:=hbox.cell_ 0 (v:=.slice (some ⟨b1,o1,none⟩) t.bs.length cb) rfl;have q1:=hbox.cell_ 1 (v:=.slice Af t.fs.length cf) rfl;have hbl:=hbox.lt;have HBOXI:=Hd hbox;have HMAPI:=Hd hmap;have HKEYI:=Hd hmapk;have HSDI:=Hd hsd;clear hbox hmap hmapk hsd;by_cases hi1:i=-1
                  · subst hi1
                    have hch:=chst_end hst.o;have hpl:=chn_len (show chn t.fs t.fs.length _=some pre from(bch_some hch).choose_spec.2);have HB2:Hi (boks t (b+1)=true):=boks_step hbo.o hch (fun m j e=>(let ⟨f,e1,_,e3⟩:=hpre.o.2 j (List.mem_of_getElem? e);⟨f,e1,e3⟩))
                    have HU2:Hi (M++ints pre=ints (uni t (b+1))):=by
                      show _=_;rw[hM.o,←ints_append];unfold uni;rw[hch];cases b<;>rfl
                    have hml2:(M++ints pre).length≤(b+1)*16:=by rw[List.length_append,ints_length];omega
                    go_wp2;go_roundw;case rel=>exact⟨b+1,_,D3,by omega,by go_num,HB2,HU2,hml2,HSDI.o,HMAPI.o,HKEYI.o,HBOXI.o,hbz⟩
                    case measure=>simp[intOf];omega
                  · have g1 : (i == -1)=false:=by rw[beq_eq_false_iff_ne];exact hi1
                    have KW:=fun W=>within_any i t.fs.length W
                    have z0:=xcell (w:=wr) q0 (by simp;omega);have z1:=xcell (w:=wr) q1 (by simp;omega);by_cases hin:inR i t.fs.length=true
                    case neg=>
                      have hin:=bool_ff hin;rw[hin]at KW;have HW:=Hd KW;have HE:Hi (tv t=false):=tv_bok (bok_none (chst_out hst.o hi1 (fun h=>by rw[inR_iff.2 h]at hin;cases hin))) hlt;clear KW;go_wp2;refine wp_region_ext (by kernel_rfl) (by kernel_rfl) ?_;repeat (go_big_quiet_step ((go_at_call 37;exact ext_same (HW.o _))))
                      refine wpQuiet_nil ?_;intro _ hw';obtain⟨⟨wq,hq⟩,hw''⟩:=hw';subst hw'';try dsimp only
                      go_wp2;go_ret;exact⟨by rw[HE.o];rfl,bT hbz hq⟩
                    case pos=>
                      rw[hin]at KW;have HW:=Hd KW;obtain⟨h5,h6⟩:=inR_iff.1 hin;obtain⟨k,rfl⟩:=Int.eq_ofNat_of_zero_le h5;have hkl:k<t.fs.length:=by omega
                      obtain⟨f,ef⟩:∃f,t.fs[k]?=some f:=⟨_,List.getElem?_eq_getElem hkl⟩
                      have hiok:iok (k:Int):=WalkArith.wf_i64 (by omega);have hlk:=fun x:Ext wr=>seti_look (map_now HMAPI.o x.ok) HSDI.o hiok
                      clear KW hin h5;by_cases hmem:(k:Int)∈M++ints pre
                      · simp only[decide_eq_true hmem]at hlk
                        have HE:Hi (tv t=false):=by
                          refine tv_bok ?_ hlt;rw[hM.o,←ints_append]at hmem;unfold ints at hmem;obtain⟨j,hj,hjk⟩:=List.mem_map.1 hmem;have:j=k:=by have:=Int.ofNat.inj hjk;exact this
                          subst this;rcases List.mem_append.1 hj with h | h
                          · exact chst_other hst.o hbo.o h
                          · exact bok_none (chst_twice hst.o h)
                        clear hmem;go_wp2;refine wp_region_ext (by kernel_rfl) (by kernel_rfl) ?_;repeat (go_big_quiet_step ((go_at_call 37;exact ext_same (HW.o _))))
                        refine wpQuiet_nil ?_;intro _ hw';obtain⟨⟨wq,hq⟩,hw''⟩:=hw';subst hw'';try dsimp only
                        go_wp2;go_ret;exact⟨by rw[HE.o];rfl,bT hbz hq⟩
                      · simp only[decide_eq_false hmem]at hlk
                        obtain⟨b4,o4,hAf,hb4,x0,x1,x2,x3,x4⟩:=(HF.o.below hbz).fr ef;subst hAf;have y0:=xcell (w:=wr) x0 (by have:=hbz.size;show b4<_;omega);have y1:=xcell (w:=wr) x1 (by have:=hbz.size;show b4<_;omega);have y2:=xcell (w:=wr) x2 (by have:=hbz.size;show b4<_;omega)
                        cases hu:f.used with
                        | false=>
                          simp only[hu]at y0;have HE:Hi (tv t=false):=tv_bok (bok_none (chst_free hst.o ef hu)) hlt;clear hmem;go_wp2;refine wp_region_ext (by kernel_rfl) (by kernel_rfl) ?_;repeat (go_big_quiet_step ((go_at_call 37;exact ext_same (HW.o _))))
                          refine wpQuiet_nil ?_;intro _ hw';obtain⟨⟨wq,hq⟩,hw''⟩:=hw';subst hw'';try dsimp only
                          go_wp2;go_ret;exact⟨by rw[HE.o];rfl,bT hbz hq⟩
                        | true=>
                          simp only[hu]at y0
                          have hkv:kval (f.s,f.p)=true:=by
                            obtain⟨⟨g,eg,hg⟩,_⟩:=frs_at HFR.o hkl;rw[ef]at eg;injection eg with eg;subst eg;unfold frok at hg;rw[hu]at hg;simp only[if_true,Bool.and_eq_true]at hg;exact hg.1
                          have KH:=fun W=>hash_any f.s f.p t.bs.length W hkv (by omega)
                          have HBAD:Hi (hsh f.s f.p t.bs.length≠b→tv t=false):=fun hh=>tv_bok (chst_hash hst.o ef hh) hlt
                          have HGOOD:Hi (hsh f.s f.p t.bs.length=b→∀j∈pre++[k],∃f:Fr,t.fs[j]?=some f∧f.used=true∧hsh f.s f.p t.bs.length=b):=fun hh j hj=>by
                            rcases List.mem_append.1 hj with h | h
                            · exact hpre.o.2 j h
                            · rw[List.mem_singleton]at h
                              subst h;exact⟨f,ef,hu,hh⟩
                          have hkp:k∉pre:=fun h=>hmem (List.mem_append.2 (.inr (List.mem_map.2 ⟨k,h,rfl⟩)))
                          have hnd2:(pre++[k]).Nodup:=by
                            rw[List.nodup_append];exact⟨hpre.o.1,by simp,fun a ha c hc h=>by rw[List.mem_singleton]at hc;subst h hc;exact hkp ha⟩
                          have hpl:(pre++[k]).length≤t.fs.length:=by
                            have h:=len_sub (b:=List.range t.fs.length) hnd2 (fun x hx=>by
                              rcases List.mem_append.1 hx with h | h
                              · obtain⟨g,eg,_⟩:=hpre.o.2 x h
                                exact List.mem_range.2 (List.getElem?_eq_some_iff.1 eg).1
                              · rw[List.mem_singleton]at h
                                subst h
                                exact List.mem_range.2 hkl)
                            simpa using h
                          rw[List.length_append,List.length_singleton]at hpl;have HST:=Hd (chst_step hst.o ef hu (by omega));have HND:=Hd hnd2;have HSD2:=Hd (seti_add HSDI.o hiok hmem);have HKEY:=Hd (ikey_of hiok);have X4:=Hd x4;generalize hsh f.s f.p t.bs.length=hv at KH HBAD HGOOD;have HH:=Hd KH;clear KH hmem hkp hnd2 hkv x0 x1 x2 x3 x4 ef;by_cases hh:hv=b
                          case neg=>
                            have g5:(hv == (b:Int))=false:=by rw[beq_eq_false_iff_ne];exact hh
                            have HE:Hi (tv t=false):=HBAD.o hh;clear hh;go_wp2;refine wp_region_ext (by kernel_rfl) (by kernel_rfl) ?_;repeat (go_big_quiet_step ((first | (go_at_call 37;exact ext_same (HW.o _)) | (go_at_call 59;exact ext_call (HH.o _)))))
                            refine wpQuiet_nil ?_;intro _ hw';obtain⟨⟨wq,hq⟩,hw''⟩:=hw';subst hw'';try dsimp only
                            go_wp2;go_ret;exact⟨by rw[HE.o];rfl,bT hbz hq⟩
                          case pos=>
                            have HG2:=Hd (HGOOD.o hh);subst hh;clear HGOOD HBAD;go_wp2;refine wp_region_ext (by kernel_rfl) (by kernel_rfl) ?_;repeat (go_big_quiet_step ((first | (go_at_call 37;exact ext_same (HW.o _)) | (go_at_call 59;exact ext_call (HH.o _)))))
                            refine wpQuiet_nil ?_;intro _ hw';obtain⟨⟨wq,hq⟩,hw''⟩:=hw';subst hw'';try dsimp only
                            have hmap6:=map_now HMAPI.o hq;have hkey6:=map_now HKEYI.o hq;have hbox6:=HBOXI.o.below hq;have hbz6:=bT hbz hq;have x46:=(hq.cell (p:=⟨b4,o4+k*5+4,none⟩) (by have:=hbz.size;show b4<_;omega)).trans X4.o;have HMAP6:=Hd hmap6;have HKEY6:=Hd hkey6;have HBOX6:=Hd hbox6;have X46:=Hd x46;clear hmap6 hkey6 hbox6 x46 hlk y0 y1 y2 z0 z1 q0 q1;have hml3:(M++ints pre).length<maxLen:=by rw[List.length_append,ints_length];unfold maxLen;omega
                            have hpl2:ints pre++[(k:Int)]=ints (pre++[k]):=by rw[ints_append];rfl
                            go_wp2_with (first
                              | (at_mapUpdate;refine wpList_mapUpdate_own _ rfl _ _ _ 121 rfl 3 4 ilaw Tryz.underlying121 (plainElem (H:=Unit) Tryz.prog 4) gm _ _ rfl HMAP6.o hml3 _ _ _ rfl rfl HKEY.o _ [] (plainElem_bool Tryz.underlying4 true) ?_;intro w7 hown7 hgrow7
                                 have hbox7:=own_other HBOX6.o hgrow7 (by simp;omega);have q1:=hbox7.cell_ 1 (v:=.slice (some ⟨b4,o4,none⟩) t.fs.length cf) rfl;have x47:w7.cell? ⟨b4,o4+k*5+4,none⟩=some (.int .i64 f.n):=hgrow7.cell (a:=⟨b4,o4+k*5+4,none⟩) X46.o (by simp;omega);have HBOX7:=Hd hbox7;have HOWN7:=Hd hown7;have HGR7:=Hd hgrow7
                                 clear hbox7 hown7 hgrow7)
                              | go_in)
                            go_roundg (t.fs.length+1-(pre++[k]).length)
                            case measure=>simp;omega
                            case rel=>
                              have hs3:=HSD2.o;rw[List.append_assoc,hpl2]at hs3;have ho3:=HOWN7.o;rw[show(M++ints pre).length+1=(M++ints (pre++[k])).length by simp[ints_length];omega]at ho3;exact⟨pre++[k],f.n,_,rfl,rfl,HST,⟨HND.o,HG2.o⟩,hs3,ho3,HKEY6.o.kept HGR7.o (by simp;omega),HBOX7.o,bG hbz6 HGR7.o (by intro q hq;injection hq with hq;omega)⟩
              · obtain rfl:b=t.bs.length:=by omega
                have hBS:M.length=bsum t t.bs.length:=by rw[hM.o,ints_length,uni_len]
                have hD2:=HSD.o.siz;have hDK:=HSZK.o;have HE:Hi (tv t=decide (bsum t t.bs.length=nus t.fs t.fs.length)):=tv_end HSZ.o HFR.o hbo.o;rw[←hBS,←hD2,←hDK]at HE;clear hBS hDK hM hsz0;generalize hs2:size D2=Z2 at*;generalize hs1:size D=Z1 at*;by_cases hZ:Z2=Z1
                · have HE2:Hi (tv t=true):=by show _=_;rw[HE.o,decide_eq_true hZ]
                  have g5:((Z2:Int) == (Z1:Int))=true:=by rw[beq_iff_eq];omega
                  clear hZ hD2
                  go_wp2_with (first
                    | (at_len;refine wpList_len_own _ rfl _ 121 rfl 3 4 Tryz.underlying121 (plainElem (H:=Unit) Tryz.prog 4) gm _ D2 rfl HMAP.o ?_;rw[hs2])
                    | (at_len;refine wpList_len_own _ rfl _ 120 rfl 54 4 Tryz.underlying120 (plainElem (H:=Unit) Tryz.prog 4) (w.heap.size+1) _ D rfl HKEYS.o ?_;rw[hs1])
                    | go_in)
                  go_ret;exact⟨by rw[HE2.o];rfl,hbz⟩
                · have HE2:Hi (tv t=false):=by show _=_;rw[HE.o,decide_eq_false hZ]
                  have g5:((Z2:Int) == (Z1:Int))=false:=by rw[beq_eq_false_iff_ne];omega
                  clear hZ hD2
                  go_wp2_with (first
                    | (at_len;refine wpList_len_own _ rfl _ 121 rfl 3 4 Tryz.underlying121 (plainElem (H:=Unit) Tryz.prog 4) gm _ D2 rfl HMAP.o ?_;rw[hs2])
                    | (at_len;refine wpList_len_own _ rfl _ 120 rfl 54 4 Tryz.underlying120 (plainElem (H:=Unit) Tryz.prog 4) (w.heap.size+1) _ D rfl HKEYS.o ?_;rw[hs1])
                    | go_in)
                  go_ret;exact⟨by rw[HE2.o];rfl,hbz⟩
end Go.Proofs.YtfbnokjdkhcgoaaGreatDoor
