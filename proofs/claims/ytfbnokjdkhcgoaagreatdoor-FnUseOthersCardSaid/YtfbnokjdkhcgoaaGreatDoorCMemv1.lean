/- A part of the proofs of this seat. -/
import Derived.WalkKit
import Derived.Lib.Hide
import Derived.Deep.QuietTactic
import Derived.BigQuiet
import Derived.Deep.CutRange
import Derived.ChangeSame
import Derived.Test.YtfbnokjdkhcgoaaGreatDoorCEq
import Derived.Test.YtfbnokjdkhcgoaaGreatDoorCKyI
set_option linter.unusedVariables false
set_option linter.unusedSimpArgs false
set_option maxRecDepth 1000000
set_option maxHeartbeats 16000000
namespace Go.Proofs.YtfbnokjdkhcgoaaGreatDoor
open Go.RowKit
theorem Rd.key2{B:Nat}{w:World}{A:Option Addr}{l:List Key}(h:Ks B w A l){k:Nat}(hk:k<l.length):
  ∃b o x y,A=some ⟨b,o,none⟩∧b<B∧w.cell? ⟨b,o+k*2,none⟩=some (.int .i64 x)∧w.cell? ⟨b,o+k*2+1,none⟩=some (.int .i64 y)∧l[k]?=some (x,y):=by
 obtain⟨b,o,e,hb,h1,h2⟩:=h.key hk;exact⟨b,o,_,_,e,hb,h1,h2,List.getElem?_eq_getElem hk⟩
theorem keysL_len(fs:List Fr):(keysL fs).length≤fs.length:=List.length_filterMap_le _ _
theorem kys_len(t:Tab):(kys t).length≤t.fs.length:=by
 unfold kys;split
 ·rw[ksrt_length];exact keysL_len _
 ·simp
theorem keysL_nodup{t:Tab}(T:TV t):(keysL t.fs).Nodup:=by
 unfold keysL List.Nodup;rw[List.pairwise_filterMap,List.pairwise_iff_getElem];intro i j hi hj hij b hb b' hb' he
 cases hu:t.fs[i].used with
 | false=>rw[hu]at hb;cases hb
 | true=>
  cases hu':t.fs[j].used with
  | false=>rw[hu']at hb';cases hb'
  | true=>
   rw[hu]at hb;rw[hu']at hb';simp only[if_true]at hb hb';injection hb with hb;injection hb' with hb';have:=T.key i j _ _ (List.getElem?_eq_getElem hi) (List.getElem?_eq_getElem hj) hu hu' (by rw[hb,hb',he]);omega
theorem use_gone{M:Me}{p n r:Int}(h:useO M p n r=true):
  ∃g:Option Key,(∀(s q:Int) (i:Nat),fnd M.m.t.fs s q=some i→some (s,q)≠g→∃i,fnd (useV M p n r).m.t.fs s q=some i)∧(ffr M.m.t.fs≠none→g=none):=by
 obtain⟨h1,h2,h3,h4,N,e⟩:=useO_parts h;have V:=mev_MEV.1 h1;obtain⟨_,hV,_⟩:=useO_some h1 h2 h3 h4 e;have hto:=(useN_tch V e h2 h3).1;rw[hV];simp only[(tchV_len hto).1]
 rcases useN_cases V e with⟨_,rfl⟩ | ⟨_,k,hk,hp,rfl⟩ | ⟨_,hk,mk,_,a,f,_,ef,hu,hw,ht,hp,rfl⟩
 ·exact⟨none,fun s q i hf _=>⟨i,hf⟩,fun _=>rfl⟩
 ·exact⟨none,fun s q i hf _=>⟨i,put_fnd hp hf⟩,fun _=>rfl⟩
 ·refine⟨some (f.s,f.p),fun s q i hf hne=>⟨i,put_fnd hp (tak_fnd V.m ht hf (fun hc=>hne (by rw[hc.1,hc.2])))⟩,fun hn=>absurd hk hn⟩
end Go.Proofs.YtfbnokjdkhcgoaaGreatDoor
namespace Go.Proofs.YtfbnokjdkhcgoaaGreatDoor.lUseOthers
open Go.ChangeShapes Go.WideShapes Go.ChangeAt Go.RowKit Go.Joins
set_option maxRecDepth 100000 in
theorem closed:joinedFacts Tryz.prog 5 Tryz.f5 Rows.fnUseOthersSpec Rows.fnUseOthersRow=true:=by
 unfold joinedFacts;rw[may_enter,lifts_final,make_cut];refine Eq.trans ?_ (Eq.refl _);kernel_rfl
end Go.Proofs.YtfbnokjdkhcgoaaGreatDoor.lUseOthers
namespace Go.Proofs.YtfbnokjdkhcgoaaGreatDoor
open Go.RowKit
def lst(t:Tab)(x:Key):Bool:=!fOK t x.1 x.2
theorem cnt_take{l:List Key}{k:Nat}{x:Key}(e:l[k]?=some x)(q:Key→Bool):(l.take (k+1)).countP q=(l.take k).countP q+(if q x=true then 1 else 0):=by
 rw[List.take_add_one,e,List.countP_append];simp[Option.toList]
theorem cnt_one{g:Key}:∀{l:List Key},l.Nodup→l.countP (fun x=>decide (x=g))≤1
  | [],_=>by simp
  | y ::l,h=>by
    rw[List.nodup_cons]at h;have ih:=cnt_one (g:=g) h.2;rw[List.countP_cons];by_cases e:y=g
    · have h0:l.countP (fun x=>decide (x=g))=0:=List.countP_eq_zero.2 fun x hx hc=>h.1 (by rw[e];rw[←of_decide_eq_true hc];exact hx)
      rw[h0];split<;>omega
    · rw[if_neg (by simpa using e)]
      omega
theorem use_lost{M:Me}{p n r:Int}(h:useO M p n r=true):
  (kys M.m.t).countP (lst (useV M p n r).m.t)≤1∧(ffO M=true→(kys M.m.t).countP (lst (useV M p n r).m.t)=0):=by
 obtain⟨g,h1,h2⟩:=use_gone h;have hv:=(mav_parts (mev_use h)).1;have T:=(mev_MEV.1 (useO_parts h).1).m.t;have hm:=tv_TV.2 T
 have key:∀x∈kys M.m.t,lst (useV M p n r).m.t x=true→some x=g:=by
  intro x hx hl;apply Decidable.byContradiction;intro hne;unfold kys at hx;rw[if_pos hm]at hx;obtain⟨i,y,e,hu,rfl⟩:=keysL_mem.1 ((ksrt_perm _).mem_iff.1 hx);obtain⟨j,hj⟩:=h1 y.s y.p i (T.fnd e hu rfl) hne;have hk:=T.ok i y e;unfold frok at hk;rw[if_pos hu,Bool.and_eq_true]at hk;unfold lst fOK at hl;simp only at hl;rw[hv,hk.1,fndI_some hj]at hl;simp at hl
 have nd:(kys M.m.t).Nodup:=by
  unfold kys;rw[if_pos hm];exact(ksrt_perm _).nodup_iff.2 (keysL_nodup T)
 constructor
 ·cases g with
  | none=>
   have h0:(kys M.m.t).countP (lst (useV M p n r).m.t)=0:=List.countP_eq_zero.2 fun x hx hl=>by have:=key x hx hl;contradiction
   omega
  | some g=>exact Nat.le_trans (List.countP_mono_left fun x hx hl=>by have:=key x hx hl;simpa using this) (cnt_one (g:=g) nd)
 ·intro hf;have hg:g=none:=h2 (fun hc=>by unfold ffO at hf;rw[ffI_none hc]at hf;simp at hf);subst hg;exact List.countP_eq_zero.2 fun x hx hl=>by have:=key x hx hl;contradiction
theorem chain_any(vb vf:Value)(t:Tab)(b:Nat)(ch:List Nat)(w:World)(hT:TaR w vb vf t)(hb:b<t.bs.length)(hl:t.fs.length≤100000)(hch:bch t b=some ch):
  Calls Tryz.prog 58 #[.agg #[vb,vf],.int .i64 b] w (Post2 fun v w'=>SlR intE w' v (ints ch)∧Below w.heap.size w w'):=by
 obtain⟨Ab,cb,rfl,hbc,hbm,hB⟩:=hT.b;obtain⟨Af,cf,rfl,hfc,hfm,hF⟩:=hT.f
 obtain⟨i0,ei0⟩:∃i0,t.bs[b]?=some i0:=⟨_,List.getElem?_eq_getElem hb⟩
 have H0:=Hd (chst_zero ei0);obtain⟨b1,o1,rfl,hb1,c1⟩:=hB.i1 ei0;have HF:=Hd hF;have HCH:=Hd hch;clear hF hB hT ei0 hch;obtain⟨W0,hW,hbx,hb0,hs0⟩:=box1 w #[.slice (some ⟨b1,o1,none⟩) t.bs.length cb,.slice Af t.fs.length cf] 26;have HBX:=Hd hbx;have HB0:=Hd hb0;have c1':=(hb0.cell (p:=⟨b1,o1+b,none⟩) (by show b1<_;omega)).trans c1;have q0:=hbx.cell_ 0 (v:=.slice (some ⟨b1,o1,none⟩) t.bs.length cb) rfl;have HO:Hi (W0.ownsRow (w.heap.size+1) 3 1 (.slice none 0 0) 0 (intE.cells (ints []))):=World.ownsRow_nil _ _ _ _;clear hbx hb0 c1
 go_enter Tryz.func58,Tryz.ntmps58
 go_wp2;clear c1' q0;go_loopw [5,6] (fun v u wr=>∃(pre:List Nat) (i:Int),u=.int .i64 i∧pre.length≤t.fs.length∧Hi (ChSt t b pre i)∧wr.ownsRow (w.heap.size+1) 3 1 v pre.length (intE.cells (ints pre))∧Own wr w.heap.size 26 #[.slice (some ⟨b1,o1,none⟩) t.bs.length cb,.slice Af t.fs.length cf]∧Below w.heap.size w wr) (fun v _ _=>t.fs.length-lenV v)
 case atStart=>exact⟨[],i0,rfl,by simp,H0,HO.o,HBX.o,HB0.o⟩
 case round=>
  obtain⟨pre,i,rfl,hpl,hst,hown,hbox,hb'⟩:=hrel;obtain⟨Ao,co,rfl,hoc,hom,hro⟩:=rs_own (E:=intE) (l:=ints pre) (ints_length pre).symm hown;rw[ints_length]at*;have q0:=hbox.cell_ 0 (v:=.slice (some ⟨b1,o1,none⟩) t.bs.length cb) rfl;have q1:=hbox.cell_ 1 (v:=.slice Af t.fs.length cf) rfl;have hbl:=hbox.lt;have HBOX:=Hd hbox;have HOWN:=Hd hown;clear hbox hown;by_cases h1:i=-1
  ·subst h1;have hpe:pre=ch:=by have:=chst_end hst.o;rw[HCH.o]at this;injection this with this;exact this.symm
   subst hpe
   have HR:Hi (SlR intE wr (.slice Ao pre.length pre.length) (ints pre)):=⟨Ao,pre.length,by rw[ints_length],by rw[ints_length];omega,by omega,hro⟩
   have HCL:=Hd (clipint_any Ao pre.length co wr hoc);clear hro;go_wp2_with fail
   refine HCL.o.mono ?_;rintro e w2 ⟨rfl,rfl⟩;go_wp2;go_ret;exact⟨_,rfl,HR.o,hb'⟩
  ·have g1:(i == -1)=false:=by rw[beq_eq_false_iff_ne];exact h1
   have hin:0≤i∧i<t.fs.length:=by
    by_cases h2:0≤i∧i<t.fs.length
    ·exact h2
    ·have:=chst_out hst.o h1 h2;rw[HCH.o]at this;cases this
   obtain⟨h3,h4⟩:=hin;obtain⟨k,rfl⟩:=Int.eq_ofNat_of_zero_le h3
   have h5:pre.length<t.fs.length:=by
    by_cases h5:pre.length<t.fs.length
    ·exact h5
    ·have:=chst_full hst.o h1 (by omega);rw[HCH.o]at this;cases this
   obtain⟨f,ef⟩:∃f,t.fs[k]?=some f:=⟨_,List.getElem?_eq_getElem (by omega)⟩
   have hu:f.used=true:=by
    cases hu:f.used with
    | true=>rfl
    | false=>have:=chst_free hst.o ef hu;rw[HCH.o]at this;cases this
   obtain⟨b2,o2,rfl,hb2,d0,d1,d2,d3,d4⟩:=(HF.o.below hb').fr ef;have HST:=Hd (chst_step hst.o ef hu h5);obtain⟨v4,w4,hrun,hown4,hg4,_⟩:=run_append_i (w.heap.size+1) wr _ pre.length (ints pre) (k:Int) HOWN.o (ints_length pre) (by omega) (by omega);have hb4:=bG (bA hb' (o:=.cells #[.int .i64 (k:Int)] 3)) hg4 (fun x hx=>by have:=own_block HOWN.o x hx;omega);have hne:∀k,k≤w.heap.size→some k≠Value.ownBlock (.slice Ao pre.length co):=fun k hk e=>by have:=own_block HOWN.o k e.symm;omega
   have hd4:w4.cell? ⟨b2,o2+k*5+4,none⟩=some (.int .i64 f.n):=hg4.cell (a:=⟨b2,o2+k*5+4,none⟩) (((bA (bR (w:=wr))).cell (p:=⟨b2,o2+k*5+4,none⟩) (by have:=hb'.size;show b2<_;omega)).trans d4) (hne b2 (by have:=hb'.size;omega));have hbox4:=own_other (HBOX.o.alloc (o:=.cells #[.int .i64 (k:Int)] 3)) hg4 (hne _ (Nat.le_refl _));rw[show ints pre++[(k:Int)]=ints (pre++[k])by rw[ints_append];rfl]at hown4;obtain⟨A4,c4,rfl,_,_,_⟩:=own_rd hown4;have y1:=hbox4.cell_ 1 (v:=.slice (some ⟨b2,o2,none⟩) t.fs.length cf) rfl;have HB4:=Hd hbox4;have HO4:=Hd hown4;have hk0:(0:Int)≤(k:Int):=by omega
   clear hown4 hbox4 hg4 hne ef hu d0 d1 d2 d3 d4
   go_wp2_with (at_builtin;refine wpList_append_run _ rfl (.tmp 20) (.tmp 22) 23 rfl _ _ _ _ rfl rfl hrun ?_)
   go_roundw;case rel=>exact⟨pre++[k],f.n,rfl,by simp;omega,HST,by simpa using HO4.o,HB4.o,hb4⟩
   case measure=>simp[lenV];omega
def fpI(t:Tab)(s p:Int):Int:=if fOK t s p=true then fndI t.fs s p else 0
theorem FindPage_any (vb vf:Value) (t:Tab) (s p:Int) (w:World) (hT:TaR w vb vf t) (hfree:Free w):
    Calls Tryz.prog 16 #[.agg #[vb,vf],.agg #[.int .i64 s,.int .i64 p]] w (Post2 fun v w'=>∃n:Int,v=.tuple #[.int .i64 (fpI t s p),.int .i64 n,.bool (fOK t s p)]∧Below w.heap.size w w'):=by
  have HT:=Hd hT;have HF:=Hd hfree;obtain⟨Ab,cb,rfl,hbc,hbm,hB⟩:=hT.b;obtain⟨Af,cf,rfl,hfc,hfm,hFs⟩:=hT.f;clear hB hFs hfree;obtain⟨W0,hW,hbx,hky,hb0,hs0⟩:=box2 w #[.slice Ab t.bs.length cb,.slice Af t.fs.length cf] 26 #[.int .i64 s,.int .i64 p] 54;have q0:=hbx.cell_ 0 (v:=.slice Ab t.bs.length cb) rfl;have q1:=hbx.cell_ 1 (v:=.slice Af t.fs.length cf) rfl;have HX0:=Hd hbx;have HK0:=Hd hky;have HB0:=Hd hb0;clear hbx hky hb0
  go_enter Tryz.func16,Tryz.ntmps16
  go_wp2_with fail
  refine(TableValid_any _ _ t W0 (HT.o.now HB0.o) (HF.o.now HB0.o)).mono ?_;rintro e w1 ⟨rfl,hb1⟩;clear q0 q1;have HX1:=Hd (HX0.o.below hb1);have HK1:=Hd (HK0.o.below hb1);have HB1:=Hd (bT HB0.o hb1);clear hb1 HX0 HK0 HB0
  cases htv:tv t with
  | false=>
    have HE:Hi (fOK t s p=false):=by show _=_;unfold fOK;rw[htv];rfl
    have HI:Hi (fpI t s p=0):=by show _=_;unfold fpI;rw[if_neg (by rw[HE.o];decide)]
    go_wp2;refine bodyPost_ret (v:=.tuple #[.int .i64 (fpI t s p),.int .i64 0,.bool (fOK t s p)]) (by simp[results,Tryz.results16,go_sem,HE.o,HI.o]) rfl ⟨_,rfl,_,rfl,HB1.o⟩
  | true=>
    have k0:=HK1.c 0 (.int .i64 s) rfl;have k1:=HK1.c 1 (.int .i64 p) rfl;go_wp2_with fail
    refine(keyValid_any s p w1).mono ?_;rintro e w2 ⟨rfl,hb2⟩;clear k0 k1;have HX2:=Hd (HX1.o.below hb2);have HK2:=Hd (HK1.o.below hb2);have HB2:=Hd (bT HB1.o hb2);clear hb2 HX1 HK1 HB1
    cases hk:kval (s,p)with
    | false=>
      have HE:Hi (fOK t s p=false):=by show _=_;unfold fOK;rw[htv,hk];rfl
      have HI:Hi (fpI t s p=0):=by show _=_;unfold fpI;rw[if_neg (by rw[HE.o];decide)]
      go_wp2;refine bodyPost_ret (v:=.tuple #[.int .i64 (fpI t s p),.int .i64 0,.bool (fOK t s p)]) (by simp[results,Tryz.results16,go_sem,HE.o,HI.o]) rfl ⟨_,rfl,_,rfl,HB2.o⟩
    | true =>
      obtain⟨⟨_,hfl,hb1',hbl⟩,_⟩:=tv_parts htv;obtain⟨ch,hch,_⟩:=fnd_chain htv hk;obtain⟨hbk,hbe⟩:=bkt_in hk hb1'
      have hcl:=(show ch.length≤t.fs.length from by
        obtain⟨x,_,ec⟩:=bch_some hch
        exact chn_len ec)
      have HH:=Hd (fun W=>post2_of (hash_any s p t.bs.length W hk ⟨by omega,by omega⟩));have HC:=Hd (fun W (h:TaR W (.slice Ab t.bs.length cb) (.slice Af t.fs.length cf) t)=>chain_any (.slice Ab t.bs.length cb) (.slice Af t.fs.length cf) t (bkt t s p) ch W h hbk (by omega) hch);have q0:=HX2.c 0 (.slice Ab t.bs.length cb) rfl;have q1:=HX2.c 1 (.slice Af t.fs.length cf) rfl;have k0:=HK2.c 0 (.int .i64 s) rfl;have k1:=HK2.c 1 (.int .i64 p) rfl;go_wp2
      go_region_held_law (fun w'=>w'.cell? ⟨w.heap.size,0,none⟩=some (.slice Ab t.bs.length cb)∧w'.cell? ⟨w.heap.size,1,none⟩=some (.slice Af t.fs.length cf)∧w'.cell? ⟨w.heap.size+1,0,none⟩=some (.int .i64 s)∧w'.cell? ⟨w.heap.size+1,1,none⟩=some (.int .i64 p)) (go_keep) (first
        | (go_at_call 59
           refine(HH.o _).mono ?_;rintro _ w3 ⟨_,rfl,rfl,hb3⟩;rw[hbe];have HB3:=Hd (bT (bD HB2.o) hb3);have hx3:=HX2.o.drew.below hb3;have hk3:=HK2.o.drew.below hb3;have d0:=hx3.cell_ 0 (v:=.slice Ab t.bs.length cb) rfl;have d1:=hx3.cell_ 1 (v:=.slice Af t.fs.length cf) rfl;have d2:=hk3.cell_ 0 (v:=.int .i64 s) rfl;have d3:=hk3.cell_ 1 (v:=.int .i64 p) rfl;have HX3:=Hd hx3;have HK3:=Hd hk3
           clear hx3 hk3 hb3)
        | (go_at_call 58
           refine(HC.o _ (HT.o.now HB3.o)).mono ?_;rintro _ w4 ⟨_,rfl,hsv,hb4⟩;have HB4:=Hd (bT HB3.o hb4);have hx4:=HX3.o.below hb4;have hk4:=HK3.o.below hb4;have e0:=hx4.cell_ 0 (v:=.slice Ab t.bs.length cb) rfl;have e1:=hx4.cell_ 1 (v:=.slice Af t.fs.length cf) rfl;have e2:=hk4.cell_ 0 (v:=.int .i64 s) rfl;have e3:=hk4.cell_ 1 (v:=.int .i64 p) rfl;have HX4:=Hd hx4;have HK4:=Hd hk4;obtain⟨Al,cl,rfl,hlc,hlm,hL⟩:=hsv;have HL:=Hd hL;rw[ints_length]at*
           clear hx4 hk4 hb4 hL d0 d1 d2 d3))
      all_goals
        go_wp2;clear e0 e1 e2 e3;go_loopw [27] (fun u wi=>∃r:Nat,r≤ch.length∧u=.int .i64 r∧Hi (∀(m j:Nat) (f:Fr),m<r→ch[m]?=some j→t.fs[j]?=some f→¬(f.s,f.p)=(s,p))∧Below w4.heap.size w4 wi) (fun u _=>ch.length-(intOf u).toNat)
        case atStart=>exact⟨0,by omega,rfl,(fun m j f h=>absurd h (by omega)),bR⟩
        case round=>
          obtain⟨r,hr,rfl,hacc,hbi⟩:=hrel;by_cases hlr:r<ch.length
          · obtain⟨j,ej⟩:∃j,ch[r]?=some j:=⟨_,List.getElem?_eq_getElem hlr⟩
            obtain⟨f,ef,huf⟩:=bch_mem hch j (List.mem_of_getElem? ej);obtain⟨hjl,_⟩:=List.getElem?_eq_some_iff.1 ef;obtain⟨b5,o5,hAl,hb5,y0⟩:=(HL.o.now (Nat.le_refl _) hbi).i1 (ints_get ej);obtain⟨b4,o4,hAf,hb4,x0,x1,x2,x3,x4⟩:=((HT.o.now (bT HB4.o hbi)).fsl).fr ef;subst hAl hAf;have z1:=xcell (w:=wr) ((HX4.o.below hbi).cell_ 1 (v:=.slice (some ⟨b4,o4,none⟩) t.fs.length cf) rfl) (HX4.o.below hbi).lt;have z2:=xcell (w:=wr) ((HK4.o.below hbi).cell_ 0 (v:=.int .i64 s) rfl) (HK4.o.below hbi).lt;have z3:=xcell (w:=wr) ((HK4.o.below hbi).cell_ 1 (v:=.int .i64 p) rfl) (HK4.o.below hbi).lt;have z5:=xcell (w:=wr) x1 (by show b4<_;omega);have z6:=xcell (w:=wr) x2 (by show b4<_;omega);have hj2:(j:Int)<(t.fs.length:Int):=by omega
            have he:=fun W=>eql_key f.s f.p s p W
            have hi1:((ints ch).length:Int)=(ch.length:Int):=by rw[ints_length]
            cases hq1:keq f.s f.p s p with
            | true=>
              rw[hq1]at he;have hfn:=chain_some htv hk hch ej ef (keq_iff.1 hq1);have HE:Hi (fOK t s p=true):=by show _=_;unfold fOK;rw[htv,hk,hfn];simp
              have HI:Hi (fpI t s p=(j:Int)):=by show _=_;unfold fpI;rw[if_pos HE.o,hfn]
              clear ej ef huf x0 x1 x2 x3 x4 hfn;go_wp2;refine wp_region_ext (by kernel_rfl) (by kernel_rfl) ?_;repeat (go_big_quiet_step (fail))
              refine wpQuiet_nil ?_;intro _ hw';obtain⟨⟨wq,hq⟩,hw''⟩:=hw';subst hw'';try dsimp only
              go_wp2;refine bodyPost_ret (v:=.tuple #[.int .i64 (fpI t s p),.int .i64 ((r:Int)+1),.bool (fOK t s p)]) (by simp[results,Tryz.results16,go_sem,HE.o,HI.o]) rfl ⟨_,rfl,_,rfl,bT HB4.o (bT hbi hq)⟩
            | false=>
              rw[hq1]at he
              have HACC:Hi (∀(m j:Nat) (f:Fr),m<r+1→ch[m]?=some j→t.fs[j]?=some f→¬(f.s,f.p)=(s,p)):=fun m j' f' hm e1 e2=>by
                rcases Nat.lt_or_ge m r with h | h
                · exact hacc.o m j' f' h e1 e2
                · obtain rfl:m=r:=by omega
                  rw[ej]at e1;injection e1 with e1;subst e1;rw[ef]at e2;injection e2 with e2;subst e2;exact keq_no hq1
              clear ej ef huf x0 x1 x2 x3 x4;go_wp2;refine wp_region_ext (by kernel_rfl) (by kernel_rfl) ?_;repeat (go_big_quiet_step (fail))
              refine wpQuiet_nil ?_;intro _ hw';obtain⟨⟨wq,hq⟩,hw''⟩:=hw';subst hw'';try dsimp only
              go_wp2;go_roundw;case rel=>exact⟨r+1,by omega,by go_num,HACC,bT hbi hq⟩
              case measure=>simp[intOf];omega
          · obtain rfl:r=ch.length:=by omega
            have hfn:fndI t.fs s p=-1:=chain_none htv hk hch (fun m j f e1 e2=>hacc.o m j f (List.getElem?_eq_some_iff.1 e1).1 e1 e2);have HE:Hi (fOK t s p=false):=by show _=_;unfold fOK;rw[hfn];simp
            have HI:Hi (fpI t s p=0):=by show _=_;unfold fpI;rw[if_neg (by rw[HE.o];decide)]
            clear hfn;go_wp2;refine bodyPost_ret (v:=.tuple #[.int .i64 (fpI t s p),.int .i64 (ch.length:Int),.bool (fOK t s p)]) (by simp[results,Tryz.results16,go_sem,HE.o,HI.o]) rfl ⟨_,rfl,_,rfl,bT HB4.o hbi⟩
end Go.Proofs.YtfbnokjdkhcgoaaGreatDoor
namespace Go.Proofs.YtfbnokjdkhcgoaaGreatDoor.lUseOthers
open Go.RowKit
theorem walk (a0:Option Addr) (len0 cap0:Nat) (z0:List Int) (w:World) (w0:IsRow .u8 w a0 len0 cap0 z0) (hfree:Free w):
    Calls Tryz.prog 5 #[.slice a0 len0 cap0] w fun e w'=>e=.returned (.bool true)∧Below w.heap.size w w':=by
  by_cases hbig:1048576<len0
  · go_enter Tryz.func5,Tryz.ntmps5
    go_wp2;go_ret;exact⟨rfl,by repeat first | exact bR | refine bA ?_⟩
  have hcap:=row_cap w0;have hby:=Hd (row_bytes w0);have HF:=Hd hfree;clear w0 hfree
  go_enter Tryz.func5,Tryz.ntmps5
  go_wp2_with fail
  refine(DrawUsePage_g a0 len0 cap0 w hby.o hcap (by omega)).mono ?_;rintro e w1 ⟨_,rfl,M,v1,v2,v3,v4,v5,p,n,r,rfl,hM,hz,hsp,hsn,hsr,hb1⟩;obtain⟨A1,c1,rfl,_⟩:=hM.m.t.b;obtain⟨A2,c2,rfl,_⟩:=hM.m.t.f;obtain⟨A3,c3,rfl,_⟩:=hM.m.l;obtain⟨A4,c4,rfl,_⟩:=hM.m.o;obtain⟨A5,c5,rfl,_⟩:=id hM.k;obtain⟨w2,hW2,hx,hb2,hs2⟩:=box1 w1 #[.slice A1 M.m.t.bs.length c1,.slice A2 M.m.t.fs.length c2,.slice A3 M.m.c.ls.length c3,.int .i64 M.m.c.hand,.int .i64 M.m.g.count,.int .i64 M.m.g.next,.int .i64 M.m.g.round,.slice A4 M.m.g.os.length c4,.int .i64 M.m.sp,.slice A5 M.mk.length c5,.int .i64 M.h] 37;have HM:=Hd (hM.now hb2);have HX:=Hd hx;have HB:=Hd (bT hb1 hb2);have HZM:=Hd hz;have hs1:=hb1.size;clear hM hx hb1 hb2 hz;generalize hmb:w1.heap.size=mb at*
  obtain⟨V,hV⟩:∃V,useV M p n r=V:=⟨_,rfl⟩
  obtain⟨F,hFq⟩:∃F,useF M p n r=F:=⟨_,rfl⟩
  obtain⟨R,hR⟩:∃R,useR M p n r=R:=⟨_,rfl⟩
  obtain⟨O,hO⟩:∃O,useO M p n r=O:=⟨_,rfl⟩
  have KI:Hi (∀W,Below w2.heap.size w2 W→Calls Tryz.prog 12 #[.agg #[.slice A1 M.m.t.bs.length c1,.slice A2 M.m.t.fs.length c2,.slice A3 M.m.c.ls.length c3,.int .i64 M.m.c.hand,.int .i64 M.m.g.count,.int .i64 M.m.g.next,.int .i64 M.m.g.round,.slice A4 M.m.g.os.length c4,.int .i64 M.m.sp,.slice A5 M.mk.length c5,.int .i64 M.h],.int .i64 p,.int .i64 n,.int .i64 r] W (Post2 fun v w'=>∃v1 v2 v3 v4 v5,v=.tuple #[.agg #[v1,v2,v3,.int .i64 V.m.c.hand,.int .i64 V.m.g.count,.int .i64 V.m.g.next,.int .i64 V.m.g.round,v4,.int .i64 V.m.sp,v5,.int .i64 V.h],.int .i64 F,.int .i64 R,.bool O]∧MeM W.heap.size w' v1 v2 v3 v4 v5 V∧Below W.heap.size W w')):=by
    intro W hb;have hMr:=(HM.o.now hb).r;subst hV hFq hR hO;exact UsePage_any _ _ _ _ _ M p n r W hMr (HF.o.now (bT HB.o hb))
  have KS:Hi (∀W,Below w2.heap.size w2 W→Calls Tryz.prog 14 #[.agg #[.slice A1 M.m.t.bs.length c1,.slice A2 M.m.t.fs.length c2,.slice A3 M.m.c.ls.length c3,.int .i64 M.m.c.hand,.int .i64 M.m.g.count,.int .i64 M.m.g.next,.int .i64 M.m.g.round,.slice A4 M.m.g.os.length c4,.int .i64 M.m.sp,.slice A5 M.mk.length c5,.int .i64 M.h],.int .i64 p,.int .i64 n,.int .i64 r] W (Post2 fun v w'=>∃v1 v2 v3 v4 v5,v=.tuple #[.agg #[v1,v2,v3,.int .i64 V.m.c.hand,.int .i64 V.m.g.count,.int .i64 V.m.g.next,.int .i64 V.m.g.round,v4,.int .i64 V.m.sp,v5,.int .i64 V.h],.int .i64 F,.int .i64 R,.bool O]∧MeM W.heap.size w' v1 v2 v3 v4 v5 V∧Below W.heap.size W w')):=by
    intro W hb;have hMr:=(HM.o.now hb).r;subst hV hFq hR hO;exact sUsePage_any _ _ _ _ _ M p n r W hMr
  obtain⟨q0a,q1a,q2a,q3a,q4a,q5a,q6a,q7a,q8a,q9a,q10a⟩:=c11 HX.o;go_wp2_with fail
  try rw[hW2]
  refine(KI.o w2 bR).mono ?_;rintro e w3 ⟨_,rfl,u1,u2,u3,u4,u5,rfl,hM3,hb3⟩;clear hW2 KI;clear q0a q1a q2a q3a q4a q5a q6a q7a q8a q9a q10a;obtain⟨B1,d1,rfl,_⟩:=hM3.m.t.b;obtain⟨B2,d2,rfl,_⟩:=hM3.m.t.f;obtain⟨B3,d3,rfl,_⟩:=hM3.m.l;obtain⟨B4,d4,rfl,_⟩:=hM3.m.o;obtain⟨B5,d5,rfl,_⟩:=id hM3.k;obtain⟨w4,hW4,hy,hb4,hs4⟩:=box1 w3 #[.slice B1 V.m.t.bs.length d1,.slice B2 V.m.t.fs.length d2,.slice B3 V.m.c.ls.length d3,.int .i64 V.m.c.hand,.int .i64 V.m.g.count,.int .i64 V.m.g.next,.int .i64 V.m.g.round,.slice B4 V.m.g.os.length d4,.int .i64 V.m.sp,.slice B5 V.mk.length d5,.int .i64 V.h] 37;have hbx:=bT hb3 hb4;try replace HM:=Hd (HM.o.now hbx)
  try replace HX:=Hd (HX.o.below hbx)
  try replace HK:=Hd (HK.o.below hbx)
  try replace HV:=Hd (HV.o.now hbx)
  try replace HY:=Hd (HY.o.below hbx)
  try replace HU:=Hd (HU.o.now hbx)
  try replace HZ:=Hd (HZ.o.below hbx)
  try replace HL:=Hd (HL.o.now hbx)
  try replace HE:=Hd (HE.o.now hbx)
  replace HB:=Hd (bT HB.o hbx);have HV:=Hd (hM3.now hb4);have HY:=Hd hy;have hs3:=hb3.size;clear hM3 hy hb4;obtain⟨q0a,q1a,q2a,q3a,q4a,q5a,q6a,q7a,q8a,q9a,q10a⟩:=c11 HX.o;go_wp2_with fail
  try rw[hW4]
  refine(KS.o w4 hbx).mono ?_;rintro e w5 ⟨_,rfl,u1,u2,u3,u4,u5,rfl,hM5,hb5⟩;clear hbx hW4 KS hb3;clear q0a q1a q2a q3a q4a q5a q6a q7a q8a q9a q10a;obtain⟨C1,e1,rfl,_⟩:=hM5.m.t.b;obtain⟨C2,e2,rfl,_⟩:=hM5.m.t.f;obtain⟨C3,e3,rfl,_⟩:=hM5.m.l;obtain⟨C4,e4,rfl,_⟩:=hM5.m.o;obtain⟨C5,e5,rfl,_⟩:=id hM5.k;obtain⟨w6,hW6,hy,hb6,hs6⟩:=box1 w5 #[.slice C1 V.m.t.bs.length e1,.slice C2 V.m.t.fs.length e2,.slice C3 V.m.c.ls.length e3,.int .i64 V.m.c.hand,.int .i64 V.m.g.count,.int .i64 V.m.g.next,.int .i64 V.m.g.round,.slice C4 V.m.g.os.length e4,.int .i64 V.m.sp,.slice C5 V.mk.length e5,.int .i64 V.h] 37;have hbx:=bT hb5 hb6;try replace HM:=Hd (HM.o.now hbx)
  try replace HX:=Hd (HX.o.below hbx)
  try replace HK:=Hd (HK.o.below hbx)
  try replace HV:=Hd (HV.o.now hbx)
  try replace HY:=Hd (HY.o.below hbx)
  try replace HU:=Hd (HU.o.now hbx)
  try replace HZ:=Hd (HZ.o.below hbx)
  try replace HL:=Hd (HL.o.now hbx)
  try replace HE:=Hd (HE.o.now hbx)
  replace HB:=Hd (bT HB.o hbx);have HU:=Hd (hM5.now hb6);have HZ:=Hd hy;have hs5:=hb5.size;clear hM5 hy hb6;obtain⟨q0a,q1a,q2a,q3a,q4a,q5a,q6a,q7a,q8a,q9a,q10a⟩:=c11 HY.o;obtain⟨q0b,q1b,q2b,q3b,q4b,q5b,q6b,q7b,q8b,q9b,q10b⟩:=c11 HZ.o;clear hb5 hbx;go_wp2_with fail
  try rw[hW6]
  refine(MemorySame_same _ _ _ _ _ _ _ _ _ _ V w6 HV.o.r HU.o.r).mono ?_;rintro e w7 ⟨rfl,hb7⟩;clear hW6;clear q0a q1a q2a q3a q4a q5a q6a q7a q8a q9a q10a;clear q0b q1b q2b q3b q4b q5b q6b q7b q8b q9b q10b;try replace HM:=Hd (HM.o.now hb7)
  try replace HX:=Hd (HX.o.below hb7)
  try replace HK:=Hd (HK.o.below hb7)
  try replace HV:=Hd (HV.o.now hb7)
  try replace HY:=Hd (HY.o.below hb7)
  try replace HU:=Hd (HU.o.now hb7)
  try replace HZ:=Hd (HZ.o.below hb7)
  try replace HL:=Hd (HL.o.now hb7)
  try replace HE:=Hd (HE.o.now hb7)
  replace HB:=Hd (bT HB.o hb7);clear hb7
  cases O with
  | false=>
    obtain⟨q0a,q1a,q2a,q3a,q4a,q5a,q6a,q7a,q8a,q9a,q10a⟩:=c11 HY.o;obtain⟨q0b,q1b,q2b,q3b,q4b,q5b,q6b,q7b,q8b,q9b,q10b⟩:=c11 HZ.o;go_wp2_with fail
    refine(MemorySame_same _ _ _ _ _ _ _ _ _ _ V _ HV.o.r HU.o.r).mono ?_;rintro e w8 ⟨rfl,hb8⟩;try replace HM:=Hd (HM.o.now hb8)
    try replace HX:=Hd (HX.o.below hb8)
    try replace HK:=Hd (HK.o.below hb8)
    try replace HV:=Hd (HV.o.now hb8)
    try replace HY:=Hd (HY.o.below hb8)
    try replace HU:=Hd (HU.o.now hb8)
    try replace HZ:=Hd (HZ.o.below hb8)
    try replace HL:=Hd (HL.o.now hb8)
    try replace HE:=Hd (HE.o.now hb8)
    replace HB:=Hd (bT HB.o hb8);go_wp2;go_ret;exact⟨rfl,HB.o⟩
  | true=>
    have HLS:Hi ((kys M.m.t).countP (lst V.m.t)≤1∧(ffO M=true→(kys M.m.t).countP (lst V.m.t)=0)):=by
      show _∧_;rw[←hV];exact use_lost hO
    have hkl:(kys M.m.t).length≤1048576:=by have:=kys_len M.m.t;have:=HZM.o.1.f;omega
    clear hV hFq hR hO;obtain⟨q0a,q1a,q2a,q3a,q4a,q5a,q6a,q7a,q8a,q9a,q10a⟩:=c11 HX.o;go_wp2_with fail
    refine(FreeFrame_any _ _ _ _ _ M w7 HM.o.r (HF.o.now HB.o)).mono ?_;rintro e w8 ⟨rfl,hb8⟩;clear q0a q1a q2a q3a q4a q5a q6a q7a q8a q9a q10a;try replace HM:=Hd (HM.o.now hb8)
    try replace HX:=Hd (HX.o.below hb8)
    try replace HK:=Hd (HK.o.below hb8)
    try replace HV:=Hd (HV.o.now hb8)
    try replace HY:=Hd (HY.o.below hb8)
    try replace HU:=Hd (HU.o.now hb8)
    try replace HZ:=Hd (HZ.o.below hb8)
    try replace HL:=Hd (HL.o.now hb8)
    try replace HE:=Hd (HE.o.now hb8)
    replace HB:=Hd (bT HB.o hb8);clear hb8;have x0:=HX.c 0 (.slice A1 M.m.t.bs.length c1) rfl;have x1:=HX.c 1 (.slice A2 M.m.t.fs.length c2) rfl;go_wp2_with fail
    refine(KeysOf_imp _ _ M.m.t w8 HM.o.r.m.t (HF.o.now HB.o)).mono ?_;rintro e w9 ⟨_,rfl,K,kc,rfl,hkc,⟨hks,_⟩,hb9⟩;have HKS:=Hd hks;try replace HM:=Hd (HM.o.now hb9)
    try replace HX:=Hd (HX.o.below hb9)
    try replace HK:=Hd (HK.o.below hb9)
    try replace HV:=Hd (HV.o.now hb9)
    try replace HY:=Hd (HY.o.below hb9)
    try replace HU:=Hd (HU.o.now hb9)
    try replace HZ:=Hd (HZ.o.below hb9)
    try replace HL:=Hd (HL.o.now hb9)
    try replace HE:=Hd (HE.o.now hb9)
    replace HB:=Hd (bT HB.o hb9);clear hb9 hks x0 x1;go_wp2;go_loopw [17,19] (fun g u wr=>∃k z:Nat,k≤(kys M.m.t).length∧u=.int .i64 k∧g=.int .i64 z∧z≤k∧Hi (z=((kys M.m.t).take k).countP (lst V.m.t))∧Below w9.heap.size w9 wr) (fun _ u _=>(kys M.m.t).length-(intOf u).toNat)
    case atStart=>exact⟨0,0,by omega,rfl,rfl,by omega,rfl,bR⟩
    case round=>
      obtain⟨k,z,hk,rfl,rfl,hzk,hz,hbr⟩:=hrel;have HZ0:=Hd hz;clear hz;by_cases hlt:k<(kys M.m.t).length
      · obtain⟨bq,oq,x,y,hKe,hbq2,y0,y1,e1⟩:=(HKS.o.now (Nat.le_refl _) hbr).key2 hlt
        subst hKe;have HCT:=Hd (cnt_take e1 (lst V.m.t));have HKW:=Hd (HKS.o.now (Nat.le_refl _) hbr);clear e1;try replace HM:=Hd (HM.o.now hbr)
        try replace HX:=Hd (HX.o.below hbr)
        try replace HK:=Hd (HK.o.below hbr)
        try replace HV:=Hd (HV.o.now hbr)
        try replace HY:=Hd (HY.o.below hbr)
        try replace HU:=Hd (HU.o.now hbr)
        try replace HZ:=Hd (HZ.o.below hbr)
        try replace HL:=Hd (HL.o.now hbr)
        try replace HE:=Hd (HE.o.now hbr)
        replace HB:=Hd (bT HB.o hbr);have t0:=HY.c 0 (.slice B1 V.m.t.bs.length d1) rfl;have t1:=HY.c 1 (.slice B2 V.m.t.fs.length d2) rfl;have HFP:=Hd (fun W (h:TaR W (.slice B1 V.m.t.bs.length d1) (.slice B2 V.m.t.fs.length d2) V.m.t) (hf:Free W)=>FindPage_any _ _ V.m.t x y W h hf);go_wp2_with fail
        go_region_held_law (fun w'=>w'.cell? ⟨w3.heap.size,0,none⟩=some (.slice B1 V.m.t.bs.length d1)∧w'.cell? ⟨w3.heap.size,1,none⟩=some (.slice B2 V.m.t.fs.length d2)∧w'.cell? ⟨bq,oq+k*2,none⟩=some (.int .i64 x)∧w'.cell? ⟨bq,oq+k*2+1,none⟩=some (.int .i64 y)) (go_keep) (first
          | (go_at_call 16
             refine(HFP.o _ (HV.o.now (bD bR)).r.m.t (HF.o.now (bT HB.o (bD bR)))).mono ?_;rintro _ w10 ⟨_,rfl,nst,rfl,hb10⟩;have HB10:=Hd (bT (bD (bR (w:=wr))) hb10);have hy10:=HY.o.below HB10.o;have t0b:=hy10.cell_ 0 (v:=.slice B1 V.m.t.bs.length d1) rfl;have t1b:=hy10.cell_ 1 (v:=.slice B2 V.m.t.fs.length d2) rfl;have y0b:=(HB10.o.cell (p:=⟨bq,oq+k*2,none⟩) (by omega)).trans y0;have y1b:=(HB10.o.cell (p:=⟨bq,oq+k*2+1,none⟩) (by omega)).trans y1
             clear hy10 hb10))
        all_goals
          clear t0b t1b y0b y1b t0 t1 y0 y1
          cases hfo:fOK V.m.t x y with
          | false=>
            have hl:lst V.m.t (x,y)=true:=by unfold lst;rw[hfo];rfl
            have HCN:Hi (z+1=((kys M.m.t).take (k+1)).countP (lst V.m.t)):=by show _=_;rw[HCT.o,if_pos hl,HZ0.o]
            clear hfo hl;go_wp2;go_roundw;case rel=>exact⟨k+1,z+1,by omega,by go_num,by go_num,by omega,HCN,bT hbr HB10.o⟩
            case measure=>simp[intOf];omega
          | true=>
            have hl:¬lst V.m.t (x,y)=true:=by unfold lst;rw[hfo];decide
            have HCN:Hi (z=((kys M.m.t).take (k+1)).countP (lst V.m.t)):=by show _=_;rw[HCT.o,if_neg hl,HZ0.o,Nat.add_zero]
            clear hfo hl;go_wp2;go_roundw;case rel=>exact⟨k+1,z,by omega,by go_num,rfl,by omega,HCN,bT hbr HB10.o⟩
            case measure=>simp[intOf];omega
      · obtain rfl:k=(kys M.m.t).length:=by omega
        rw[List.take_length]at HZ0;have hz1:z≤1:=by rw[HZ0.o];exact HLS.o.1
        have hz0:ffO M=true→z=0:=by rw[HZ0.o];exact HLS.o.2
        have hB:=bT HB.o hbr
        cases hff:ffO M with
        | true=>
          obtain rfl:z=0:=hz0 hff;clear hz0 hz1 hzk hff HZ0 HLS;go_wp2;go_ret;exact⟨rfl,by first | exact hB | exact bD hB⟩
        | false=>
          clear hz0 hzk hff HZ0 HLS;have hz2:(z:Int)≤1:=by omega
          go_wp2;go_ret;exact⟨by rfl,by first | exact hB | exact bD hB⟩
end Go.Proofs.YtfbnokjdkhcgoaaGreatDoor.lUseOthers
namespace Go.Proofs.YtfbnokjdkhcgoaaGreatDoor.lUseOthers
open Go.ChangeShapes Go.WideShapes Go.ChangeAt Go.RowKit Go.Joins
set_option maxRecDepth 100000 in
theorem lifted(os:Os)(started:os.Started)(H:Type)(enc:TypeId×Value→H):
  ReturnsInHanded {} Tryz.checked os 5 .any (fun w args=>(Rows.fnUseOthersSpec.pre enc Tryz.prog Tryz.f5 Rows.fnUseOthersRow.domain false w args∧laidMet Tryz.prog [("loop.example/invertedpages/impl.free",Rows.laid_loop_example_invertedpages_impl_free)] w)∧sizedMet enc Tryz.prog Tryz.f5 (OpenSpec.ofChange Rows.fnUseOthersSpec) false w args)
   (Rows.fnUseOthersSpec.post enc Tryz.prog Tryz.f5 false true false false):=by
 refine returnsInHanded_of_change_and (C:=Tryz.checked) (X:=fun w _=>laidMet Tryz.prog [("loop.example/invertedpages/impl.free",Rows.laid_loop_example_invertedpages_impl_free)] w) (fun _ _ _ hh h=>h.of_heap hh) own_ started (by kernel_rfl) Tryz.func5
  (ChangeSpec.witness_at (enc:=enc) (C:=Tryz.checked) (os:=os) (X:=fun w _=>laidMet Tryz.prog [("loop.example/invertedpages/impl.free",Rows.laid_loop_example_invertedpages_impl_free)] w) false (laidWorld os) #[.slice none 0 0] 8 rfl (by kernel_rfl) (by kernel_rfl) (by kernel_rfl) (by kernel_rfl) (by kernel_rfl) (laid_met os _)) ?_
 intro W base args ds gs before hval0 hW hcnd _ hL _;have hval:∀(j:Nat) t v,Tryz.f5.params[j]?=some t→args[j]?=some v→Value.okWide Tryz.prog W .any base t v:=hval0;have hW':=hW;obtain⟨p,q,hA0,hV0,rfl,hfz,hnd⟩:=hW;have hA:DataW.TrodAll enc Tryz.prog W 0 (fun _=>true) true Tryz.f5.params.toList args.toList ds p:=hA0;have hV:DataW.TrodVars enc Tryz.prog W (fun _=>true) ["loop.example/invertedpages/impl.free"] gs q:=hV0;rw[Tryz.params5]at hA hval;obtain⟨v0,vs0,d0,ds0,p0,q0,hargs,rfl,rfl,h0,r0⟩:=trodAll_cons hA;obtain⟨rfl,rfl,rfl⟩:=trodAll_nil r0;obtain rfl:args=#[v0]:=by cases args;simp_all
 obtain⟨hvar0,hfree⟩:=free_of_laid hL;obtain⟨g,t,cs,fuel,d,p',rfl,hg,ht,hvar,hd,rfl⟩:=trodVars_one hV;obtain rfl:=Option.some.inj (free_named.symm.trans hg);obtain rfl:=Option.some.inj (free_type.symm.trans ht);obtain rfl:cs=freeCells:=Option.some.inj (hvar.symm.trans hvar0);have k0:=h0;have lt0:∀x∈p0,x.block<W.heap.size:=by obtain⟨m,hm⟩:=k0;exact DataW.trod_lt m _ _ _ hm
 have kd:DataW.Trod enc Tryz.prog W 0 (fun _=>true) true 80 (.agg freeCells) d p':=⟨fuel,hd⟩
 have ltd:∀x∈p',x.block<W.heap.size:=DataW.trod_lt fuel _ _ _ hd;obtain⟨a0,len0,cap0,rfl⟩:=okWide_slice Tryz.underlying22 (hval 0 22 v0 rfl rfl)
 obtain⟨z0,w0⟩:∃zs,IsRow .u8 W a0 len0 cap0 zs:=by
  obtain⟨fuel,hf⟩:=h0
  rcases open_ints Tryz.underlying22 Tryz.underlying5 (by kernel_rfl) hf with⟨hcs,_⟩ | ⟨x,l,c,zs,hcs,_,hl,hm,hz,_,hcell,hwz⟩
  ·simp[Value.cells]at hcs;obtain⟨rfl,rfl,rfl⟩:=hcs;exact⟨[],.inl ⟨rfl,rfl,rfl,rfl⟩⟩
  ·simp[Value.cells]at hcs;obtain⟨rfl,rfl,rfl⟩:=hcs;exact⟨zs,.inr ⟨_,rfl,hl,hm,by simpa using hz,hcell,hwz⟩⟩
 clear hA0 hV0 hval0;refine(walk a0 len0 cap0 z0 W w0 hfree).mono fun e W' ⟨he,bel⟩=> ?_
 subst he;have hvar':=var_stays hg hvar bel (Nat.le_refl _);obtain⟨fuel',hd'⟩:=Below.trod laidOut (by kernel_rfl) (of_decide_eq_true (by kernel_rfl)) kd bel ltd;exact⟨_,rfl,_,_,_,[],_,_,hW',trodAll_mk1 (shut_bool Tryz.underlying4 _),(trodAll_cons_mk (Below.trod laidOut (by kernel_rfl) (of_decide_eq_true (by kernel_rfl)) k0 bel lt0) trodAll_mk0),⟨0,80,freeCells,fuel',_,_,hg,ht,hvar',hd',rfl,rfl⟩,bel.frame _,fun h=>by cases h⟩
theorem over:Rows.fnUseOthersRow.holds Tryz.pinned (OpenSpec.ofChange Rows.fnUseOthersSpec):=
 OpenClaim.holds_of_wide 5 Tryz.f5 rfl rfl rfl rfl rfl rfl rfl ⟨rfl,rfl,rfl,rfl,rfl⟩ rfl rfl rfl rfl rfl (by kernel_rfl) Tryz.func5 closed
  (of_decide_eq_true (by kernel_rfl)) (by unfold Func.isWrapper;rw[if_neg (of_decide_eq_false (by kernel_rfl))];exact⟨rfl,rfl⟩)
  (fun os started H enc _=>lifted os started H enc)
end Go.Proofs.YtfbnokjdkhcgoaaGreatDoor.lUseOthers
