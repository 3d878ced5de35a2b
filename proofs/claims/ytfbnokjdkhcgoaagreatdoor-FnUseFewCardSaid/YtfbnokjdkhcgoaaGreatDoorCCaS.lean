/- A part of the proofs of this seat. -/
import Derived.Test.YtfbnokjdkhcgoaaGreatDoorCCaP
set_option linter.unusedVariables false
set_option linter.unusedSimpArgs false
set_option maxRecDepth 1000000
set_option maxHeartbeats 16000000
namespace Go.Proofs.YtfbnokjdkhcgoaaGreatDoor
open Go.RowKit
theorem inR_no{n e:Int}(h:¬(0≤n∧n<e)):inR n e=false:=bool_ff fun hh=>h (inR_iff.1 hh)
theorem tagv_iff{n:Int}:tagv n=true↔-1≤n∧n<8:=by unfold tagv;rw[Bool.and_eq_true,decide_eq_true_eq,decide_eq_true_eq]
theorem tagv_no{n:Int}(h:¬(-1≤n∧n<8)):tagv n=false:=bool_ff fun hh=>h (tagv_iff.1 hh)
theorem l4Line_any(x:Ln)(w:World):Calls Tryz.prog 197 #[lnV x] w fun r w'=>r=.returned (.bool (lnok x))∧Below w.heap.size w w':=by
 obtain⟨v,t,p,f,r,wi⟩:=x
 cases v with
 | false=>
  have he:∀W,(binOp .eql 50 (.agg #[.bool false,.int .i64 t,.int .i64 p,.int .i64 f,.int .i64 r,.bool wi]) (.agg #[.bool false,.int .i64 0,.int .i64 0,.int .i64 0,.int .i64 0,.bool false])).run Tryz.prog W=.ok (.bool (lnok ⟨false,t,p,f,r,wi⟩)) W:=fun W=>eql_ln ⟨false,t,p,f,r,wi⟩ lnz W
  simp only[lnV];generalize lnok ⟨false,t,p,f,r,wi⟩=B at he⊢
  go_enter Tryz.func197,Tryz.ntmps197
  go_wp2;go_ret;exact⟨rfl,by repeat first | exact bR | refine bA ?_⟩
 | true=>
  have H:Hi (lnok ⟨true,t,p,f,r,wi⟩=(tagv t && inR p 256 && inR f 16 && inR r 8)):=rfl;simp only[lnV];by_cases g1:-1≤t
  case neg=>
   have h1:tagv t=false:=tagv_no (by omega)
   go_enter Tryz.func197,Tryz.ntmps197
   go_wp2_with (first | (go_at_call 48;refine(l1Page_any _ _).mono ?_;rintro e w' ⟨rfl,rfl⟩) | (go_at_call 49;refine(sRightsValid_any _ _).mono ?_;rintro e w' ⟨rfl,rfl⟩))
   go_ret;exact⟨by rw[H.o];simp[h1],by repeat first | exact bR | refine bA ?_⟩
  case pos=>
  by_cases g2:t<8
  case neg=>
   have h1:tagv t=false:=tagv_no (by omega)
   go_enter Tryz.func197,Tryz.ntmps197
   go_wp2_with (first | (go_at_call 48;refine(l1Page_any _ _).mono ?_;rintro e w' ⟨rfl,rfl⟩) | (go_at_call 49;refine(sRightsValid_any _ _).mono ?_;rintro e w' ⟨rfl,rfl⟩))
   go_ret;exact⟨by rw[H.o];simp[h1],by repeat first | exact bR | refine bA ?_⟩
  case pos=>
  have h1:tagv t=true:=tagv_iff.2 ⟨g1,g2⟩
  cases h2:inR p 256 with
  | false=>
   go_enter Tryz.func197,Tryz.ntmps197
   go_wp2_with (first | (go_at_call 48;refine(l1Page_any _ _).mono ?_;rintro e w' ⟨rfl,rfl⟩) | (go_at_call 49;refine(sRightsValid_any _ _).mono ?_;rintro e w' ⟨rfl,rfl⟩))
   go_ret;exact⟨by rw[H.o];simp[h1,h2],by repeat first | exact bR | refine bA ?_⟩
  | true=>
  by_cases g3:0≤f
  case neg=>
   have h3:inR f 16=false:=inR_no (by omega)
   go_enter Tryz.func197,Tryz.ntmps197
   go_wp2_with (first | (go_at_call 48;refine(l1Page_any _ _).mono ?_;rintro e w' ⟨rfl,rfl⟩) | (go_at_call 49;refine(sRightsValid_any _ _).mono ?_;rintro e w' ⟨rfl,rfl⟩))
   go_ret;exact⟨by rw[H.o];simp[h1,h2,h3],by repeat first | exact bR | refine bA ?_⟩
  case pos=>
  by_cases g4:f<16
  case neg=>
   have h3:inR f 16=false:=inR_no (by omega)
   go_enter Tryz.func197,Tryz.ntmps197
   go_wp2_with (first | (go_at_call 48;refine(l1Page_any _ _).mono ?_;rintro e w' ⟨rfl,rfl⟩) | (go_at_call 49;refine(sRightsValid_any _ _).mono ?_;rintro e w' ⟨rfl,rfl⟩))
   go_ret;exact⟨by rw[H.o];simp[h1,h2,h3],by repeat first | exact bR | refine bA ?_⟩
  case pos=>
  have h3:inR f 16=true:=inR_iff.2 ⟨g3,g4⟩
  go_enter Tryz.func197,Tryz.ntmps197
  go_wp2_with (first | (go_at_call 48;refine(l1Page_any _ _).mono ?_;rintro e w' ⟨rfl,rfl⟩) | (go_at_call 49;refine(sRightsValid_any _ _).mono ?_;rintro e w' ⟨rfl,rfl⟩))
  go_ret;exact⟨by rw[H.o];simp[h1,h2,h3],by repeat first | exact bR | refine bA ?_⟩
def nfree(ls:List Ln)(k:Nat):Nat:=(ls.take k).countP (fun x=>!x.w)
theorem nfree_step{ls:List Ln}{k:Nat}{x:Ln}(e:ls[k]?=some x):nfree ls (k+1)=nfree ls k+if x.w=true then 0 else 1:=by
 obtain⟨hlt,hx⟩:=List.getElem?_eq_some_iff.1 e;unfold nfree;rw[List.take_succ_eq_append_getElem hlt,hx,List.countP_append];cases hw:x.w<;>simp[hw]
theorem nfree_le(ls:List Ln)(k:Nat):nfree ls k≤k:=by
 unfold nfree;refine Nat.le_trans List.countP_le_length ?_;rw[List.length_take];omega
theorem nfree_all(ls:List Ln):decide (0<nfree ls ls.length)=ls.any (fun x=>!x.w):=by
 unfold nfree;rw[List.take_length]
 cases h:ls.any (fun x=>!x.w)with
 | true=>exact decide_eq_true (List.countP_pos_iff.2 (by simpa using h))
 | false=>
  refine decide_eq_false fun h2=> ?_
  rw[List.countP_pos_iff]at h2;obtain⟨a,ha,hb⟩:=h2;rw[List.any_eq_false]at h;exact h a ha hb
theorem sCacheValid_any (vl:Value) (c:Ca) (w:World) (hT:SlR lnE w vl c.ls):
  Calls Tryz.prog 131 #[.agg #[vl,.int .i64 c.hand]] w fun r w'=>r=.returned (.bool (cav c))∧Below w.heap.size w w':=by
 obtain⟨A,cc,rfl,hbc,hbm,hL⟩:=hT;have hfm2:c.ls.length≤9223372036854775807:=by unfold maxLen at hbm;omega
 have HL:=Hd hL;have hbx:=Own.new_ w 29 #[.slice A c.ls.length cc,.int .i64 c.hand];have hbz:Below w.heap.size w (w.alloc (.cells #[.slice A c.ls.length cc,.int .i64 c.hand] 29)):=bA bR;generalize hW:w.alloc (.cells #[.slice A c.ls.length cc,.int .i64 c.hand] 29)=W0 at hbx hbz;have q0:=hbx.cell_ 0 (v:=.slice A c.ls.length cc) rfl;have q1:=hbx.cell_ 1 (v:=.int .i64 c.hand) rfl;have HBX:=Hd hbx;clear hL hbx hbm;by_cases h1:c.ls.length<1
 ·have g1:(c.ls.length:Int)<1:=by omega
  go_enter Tryz.func131,Tryz.ntmps131
  have HE:Hi (cav c=false):=cav_no fun h=>by have:=(cav_parts h).1;omega
  go_wp2;go_ret;exact⟨by rw[HE.o];rfl,hbz⟩
 by_cases h2:8<c.ls.length
 ·have g2:(8:Int)<(c.ls.length:Int):=by omega
  go_enter Tryz.func131,Tryz.ntmps131
  have HE:Hi (cav c=false):=cav_no fun h=>by have:=(cav_parts h).2.1;omega
  go_wp2;go_ret;exact⟨by rw[HE.o];rfl,hbz⟩
 have g1:¬(c.ls.length:Int)<1:=by omega
 have g2:¬(8:Int)<(c.ls.length:Int):=by omega
 by_cases h3:c.hand<0
 ·go_enter Tryz.func131,Tryz.ntmps131
  have HE:Hi (cav c=false):=cav_no fun h=>by have:=inR_iff.1 (cav_parts h).2.2.1;omega
  go_wp2;go_ret;exact⟨by rw[HE.o];rfl,hbz⟩
 by_cases h4:(c.ls.length:Int)≤c.hand
 ·go_enter Tryz.func131,Tryz.ntmps131
  have HE:Hi (cav c=false):=cav_no fun h=>by have:=inR_iff.1 (cav_parts h).2.2.1;omega
  go_wp2;go_ret;exact⟨by rw[HE.o];rfl,hbz⟩
 have HH:Hi (inR c.hand c.ls.length=true):=inR_iff.2 (by omega)
 go_enter Tryz.func131,Tryz.ntmps131
 go_wp2;clear q0 q1;go_loopw [3,4] (fun sv u wr=>∃k:Nat,k≤c.ls.length∧u=.int .i64 k∧sv=.int .i64 (nfree c.ls k)∧Hi (lok c.ls k=true)∧Own wr w.heap.size 29 #[.slice A c.ls.length cc,.int .i64 c.hand]∧Below w.heap.size w wr) (fun _ u _=>c.ls.length-(intOf u).toNat)
 case atStart=>exact⟨0,by omega,rfl,rfl,rfl,HBX.o,hbz⟩
 case round=>
  clear hbz;obtain⟨k,hk,rfl,rfl,hlok,hbox,hbz⟩:=hrel;have q0:=hbox.cell_ 0 (v:=.slice A c.ls.length cc) rfl;have q1:=hbox.cell_ 1 (v:=.int .i64 c.hand) rfl;have HBOX:=Hd hbox;have hbl:=hbox.lt;clear hbox;by_cases hlt:k<c.ls.length
  ·obtain ⟨x,ex⟩:∃x,c.ls[k]?=some x:=⟨_,List.getElem?_eq_getElem hlt⟩
   obtain⟨b,o,rfl,hbb,d0,d1,d2,d3,d4,d5⟩:=(HL.o.below hbz).ln ex;go_wp2_with fail
   refine(l4Line_any x _).mono ?_;rintro e w3 ⟨rfl,hb3'⟩;obtain⟨ob,hb3⟩:=one_box hb3';have HBOX3:=Hd (HBOX.o.below hb3);have HX:=Hd ob;have EX:=Hd ex;have hbz3:=bT hbz hb3;have hxl:w.heap.size<wr.heap.size:=hbl;generalize hgx:wr.heap.size=gx at*;clear hb3' hb3 q0 q1 d0 d1 d2 d3 d4 d5 hbz hbl ob;have hbz:=hbz3;clear hbz3
   cases hx:lnok x with
   | false=>
    have HE:Hi (cav c=false):=cav_ln ex hx;go_wp2;go_ret;exact⟨by rw[HE.o];rfl,hbz⟩
   | true =>
    have q0:=HBOX3.c 0 (.slice (some ⟨b,o,none⟩) c.ls.length cc) rfl;have x0:=HX.c 0 (.bool x.v) rfl;have x1:=HX.c 1 (.int .i64 x.t) rfl;have x2:=HX.c 2 (.int .i64 x.p) rfl;have x5:=HX.c 5 (.bool x.w) rfl;have HN:=Hd (nfree_step ex);have hnk:=nfree_le c.ls k
    cases hw:x.w with
    | false=>
     rw[hw]at x5;go_wp2;clear q0 x0 x1 x2 x5;go_loopw [6] (fun u wi=>∃r:Nat,r≤k∧u=.int .i64 r∧Hi (∀(m:Nat) (y:Ln),m<r→c.ls[m]?=some y→clash x y=false)∧Below w3.heap.size w3 wi) (fun u _=>k-(intOf u).toNat)
     case atStart=>exact⟨0,by omega,rfl,(fun m j h=>absurd h (by omega)),bR⟩
     case round=>
      obtain⟨r,hr,rfl,hacc,hbi⟩:=hrel;have HBI:=Hd (HBOX3.o.below hbi);have HXI:=Hd (HX.o.below hbi);have q0:=HBI.c 0 (.slice (some ⟨b,o,none⟩) c.ls.length cc) rfl;have hgl:=HXI.o.lt;by_cases hlr:r<k
      ·obtain⟨y,ey⟩:∃y,c.ls[r]?=some y:=⟨_,List.getElem?_eq_getElem (by omega)⟩
       obtain⟨b',o',e',hbb',d0,d1,d2,d3,d4,d5⟩:=(HL.o.below (bT hbz hbi)).ln ey;injection e' with e';injection e' with e' e2';subst e' e2';have x0:=HXI.c 0 (.bool x.v) rfl;have x1:=HXI.c 1 (.int .i64 x.t) rfl;have x2:=HXI.c 2 (.int .i64 x.p) rfl
       cases hxv:x.v with
       | false=>
        rw[hxv]at x0
        have HACC:Hi (∀(m:Nat) (y:Ln),m<r+1→c.ls[m]?=some y→clash x y=false):=fun m z hm ez=>by
         rcases Nat.lt_or_ge m r with h | h
         ·exact hacc.o m z h ez
         ·obtain rfl:m=r:=by omega
          rw[ey]at ez;injection ez with ez;rw[←ez];simp[clash,hxv]
        clear ey;go_wp2;go_roundw;case rel=>exact⟨r+1,by omega,by go_num,HACC,bA hbi⟩
        case measure=>simp[intOf];omega
       | true=>
       rw[hxv]at x0
       cases hyv:y.v with
       | false=>
        rw[hyv]at d0
        have HACC:Hi (∀(m:Nat) (y:Ln),m<r+1→c.ls[m]?=some y→clash x y=false):=fun m z hm ez=>by
         rcases Nat.lt_or_ge m r with h | h
         ·exact hacc.o m z h ez
         ·obtain rfl:m=r:=by omega
          rw[ey]at ez;injection ez with ez;rw[←ez];simp[clash,hyv]
        clear ey;go_wp2;go_roundw;case rel=>exact⟨r+1,by omega,by go_num,HACC,bA hbi⟩
        case measure=>simp[intOf];omega
       | true=>
       rw[hyv]at d0;by_cases hp:x.p=y.p
       case neg=>
        have HACC:Hi (∀(m:Nat) (y:Ln),m<r+1→c.ls[m]?=some y→clash x y=false):=fun m z hm ez=>by
         rcases Nat.lt_or_ge m r with h | h
         ·exact hacc.o m z h ez
         ·obtain rfl:m=r:=by omega
          rw[ey]at ez;injection ez with ez;rw[←ez];simp[clash,hp]
        clear ey;go_wp2;go_roundw;case rel=>exact⟨r+1,by omega,by go_num,HACC,bA hbi⟩
        case measure=>simp[intOf];omega
       case pos=>
       by_cases ht:x.t=y.t
       case pos=>
        have hcl:clash x y=true:=by simp[clash,hxv,hyv,hp,ht]
        have HE:Hi (cav c=false):=cav_clash EX.o hlr ey hcl;clear ey;go_wp2;go_ret;exact⟨by rw[HE.o];rfl,bA (bT hbz hbi)⟩
       case neg=>
       by_cases ht1:x.t=-1
       case pos=>
        have hcl:clash x y=true:=by simp[clash,hxv,hyv,hp,ht1]
        have HE:Hi (cav c=false):=cav_clash EX.o hlr ey hcl;clear ey;go_wp2;go_ret;exact⟨by rw[HE.o];rfl,bA (bT hbz hbi)⟩
       case neg=>
       by_cases ht2:y.t=-1
       case pos=>
        have hcl:clash x y=true:=by simp[clash,hxv,hyv,hp,ht2]
        have hor:(x.t == y.t || x.t == -1 || y.t == -1)=true:=by simp[ht2]
        have HE:Hi (cav c=false):=cav_clash EX.o hlr ey hcl;clear ey;go_wp2;go_ret;exact⟨by rw[HE.o];rfl,bA (bT hbz hbi)⟩
       case neg=>
       have hcl:clash x y=false:=by simp[clash,ht,ht1,ht2]
       have hor:(x.t == y.t || x.t == -1 || y.t == -1)=false:=by simp[ht,ht1,ht2]
       have HACC:Hi (∀(m:Nat) (y:Ln),m<r+1→c.ls[m]?=some y→clash x y=false):=fun m z hm ez=>by
        rcases Nat.lt_or_ge m r with h | h
        ·exact hacc.o m z h ez
        ·obtain rfl:m=r:=by omega
         rw[ey]at ez;injection ez with ez;rw[←ez];exact hcl
       clear ey;go_wp2;go_roundw;case rel=>exact⟨r+1,by omega,by go_num,HACC,bA hbi⟩
       case measure=>simp[intOf];omega
      ·obtain rfl:r=k:=by omega
       have HLOK:Hi (lok c.ls (r+1)=true):=lok_step hlok.o EX.o hx hacc.o;go_wp2;go_roundw;case rel=>exact⟨r+1,by omega,by go_num,by rw[HN.o,hw];go_num,HLOK,HBI.o,bT hbz hbi⟩
       case measure=>simp[intOf];omega
    | true=>
     rw[hw]at x5;go_wp2;clear q0 x0 x1 x2 x5;go_loopw [6] (fun u wi=>∃r:Nat,r≤k∧u=.int .i64 r∧Hi (∀(m:Nat) (y:Ln),m<r→c.ls[m]?=some y→clash x y=false)∧Below w3.heap.size w3 wi) (fun u _=>k-(intOf u).toNat)
     case atStart=>exact⟨0,by omega,rfl,(fun m j h=>absurd h (by omega)),bR⟩
     case round=>
      obtain⟨r,hr,rfl,hacc,hbi⟩:=hrel;have HBI:=Hd (HBOX3.o.below hbi);have HXI:=Hd (HX.o.below hbi);have q0:=HBI.c 0 (.slice (some ⟨b,o,none⟩) c.ls.length cc) rfl;have hgl:=HXI.o.lt;by_cases hlr:r<k
      ·obtain⟨y,ey⟩:∃y,c.ls[r]?=some y:=⟨_,List.getElem?_eq_getElem (by omega)⟩
       obtain⟨b',o',e',hbb',d0,d1,d2,d3,d4,d5⟩:=(HL.o.below (bT hbz hbi)).ln ey;injection e' with e';injection e' with e' e2';subst e' e2';have x0:=HXI.c 0 (.bool x.v) rfl;have x1:=HXI.c 1 (.int .i64 x.t) rfl;have x2:=HXI.c 2 (.int .i64 x.p) rfl
       cases hxv:x.v with
       | false=>
        rw[hxv]at x0
        have HACC:Hi (∀(m:Nat) (y:Ln),m<r+1→c.ls[m]?=some y→clash x y=false):=fun m z hm ez=>by
         rcases Nat.lt_or_ge m r with h | h
         ·exact hacc.o m z h ez
         ·obtain rfl:m=r:=by omega
          rw[ey]at ez;injection ez with ez;rw[←ez];simp[clash,hxv]
        clear ey;go_wp2;go_roundw;case rel=>exact⟨r+1,by omega,by go_num,HACC,bA hbi⟩
        case measure=>simp[intOf];omega
       | true=>
       rw[hxv]at x0
       cases hyv:y.v with
       | false=>
        rw[hyv]at d0
        have HACC:Hi (∀(m:Nat) (y:Ln),m<r+1→c.ls[m]?=some y→clash x y=false):=fun m z hm ez=>by
         rcases Nat.lt_or_ge m r with h | h
         ·exact hacc.o m z h ez
         ·obtain rfl:m=r:=by omega
          rw[ey]at ez;injection ez with ez;rw[←ez];simp[clash,hyv]
        clear ey;go_wp2;go_roundw;case rel=>exact⟨r+1,by omega,by go_num,HACC,bA hbi⟩
        case measure=>simp[intOf];omega
       | true=>
       rw[hyv]at d0;by_cases hp:x.p=y.p
       case neg=>
        have HACC:Hi (∀(m:Nat) (y:Ln),m<r+1→c.ls[m]?=some y→clash x y=false):=fun m z hm ez=>by
         rcases Nat.lt_or_ge m r with h | h
         ·exact hacc.o m z h ez
         ·obtain rfl:m=r:=by omega
          rw[ey]at ez;injection ez with ez;rw[←ez];simp[clash,hp]
        clear ey;go_wp2;go_roundw;case rel=>exact⟨r+1,by omega,by go_num,HACC,bA hbi⟩
        case measure=>simp[intOf];omega
       case pos=>
       by_cases ht:x.t=y.t
       case pos=>
        have hcl:clash x y=true:=by simp[clash,hxv,hyv,hp,ht]
        have HE:Hi (cav c=false):=cav_clash EX.o hlr ey hcl;clear ey;go_wp2;go_ret;exact⟨by rw[HE.o];rfl,bA (bT hbz hbi)⟩
       case neg=>
       by_cases ht1:x.t=-1
       case pos=>
        have hcl:clash x y=true:=by simp[clash,hxv,hyv,hp,ht1]
        have HE:Hi (cav c=false):=cav_clash EX.o hlr ey hcl;clear ey;go_wp2;go_ret;exact⟨by rw[HE.o];rfl,bA (bT hbz hbi)⟩
       case neg=>
       by_cases ht2:y.t=-1
       case pos=>
        have hcl:clash x y=true:=by simp[clash,hxv,hyv,hp,ht2]
        have hor:(x.t == y.t || x.t == -1 || y.t == -1)=true:=by simp[ht2]
        have HE:Hi (cav c=false):=cav_clash EX.o hlr ey hcl;clear ey;go_wp2;go_ret;exact⟨by rw[HE.o];rfl,bA (bT hbz hbi)⟩
       case neg=>
       have hcl:clash x y=false:=by simp[clash,ht,ht1,ht2]
       have hor:(x.t == y.t || x.t == -1 || y.t == -1)=false:=by simp[ht,ht1,ht2]
       have HACC:Hi (∀(m:Nat) (y:Ln),m<r+1→c.ls[m]?=some y→clash x y=false):=fun m z hm ez=>by
        rcases Nat.lt_or_ge m r with h | h
        ·exact hacc.o m z h ez
        ·obtain rfl:m=r:=by omega
         rw[ey]at ez;injection ez with ez;rw[←ez];exact hcl
       clear ey;go_wp2;go_roundw;case rel=>exact⟨r+1,by omega,by go_num,HACC,bA hbi⟩
       case measure=>simp[intOf];omega
      ·obtain rfl:r=k:=by omega
       have HLOK:Hi (lok c.ls (r+1)=true):=lok_step hlok.o EX.o hx hacc.o;go_wp2;go_roundw;case rel=>exact⟨r+1,by omega,by go_num,by rw[HN.o,hw];go_num,HLOK,HBI.o,bT hbz hbi⟩
       case measure=>simp[intOf];omega
  ·obtain rfl:k=c.ls.length:=by omega
   have HE:Hi (cav c=decide (0<nfree c.ls c.ls.length)):=by show _=_;rw[cav_end (by omega) (by omega) HH.o hlok.o,nfree_all]
   generalize nfree c.ls c.ls.length=S at*;go_wp2;go_ret;exact⟨by rw[HE.o];simp,hbz⟩
theorem sKeyFor_any(s p:Int)(w:World):Calls Tryz.prog 52 #[.int .i64 s,.int .i64 p] w fun r w'=>r=.returned (.agg #[.int .i64 (keyI s p),.int .i64 p])∧Below w.heap.size w w':=by
 by_cases h:128≤p
 ·have H:Hi (keyI s p=0):=by show _=_;unfold keyI;rw[if_pos h]
  go_enter Tryz.func52,Tryz.ntmps52
  go_wp2;refine bodyPost_ret (v:=.agg #[.int .i64 (keyI s p),.int .i64 p]) (by simp[results,Tryz.results52,go_sem,H.o]) rfl ⟨rfl, ?_⟩;repeat first | exact bR | refine bS ?_ (by simp) | refine bA ?_
 ·have H:Hi (keyI s p=s):=by show _=_;unfold keyI;rw[if_neg h]
  go_enter Tryz.func52,Tryz.ntmps52
  go_wp2;refine bodyPost_ret (v:=.agg #[.int .i64 (keyI s p),.int .i64 p]) (by simp[results,Tryz.results52,go_sem,H.o]) rfl ⟨rfl, ?_⟩;repeat first | exact bR | refine bS ?_ (by simp) | refine bA ?_
theorem l5Find_any(vo:Value)(g:Tg)(s:Int)(w:World)(hT:SlR owE w vo g.os):
  Calls Tryz.prog 133 #[.agg #[.int .i64 g.count,.int .i64 g.next,.int .i64 g.round,vo],.int .i64 s] w fun r w'=>r=.returned (.int .i64 (ownI g.os s))∧Below w.heap.size w w':=by
 obtain⟨A,cc,rfl,hbc,hbm,hL⟩:=hT;have hfm2:g.os.length≤9223372036854775807:=by unfold maxLen at hbm;omega
 have HL:=Hd hL;have hbx:=Own.new_ w 32 #[.int .i64 g.count,.int .i64 g.next,.int .i64 g.round,.slice A g.os.length cc];have hbz:Below w.heap.size w (w.alloc (.cells #[.int .i64 g.count,.int .i64 g.next,.int .i64 g.round,.slice A g.os.length cc] 32)):=bA bR;have hsz0:(w.alloc (.cells #[.int .i64 g.count,.int .i64 g.next,.int .i64 g.round,.slice A g.os.length cc] 32)).heap.size=w.heap.size+1:=by simp
 generalize hW:w.alloc (.cells #[.int .i64 g.count,.int .i64 g.next,.int .i64 g.round,.slice A g.os.length cc] 32)=W0 at hbx hbz hsz0;have q0:=hbx.cell_ 0 (v:=.int .i64 g.count) rfl;have q1:=hbx.cell_ 1 (v:=.int .i64 g.next) rfl;have q2:=hbx.cell_ 2 (v:=.int .i64 g.round) rfl;have q3:=hbx.cell_ 3 (v:=.slice A g.os.length cc) rfl;have HBX:=Hd hbx;clear hL hbx;clear q0 q1 q2 q3 hsz0
 go_enter Tryz.func133,Tryz.ntmps133
 go_wp2;go_loopw [5] (fun u wr=>∃k:Nat,k≤g.os.length∧u=.int .i64 k∧Hi (∀(j:Nat) (q:Int×Int),j<k→g.os[j]?=some q→¬q.1=s)∧Own wr w.heap.size 32 #[.int .i64 g.count,.int .i64 g.next,.int .i64 g.round,.slice A g.os.length cc]∧Below w.heap.size w wr) (fun u _=>g.os.length-(intOf u).toNat)
 case atStart=>exact⟨0,by omega,rfl,(fun j q h=>absurd h (by omega)),HBX.o,hbz⟩
 case round=>
  obtain⟨k,hk,rfl,hacc,hbox,hbi⟩:=hrel;have q3:=hbox.cell_ 3 (v:=.slice A g.os.length cc) rfl;by_cases hlt:k<g.os.length
  ·obtain⟨o,eo⟩:∃o,g.os[k]?=some o:=⟨_,List.getElem?_eq_getElem hlt⟩
   obtain⟨b,ob,rfl,hbb,d0,d1⟩:=(HL.o.below hbi).ow eo;have HBOX:=Hd hbox;clear hbox;by_cases ht:o.1=s
   ·have H:=Hd (own_at eo hacc.o ht);clear eo;go_wp2;go_ret;exact⟨by rw[H.o];rfl,hbi⟩
   ·have HACC:=Hd (own_go eo hacc.o ht);clear eo;go_wp2;go_roundw;case rel=>exact⟨k+1,by omega,by go_num,HACC,HBOX.o,hbi⟩
    case measure=>simp[intOf];omega
  ·have H:=Hd (own_none (Nat.le_of_not_lt hlt) hacc.o);clear hbox;go_wp2;go_ret;exact⟨by rw[H.o];rfl,hbi⟩
theorem sTagsValid_any (vo:Value) (g:Tg) (w:World) (hT:SlR owE w vo g.os):
  Calls Tryz.prog 132 #[.agg #[.int .i64 g.count,.int .i64 g.next,.int .i64 g.round,vo]] w fun r w'=>r=.returned (.bool (tgv g))∧Below w.heap.size w w':=by
 obtain⟨A,cc,rfl,hbc,hbm,hL⟩:=hT;have hfm2:g.os.length≤9223372036854775807:=by unfold maxLen at hbm;omega
 have HL:=Hd hL;have hbx:=Own.new_ w 32 #[.int .i64 g.count,.int .i64 g.next,.int .i64 g.round,.slice A g.os.length cc];have hbz:Below w.heap.size w (w.alloc (.cells #[.int .i64 g.count,.int .i64 g.next,.int .i64 g.round,.slice A g.os.length cc] 32)):=bA bR;have hsz0:(w.alloc (.cells #[.int .i64 g.count,.int .i64 g.next,.int .i64 g.round,.slice A g.os.length cc] 32)).heap.size=w.heap.size+1:=by simp
 generalize hW:w.alloc (.cells #[.int .i64 g.count,.int .i64 g.next,.int .i64 g.round,.slice A g.os.length cc] 32)=W0 at hbx hbz hsz0;have q0:=hbx.cell_ 0 (v:=.int .i64 g.count) rfl;have q1:=hbx.cell_ 1 (v:=.int .i64 g.next) rfl;have q2:=hbx.cell_ 2 (v:=.int .i64 g.round) rfl;have q3:=hbx.cell_ 3 (v:=.slice A g.os.length cc) rfl;have HBX:=Hd hbx;clear hL hbx;by_cases h1:g.count<1
 ·go_enter Tryz.func132,Tryz.ntmps132
  have HE:Hi (tgv g=false):=tgv_no fun h=>by have:=(tgv_parts h).1;omega
  go_wp2;go_ret;exact⟨by rw[HE.o];rfl,hbz⟩
 by_cases h2:8<g.count
 ·go_enter Tryz.func132,Tryz.ntmps132
  have HE:Hi (tgv g=false):=tgv_no fun h=>by have:=(tgv_parts h).1;omega
  go_wp2;go_ret;exact⟨by rw[HE.o];rfl,hbz⟩
 by_cases h3:g.next<0
 ·go_enter Tryz.func132,Tryz.ntmps132
  have HE:Hi (tgv g=false):=tgv_no fun h=>by have:=(tgv_parts h).1;omega
  go_wp2;go_ret;exact⟨by rw[HE.o];rfl,hbz⟩
 by_cases h4:g.count<g.next
 ·go_enter Tryz.func132,Tryz.ntmps132
  have HE:Hi (tgv g=false):=tgv_no fun h=>by have:=(tgv_parts h).1;omega
  go_wp2;go_ret;exact⟨by rw[HE.o];rfl,hbz⟩
 by_cases h5:g.round<0
 ·go_enter Tryz.func132,Tryz.ntmps132
  have HE:Hi (tgv g=false):=tgv_no fun h=>by have:=(tgv_parts h).1;omega
  go_wp2;go_ret;exact⟨by rw[HE.o];rfl,hbz⟩
 by_cases h6:1000000<g.round
 ·go_enter Tryz.func132,Tryz.ntmps132
  have HE:Hi (tgv g=false):=tgv_no fun h=>by have:=(tgv_parts h).1;omega
  go_wp2;go_ret;exact⟨by rw[HE.o];rfl,hbz⟩
 by_cases h7:g.next<(g.os.length:Int)
 ·go_enter Tryz.func132,Tryz.ntmps132
  have HE:Hi (tgv g=false):=tgv_no fun h=>by have:=tok_len (tgv_parts h).2 (tgv_parts h).1.2.2.1;omega
  go_wp2;go_ret;exact⟨by rw[HE.o];rfl,hbz⟩
 have HGB:Hi (tgb g=true):=tgb_iff.2 (by omega)
 go_enter Tryz.func132,Tryz.ntmps132
 go_wp2;clear q0 q1 q2 q3;go_loopw [3] (fun u wr=>∃k:Nat,k≤g.os.length∧u=.int .i64 k∧Hi (tok g.os g.next k=true)∧Own wr w.heap.size 32 #[.int .i64 g.count,.int .i64 g.next,.int .i64 g.round,.slice A g.os.length cc]∧Below w.heap.size w wr) (fun u _=>g.os.length-(intOf u).toNat)
 case atStart=>exact⟨0,by omega,rfl,rfl,HBX.o,hbz⟩
 case round=>
  clear hbz;obtain⟨k,hk,rfl,htok,hbox,hbz⟩:=hrel;have q1:=hbox.cell_ 1 (v:=.int .i64 g.next) rfl;have q3:=hbox.cell_ 3 (v:=.slice A g.os.length cc) rfl;have HBOX:=Hd hbox;have hbl:=hbox.lt;clear hbox;by_cases hlt:k<g.os.length
  ·obtain⟨o,eo⟩:∃o,g.os[k]?=some o:=⟨_,List.getElem?_eq_getElem hlt⟩
   obtain⟨b,ob,rfl,hbb,d0,d1⟩:=(HL.o.below hbz).ow eo;have EO:=Hd eo;have hx:=Own.new_ wr 186 #[.int .i64 o.1,.int .i64 o.2];have HB5:=Hd (HBOX.o.alloc (o:=.cells #[.int .i64 o.1,.int .i64 o.2] 186));have hb5:Below w.heap.size w (wr.alloc (.cells #[.int .i64 o.1,.int .i64 o.2] 186)):=bA hbz;generalize hW5:wr.alloc (.cells #[.int .i64 o.1,.int .i64 o.2] 186)=w5 at*;have z1:=xcell (w:=w5) (HB5.c 1 (.int .i64 g.next) rfl) HB5.o.lt;have z3:=xcell (w:=w5) (HB5.c 3 (.slice (some ⟨b,ob,none⟩) g.os.length cc) rfl) HB5.o.lt;have y0:=xcell (w:=w5) (hx.cell_ 0 (v:=.int .i64 o.1) rfl) hx.lt;have y1:=xcell (w:=w5) (hx.cell_ 1 (v:=.int .i64 o.2) rfl) hx.lt;have HX:=Hd hx;have KW:=fun W=>l1Space_any o.1 W
   clear eo hx
   cases g1:inR o.1 16 with
   | false=>
    rw[g1]at KW;have HK:=Hd KW;clear KW;have HE:Hi (tgv g=false):=tgv_ob EO.o (.inl g1);go_wp2;refine wp_region_ext (by kernel_rfl) (by kernel_rfl) ?_;repeat (go_big_quiet_step ((go_at_call 198;exact ext_same (HK.o _))))
    refine wpQuiet_nil ?_;intro _ hw';obtain⟨⟨wq,hq⟩,hw''⟩:=hw';subst hw'';try dsimp only
    go_wp2;go_ret;exact⟨by rw[HE.o];rfl,bT hb5 hq⟩
   | true=>
   rw[g1]at KW;have HK:=Hd KW;clear KW;by_cases g2:o.2<0
   case pos=>
    have HE:Hi (tgv g=false):=tgv_no fun h=>by
     obtain⟨o',e',_,h2,_⟩:=tok_at (tgv_parts h).2 hlt;rw[EO.o]at e';injection e' with e';subst e';omega
    go_wp2;refine wp_region_ext (by kernel_rfl) (by kernel_rfl) ?_;repeat (go_big_quiet_step ((go_at_call 198;exact ext_same (HK.o _))))
    refine wpQuiet_nil ?_;intro _ hw';obtain⟨⟨wq,hq⟩,hw''⟩:=hw';subst hw'';try dsimp only
    go_wp2;go_ret;exact⟨by rw[HE.o];rfl,bT hb5 hq⟩
   case neg=>
   by_cases g3:g.next≤o.2
   case pos=>
    have HE:Hi (tgv g=false):=tgv_ob EO.o (.inr (.inl (by omega)));go_wp2;have n2:¬o.2<0:=by omega
    refine wp_region_ext (by kernel_rfl) (by kernel_rfl) ?_;repeat (go_big_quiet_step ((go_at_call 198;exact ext_same (HK.o _))))
    refine wpQuiet_nil ?_;intro _ hw';obtain⟨⟨wq,hq⟩,hw''⟩:=hw';subst hw'';try dsimp only
    go_wp2;go_ret;exact⟨by rw[HE.o];rfl,bT hb5 hq⟩
   case neg=>
   rcases k with _ | j
   ·have HLT:Hi (tlast g.os 0<o.2):=by show _<_;rw[tlast_0];omega
    simp only[Nat.zero_mul,Nat.add_zero]at d0 d1;go_wp2;have n2:¬o.2<0:=by omega
    have n3:¬g.next≤o.2:=by omega
    refine wp_region_ext (by kernel_rfl) (by kernel_rfl) ?_;repeat (go_big_quiet_step ((go_at_call 198;exact ext_same (HK.o _))))
    refine wpQuiet_nil ?_;intro _ hw';obtain⟨⟨wq,hq⟩,hw''⟩:=hw';subst hw'';try dsimp only
    go_wp2;go_loopw [5] (fun u wi=>u=.int .i64 0∧Below w5.heap.size w5 wi) (fun u _=>0)
    case atStart=>exact⟨rfl,hq⟩
    case round=>
     obtain⟨rfl,hbi⟩:=hrel;have HTOK:Hi (tok g.os g.next (0+1)=true):=tok_step htok.o EO.o g1 (by omega) HLT.o (fun r q h=>absurd h (by omega));have hbx6:=HB5.o.below hbi;go_wp2;go_roundw;case rel=>exact⟨0+1,by omega,by go_num,HTOK,hbx6,bT hb5 hbi⟩
     case measure=>simp[intOf];omega
   ·obtain⟨q,eq⟩:∃q,g.os[j]?=some q:=⟨_,List.getElem?_eq_getElem (by omega)⟩
    obtain⟨b',ob',e',hbb',f0,f1⟩:=(HL.o.below hbz).ow eq;injection e' with e';injection e' with e' e2';subst e' e2';have y3:=xcell (w:=w5) (p:=⟨b,ob+j*2+1,none⟩) (v:=.int .i64 q.2) (by rw[←hW5];exact cells_far (by have:=hbz.size;omega) f1) (by have:=hb5.size;show b<_;omega);have HTL:=Hd (tlast_of eq);clear eq f0 f1;by_cases g4:o.2≤q.2
    ·have HE:Hi (tgv g=false):=tgv_ob EO.o (.inr (.inr (.inl (by rw[HTL.o];omega))));go_wp2;have n2:¬o.2<0:=by omega
     have n3:¬g.next≤o.2:=by omega
     refine wp_region_ext (by kernel_rfl) (by kernel_rfl) ?_;repeat (go_big_quiet_step ((go_at_call 198;exact ext_same (HK.o _))))
     refine wpQuiet_nil ?_;intro _ hw';obtain⟨⟨wq,hq⟩,hw''⟩:=hw';subst hw'';try dsimp only
     go_wp2;go_ret;exact⟨by rw[HE.o];rfl,bT hb5 hq⟩
    ·have HLT:Hi (tlast g.os (j+1)<o.2):=by show _<_;rw[HTL.o];omega
     go_wp2;have n2:¬o.2<0:=by omega
     have n3:¬g.next≤o.2:=by omega
     have n4:¬o.2≤q.2:=by omega
     refine wp_region_ext (by kernel_rfl) (by kernel_rfl) ?_;repeat (go_big_quiet_step ((go_at_call 198;exact ext_same (HK.o _))))
     refine wpQuiet_nil ?_;intro _ hw';obtain⟨⟨wq,hq⟩,hw''⟩:=hw';subst hw'';try dsimp only
     go_wp2;go_loopw [5] (fun u wi=>∃r:Nat,r≤j+1∧u=.int .i64 r∧Hi (∀(m:Nat) (q:Int×Int),m<r→g.os[m]?=some q→¬q.1=o.1)∧Below w5.heap.size w5 wi) (fun u _=>j+1-(intOf u).toNat)
     case atStart=>exact⟨0,by omega,rfl,(fun m q h=>absurd h (by omega)),hq⟩
     case round=>
      obtain⟨r,hr,rfl,hacc,hbi⟩:=hrel;by_cases hlr:r<j+1
      ·obtain⟨p,ep⟩:∃p,g.os[r]?=some p:=⟨_,List.getElem?_eq_getElem (by omega)⟩
       obtain⟨b2,o2,e2,hbb2,f0,f1⟩:=(HL.o.below (bT hb5 hbi)).ow ep;injection e2 with e2;injection e2 with e2 e3;subst e2 e3;have v0:=xcell f0 (by have:=(bT hb5 hbi).size;show b<_;omega);have v3:=xcell ((HB5.o.below hbi).cell_ 3 (v:=.slice (some ⟨b,ob,none⟩) g.os.length cc) rfl) (HB5.o.below hbi).lt;have v4:=xcell ((HX.o.below hbi).cell_ 0 (v:=.int .i64 o.1) rfl) (HX.o.below hbi).lt;have EP:=Hd ep;clear ep f0 f1;by_cases hp:p.1=o.1
       ·have HE:Hi (tgv g=false):=tgv_ob EO.o (.inr (.inr (.inr ⟨r,p,by omega,EP.o,hp⟩)));go_wp2;refine wp_region_ext (by kernel_rfl) (by kernel_rfl) ?_;repeat (go_big_quiet_step (fail))
        refine wpQuiet_nil ?_;intro _ hw';obtain⟨⟨wq,hq⟩,hw''⟩:=hw';subst hw'';try dsimp only
        go_wp2;go_ret;exact⟨by rw[HE.o];rfl,bT (bT hb5 hbi) hq⟩
       ·have HACC:Hi (∀(m:Nat) (q:Int×Int),m<r+1→g.os[m]?=some q→¬q.1=o.1):=own_go EP.o hacc.o hp;go_wp2;have hp2:¬p.1=o.1:=hp;refine wp_region_ext (by kernel_rfl) (by kernel_rfl) ?_;repeat (go_big_quiet_step (fail))
        refine wpQuiet_nil ?_;intro _ hw';obtain⟨⟨wq,hq⟩,hw''⟩:=hw';subst hw'';try dsimp only
        go_wp2;go_roundw;case rel=>exact⟨r+1,by omega,by go_num,HACC,bT hbi hq⟩
        case measure=>simp[intOf];omega
      ·obtain rfl:r=j+1:=by omega
       have HTOK:Hi (tok g.os g.next (j+1+1)=true):=tok_step htok.o EO.o g1 (by omega) HLT.o hacc.o;have hbx6:=HB5.o.below hbi;go_wp2;go_roundw;case rel=>exact⟨j+1+1,by omega,by go_num,HTOK,hbx6,bT hb5 hbi⟩
       case measure=>simp[intOf];omega
  ·obtain rfl:k=g.os.length:=by omega
   have HE:Hi (tgv g=true):=tgv_end HGB.o htok.o;go_wp2;go_ret;exact⟨by rw[HE.o];rfl,hbz⟩
theorem sSpaceOf_any(vo:Value)(g:Tg)(tag:Int)(w:World)(hT:SlR owE w vo g.os):
  Calls Tryz.prog 199 #[.agg #[.int .i64 g.count,.int .i64 g.next,.int .i64 g.round,vo],.int .i64 tag] w fun r w'=>r=.returned (.tuple #[.int .i64 (spV g tag),.bool (spO g tag)])∧Below w.heap.size w w':=by
 have HV:=Hd hT;obtain⟨A,cc,rfl,hbc,hbm,hL⟩:=hT;have hfm2:g.os.length≤9223372036854775807:=by unfold maxLen at hbm;omega
 have HL:=Hd hL;have hbx:=Own.new_ w 32 #[.int .i64 g.count,.int .i64 g.next,.int .i64 g.round,.slice A g.os.length cc];have hbz:Below w.heap.size w (w.alloc (.cells #[.int .i64 g.count,.int .i64 g.next,.int .i64 g.round,.slice A g.os.length cc] 32)):=bA bR;have hsz0:(w.alloc (.cells #[.int .i64 g.count,.int .i64 g.next,.int .i64 g.round,.slice A g.os.length cc] 32)).heap.size=w.heap.size+1:=by simp
 generalize hW:w.alloc (.cells #[.int .i64 g.count,.int .i64 g.next,.int .i64 g.round,.slice A g.os.length cc] 32)=W0 at hbx hbz hsz0;have q0:=hbx.cell_ 0 (v:=.int .i64 g.count) rfl;have q1:=hbx.cell_ 1 (v:=.int .i64 g.next) rfl;have q2:=hbx.cell_ 2 (v:=.int .i64 g.round) rfl;have q3:=hbx.cell_ 3 (v:=.slice A g.os.length cc) rfl;have HBX:=Hd hbx;clear hL hbx q0 q1 q2 q3 hsz0
 go_enter Tryz.func199,Tryz.ntmps199
 go_wp2;go_loopw [6] (fun u wr=>∃k:Nat,k≤g.os.length∧u=.int .i64 k∧Hi (0<k→tgv g=true)∧Hi (∀(j:Nat) (q:Int×Int),j<k→g.os[j]?=some q→¬q.2=tag)∧Own wr w.heap.size 32 #[.int .i64 g.count,.int .i64 g.next,.int .i64 g.round,.slice A g.os.length cc]∧Below w.heap.size w wr) (fun u _=>g.os.length-(intOf u).toNat)
 case atStart=>exact⟨0,by omega,rfl,(fun h=>absurd h (by omega)),(fun j q h=>absurd h (by omega)),HBX.o,hbz⟩
 case round=>
  clear hbz;obtain⟨k,hk,rfl,htv,hacc,hbox,hbz⟩:=hrel;have q0:=hbox.cell_ 0 (v:=.int .i64 g.count) rfl;have q1:=hbox.cell_ 1 (v:=.int .i64 g.next) rfl;have q2:=hbox.cell_ 2 (v:=.int .i64 g.round) rfl;have q3:=hbox.cell_ 3 (v:=.slice A g.os.length cc) rfl;have HBOX:=Hd hbox;clear hbox;by_cases hlt:k<g.os.length
  ·go_wp2_with fail
   refine(sTagsValid_any _ g _ (HV.o.now hbz)).mono ?_;rintro e w1 ⟨rfl,hb1⟩;have HB1:=Hd (HBOX.o.below hb1);have hbz1:=bT hbz hb1;clear q0 q1 q2 q3 hb1 hbz;have q3:=HB1.c 3 (.slice A g.os.length cc) rfl
   cases h1:tgv g with
   | false=>
    obtain⟨e1,e2⟩:=spO_no (tag:=tag) h1;have E1:=Hd e1;have E2:=Hd e2;clear e1 e2;go_wp2;go_ret2;exact⟨by rw[E1.o,E2.o];rfl,hbz1⟩
   | true=>
    obtain⟨o,eo⟩:∃o,g.os[k]?=some o:=⟨_,List.getElem?_eq_getElem hlt⟩
    obtain⟨b,ob,rfl,hbb,d0,d1⟩:=(HL.o.below hbz1).ow eo;by_cases ht:o.2=tag
    ·obtain⟨e1,e2⟩:=spO_some h1 (spc_at eo hacc.o ht) eo;have E1:=Hd e1;have E2:=Hd e2;clear e1 e2 eo;go_wp2;go_ret2;exact⟨by rw[E1.o,E2.o];rfl,hbz1⟩
    ·have HACC:=Hd (spc_go eo hacc.o ht);have H1:Hi (tgv g=true):=h1;clear eo;go_wp2;go_roundw;case rel=>exact⟨k+1,by omega,by go_num,(fun _=>H1.o),HACC,HB1.o,hbz1⟩
     case measure=>simp[intOf];omega
  ·obtain⟨e1,e2⟩:spO g tag=false∧spV g tag=0:=by
    cases h1:tgv g with
    | false=>exact spO_no h1
    | true=>exact spO_none h1 (spc_none (Nat.le_of_not_lt hlt) hacc.o)
   have E1:=Hd e1;have E2:=Hd e2;clear e1 e2;go_wp2;go_ret2;exact⟨by rw[E1.o,E2.o];rfl,hbz⟩
end Go.Proofs.YtfbnokjdkhcgoaaGreatDoor
