/- A part of the proofs of this seat. -/
import Derived.Test.YtfbnokjdkhcgoaaGreatDoorCRel
set_option linter.unusedVariables false
set_option linter.unusedSimpArgs false
set_option maxRecDepth 1000000
set_option maxHeartbeats 16000000
namespace Go.Proofs.YtfbnokjdkhcgoaaGreatDoor
open Go.RowKit
theorem tagValid_any(n:Int)(w:World):Calls Tryz.prog 208 #[.int .i64 n] w fun r w'=>r=.returned (.bool (tagv n))∧w=w':=by
 by_cases h0:-1≤n
 ·have H:Hi (tagv n=decide (n<8)):=by show _=_;unfold tagv;rw[decide_eq_true h0];rfl
  go_enter Tryz.func208,Tryz.ntmps208
  go_wp2;go_ret;exact⟨by rw[H.o];rfl,rfl⟩
 ·have H:Hi (tagv n=false):=by show _=_;unfold tagv;rw[decide_eq_false h0];rfl
  go_enter Tryz.func208,Tryz.ntmps208
  go_wp2;go_ret;exact⟨by rw[H.o];rfl,rfl⟩
theorem lineValid_any(x:Ln)(w:World):Calls Tryz.prog 155 #[lnV x] w fun r w'=>r=.returned (.bool (lnok x))∧Below w.heap.size w w':=by
 obtain⟨v,t,p,f,r,wi⟩:=x
 cases v with
 | false=>
  have he:∀W,(binOp .eql 50 (.agg #[.bool false,.int .i64 t,.int .i64 p,.int .i64 f,.int .i64 r,.bool wi]) (.agg #[.bool false,.int .i64 0,.int .i64 0,.int .i64 0,.int .i64 0,.bool false])).run Tryz.prog W=.ok (.bool (lnok ⟨false,t,p,f,r,wi⟩)) W:=fun W=>eql_ln ⟨false,t,p,f,r,wi⟩ lnz W
  simp only[lnV];generalize lnok ⟨false,t,p,f,r,wi⟩=B at he⊢
  go_enter Tryz.func155,Tryz.ntmps155
  go_wp2;go_ret;exact⟨rfl,by repeat first | exact bR | refine bA ?_⟩
 | true=>
  have H:Hi (lnok ⟨true,t,p,f,r,wi⟩=(tagv t && inR p 256 && inR f 16 && inR r 8)):=rfl;simp only[lnV]
  cases h1:tagv t with
  | false=>
   go_enter Tryz.func155,Tryz.ntmps155
   go_wp2_with (first | (go_at_call 208;refine(tagValid_any _ _).mono ?_;rintro e w' ⟨rfl,rfl⟩) | (go_at_call 37;refine(within_any _ _ _).mono ?_;rintro e w' ⟨rfl,rfl⟩) | (go_at_call 38;refine(RightsValid_any _ _).mono ?_;rintro e w' ⟨rfl,rfl⟩))
   go_ret;exact⟨by rw[H.o,h1];rfl,bA bR⟩
  | true=>
   cases h2:inR p 256 with
   | false=>
    go_enter Tryz.func155,Tryz.ntmps155
    go_wp2_with (first | (go_at_call 208;refine(tagValid_any _ _).mono ?_;rintro e w' ⟨rfl,rfl⟩) | (go_at_call 37;refine(within_any _ _ _).mono ?_;rintro e w' ⟨rfl,rfl⟩) | (go_at_call 38;refine(RightsValid_any _ _).mono ?_;rintro e w' ⟨rfl,rfl⟩))
    go_ret;exact⟨by rw[H.o,h1,h2];rfl,bA bR⟩
   | true=>
    cases h3:inR f 16 with
    | false=>
     go_enter Tryz.func155,Tryz.ntmps155
     go_wp2_with (first | (go_at_call 208;refine(tagValid_any _ _).mono ?_;rintro e w' ⟨rfl,rfl⟩) | (go_at_call 37;refine(within_any _ _ _).mono ?_;rintro e w' ⟨rfl,rfl⟩) | (go_at_call 38;refine(RightsValid_any _ _).mono ?_;rintro e w' ⟨rfl,rfl⟩))
     go_ret;exact⟨by rw[H.o,h1,h2,h3];rfl,bA bR⟩
    | true=>
     go_enter Tryz.func155,Tryz.ntmps155
     go_wp2_with (first | (go_at_call 208;refine(tagValid_any _ _).mono ?_;rintro e w' ⟨rfl,rfl⟩) | (go_at_call 37;refine(within_any _ _ _).mono ?_;rintro e w' ⟨rfl,rfl⟩) | (go_at_call 38;refine(RightsValid_any _ _).mono ?_;rintro e w' ⟨rfl,rfl⟩))
     go_ret;exact⟨by rw[H.o,h1,h2,h3];rfl,bA bR⟩
theorem clash_any(x y:Ln)(w:World):Calls Tryz.prog 192 #[lnV x,lnV y] w fun r w'=>r=.returned (.bool (clash x y))∧Below w.heap.size w w':=by
 obtain⟨xv,xt,xp,xf,xr,xw⟩:=x;obtain⟨yv,yt,yp,yf,yr,yw⟩:=y;simp only[lnV]
 cases xv with
 | false=>
  have H:Hi (clash ⟨false,xt,xp,xf,xr,xw⟩ ⟨yv,yt,yp,yf,yr,yw⟩=false):=rfl
  go_enter Tryz.func192,Tryz.ntmps192
  go_wp2;go_ret;exact⟨by rw[H.o];rfl,by repeat first | exact bR | refine bA ?_⟩
 | true=>
  cases yv with
  | false=>
   have H:Hi (clash ⟨true,xt,xp,xf,xr,xw⟩ ⟨false,yt,yp,yf,yr,yw⟩=false):=rfl
   go_enter Tryz.func192,Tryz.ntmps192
   go_wp2;go_ret;exact⟨by rw[H.o];rfl,by repeat first | exact bR | refine bA ?_⟩
  | true=>
   by_cases hp:xp=yp
   case neg=>
    have H:Hi (clash ⟨true,xt,xp,xf,xr,xw⟩ ⟨true,yt,yp,yf,yr,yw⟩=false):=by simp[Hi,clash,hp]
    go_enter Tryz.func192,Tryz.ntmps192
    go_wp2;go_ret;exact⟨by rw[H.o];rfl,by repeat first | exact bR | refine bA ?_⟩
   case pos=>
    by_cases ht:xt=yt
    ·have H:Hi (clash ⟨true,xt,xp,xf,xr,xw⟩ ⟨true,yt,yp,yf,yr,yw⟩=true):=by simp[Hi,clash,hp,ht]
     go_enter Tryz.func192,Tryz.ntmps192
     go_wp2;go_ret;exact⟨by rw[H.o];rfl,by repeat first | exact bR | refine bA ?_⟩
    by_cases h1:xt=-1
    ·have H:Hi (clash ⟨true,xt,xp,xf,xr,xw⟩ ⟨true,yt,yp,yf,yr,yw⟩=true):=by simp[Hi,clash,hp,h1]
     go_enter Tryz.func192,Tryz.ntmps192
     go_wp2;go_ret;exact⟨by rw[H.o];rfl,by repeat first | exact bR | refine bA ?_⟩
    ·have H:Hi (clash ⟨true,xt,xp,xf,xr,xw⟩ ⟨true,yt,yp,yf,yr,yw⟩=(xt == yt || xt == -1 || yt == -1)):=by show _=_;unfold clash;rw[decide_eq_true hp];rfl
     go_enter Tryz.func192,Tryz.ntmps192
     go_wp2;go_ret;exact⟨by rw[H.o];rfl,by repeat first | exact bR | refine bA ?_⟩
theorem slice_lines{w:World}(A:Option Addr)(n c:Nat)(h:Int)(h0:0≤h)(h1:h≤c):
  (Instr.slice 27 (.slice A n c) none (some (.int .i64 h)) none).run Tryz.prog w=.ok (.slice (cutA A c 0 6) (h.toNat-0) (c-0)) w:=by
 obtain⟨i,hi,_,hz,_⟩:=info_parts ln_info;exact slice_hi w _ _ i 6 A n c Tryz.underlying27 hi h h0 h1
theorem cutA_zero(A:Option Addr)(c sz:Nat):cutA A c 0 sz=A:=by
 unfold cutA;split
 ·rfl
 ·cases A with
  | none=>rfl
  | some a=>cases a with | mk b o p=>cases p<;>simp[Addr.add]
theorem CacheValid_any (vl:Value) (c:Ca) (w:World) (hT:SlR lnE w vl c.ls):
  Calls Tryz.prog 126 #[.agg #[vl,.int .i64 c.hand]] w fun r w'=>r=.returned (.bool (cav c))∧Below w.heap.size w w':=by
 obtain⟨A,cc,rfl,hbc,hbm,hL⟩:=hT;have hfm2:c.ls.length≤9223372036854775807:=by unfold maxLen at hbm;omega
 have HL:=Hd hL;have hbx:=Own.new_ w 29 #[.slice A c.ls.length cc,.int .i64 c.hand];have hbz:Below w.heap.size w (w.alloc (.cells #[.slice A c.ls.length cc,.int .i64 c.hand] 29)):=bA bR;generalize hW:w.alloc (.cells #[.slice A c.ls.length cc,.int .i64 c.hand] 29)=W0 at hbx hbz;have q0:=hbx.cell_ 0 (v:=.slice A c.ls.length cc) rfl;have q1:=hbx.cell_ 1 (v:=.int .i64 c.hand) rfl;have HBX:=Hd hbx;clear hL hbx hbm;by_cases h1:c.ls.length<1
 ·have g1:(c.ls.length:Int)<1:=by omega
  go_enter Tryz.func126,Tryz.ntmps126
  have HE:Hi (cav c=false):=cav_no fun h=>by have:=(cav_parts h).1;omega
  go_wp2;go_ret;exact⟨by rw[HE.o];rfl,hbz⟩
 ·have g1 : ¬(c.ls.length:Int)<1:=by omega
  by_cases h2:8<c.ls.length
  ·have g2:(8:Int)<(c.ls.length:Int):=by omega
   go_enter Tryz.func126,Tryz.ntmps126
   have HE:Hi (cav c=false):=cav_no fun h=>by have:=(cav_parts h).2.1;omega
   go_wp2;go_ret;exact⟨by rw[HE.o];rfl,hbz⟩
  ·have g2 :¬(8:Int)<(c.ls.length:Int):=by omega
   cases h3:inR c.hand c.ls.length with
   | false=>
    go_enter Tryz.func126,Tryz.ntmps126
    go_wp2_with fail
    refine(within_any _ _ _).mono ?_;rintro e w1 ⟨rfl,rfl⟩;rw[h3];have HE:Hi (cav c=false):=cav_no fun h=>by have:=(cav_parts h).2.2.1;rw[h3]at this;cases this
    go_wp2;go_ret;exact⟨by rw[HE.o];rfl,hbz⟩
   | true =>
    go_enter Tryz.func126,Tryz.ntmps126
    go_wp2_with fail
    refine(within_any _ _ _).mono ?_;rintro e w1 ⟨rfl,rfl⟩;rw[h3];go_wp2;clear q0 q1;go_loopw [4,28] (fun sv u wr=>∃k:Nat,k≤c.ls.length∧u=.int .i64 k∧sv=.bool (loose c.ls k)∧Hi (lok c.ls k=true)∧Own wr w.heap.size 29 #[.slice A c.ls.length cc,.int .i64 c.hand]∧Below w.heap.size w wr) (fun _ u _=>c.ls.length-(intOf u).toNat)
    case atStart=>exact⟨0,by omega,rfl,rfl,rfl,HBX.o,hbz⟩
    case round=>
     clear hbz;obtain⟨k,hk,rfl,rfl,hlok,hbox,hbz⟩:=hrel;have HBOX:=Hd hbox;have hbl:=hbox.lt;clear hbox;by_cases hlt:k<c.ls.length
     ·obtain⟨x,ex⟩:∃x,c.ls[k]?=some x:=⟨_,List.getElem?_eq_getElem hlt⟩
      obtain⟨b,o,rfl,hbb,d0,d1,d2,d3,d4,d5⟩:=(HL.o.below hbz).ln ex;go_wp2_with fail
      refine(lineValid_any x _).mono ?_;rintro e w3 ⟨rfl,hb3'⟩;obtain⟨ob,hb3⟩:=one_box hb3';have HBOX3:=Hd (HBOX.o.below hb3);have HX:=Hd ob;have EX:=Hd ex;have hbz3:=bT hbz hb3;have hxl:w.heap.size<wr.heap.size:=hbl;generalize hgx:wr.heap.size=gx at*;clear hb3' hb3 d0 d1 d2 d3 d4 d5 hbz hbl ob;have hbz:=hbz3;clear hbz3
      cases hx:lnok x with
      | false=>
       have HE:Hi (cav c=false):=cav_ln ex hx;go_wp2;go_ret;exact⟨by rw[HE.o];rfl,hbz⟩
      | true=>
       have q0:=HBOX3.c 0 (.slice (some ⟨b,o,none⟩) c.ls.length cc) rfl;have hsl:=slice_lines (w:=w3) (some ⟨b,o,none⟩) c.ls.length cc k (by omega) (by omega);have HN:=Hd (loose_step ex);rw[cutA_zero,Nat.sub_zero,Nat.sub_zero,Int.toNat_natCast]at hsl;go_wp2;clear q0 hsl;go_loopw [41] (fun u wi=>∃r:Nat,r≤k∧u=.int .i64 r∧Hi (∀(m:Nat) (y:Ln),m<r→c.ls[m]?=some y→clash x y=false)∧Below w3.heap.size w3 wi) (fun u _=>k-(intOf u).toNat)
       case atStart=>exact⟨0,by omega,rfl,(fun m j h=>absurd h (by omega)),bR⟩
       case round=>
        obtain⟨r,hr,rfl,hacc,hbi⟩:=hrel;have HBI:=Hd (HBOX3.o.below hbi);have HXI:=Hd (HX.o.below hbi);have hgl:=HXI.o.lt;by_cases hlr:r<k
        ·obtain⟨y,ey⟩:∃y,c.ls[r]?=some y:=⟨_,List.getElem?_eq_getElem (by omega)⟩
         obtain⟨b',o',e',hbb',d0,d1,d2,d3,d4,d5⟩:=(HL.o.below (bT hbz hbi)).ln ey;injection e' with e';injection e' with e' e2';subst e' e2';have x0:=HXI.c 0 (.bool x.v) rfl;have x1:=HXI.c 1 (.int .i64 x.t) rfl;have x2:=HXI.c 2 (.int .i64 x.p) rfl;have x3:=HXI.c 3 (.int .i64 x.f) rfl;have x4:=HXI.c 4 (.int .i64 x.r) rfl;have x5:=HXI.c 5 (.bool x.w) rfl;have EY:=Hd ey;clear ey;go_wp2_with fail
         refine(clash_any x y _).mono ?_;rintro e w4 ⟨rfl,hb4⟩;have hbi4:=bT (bA hbi) hb4;clear hb4 hbi d0 d1 d2 d3 d4 d5 x0 x1 x2 x3 x4 x5
         cases hc:clash x y with
         | true=>
          have HE:Hi (cav c=false):=cav_clash EX.o hlr EY.o hc;go_wp2;go_ret;exact⟨by rw[HE.o];rfl,bT hbz hbi4⟩
         | false=>
          have HACC:Hi (∀(m:Nat) (y:Ln),m<r+1→c.ls[m]?=some y→clash x y=false):=fun m z hm ez=>by
           rcases Nat.lt_or_ge m r with h | h
           ·exact hacc.o m z h ez
           ·obtain rfl:m=r:=by omega
            rw[EY.o]at ez;injection ez with ez;rw[←ez];exact hc
          go_wp2;go_roundw;case rel=>exact⟨r+1,by omega,by go_num,HACC,hbi4⟩
          case measure=>simp[intOf];omega
        ·obtain rfl:r=k:=by omega
         have HLOK:Hi (lok c.ls (r+1)=true):=lok_step hlok.o EX.o hx hacc.o;have x5:=HXI.c 5 (.bool x.w) rfl;generalize loose c.ls r=L at*
         cases L with
         | true=>
          go_wp2;go_roundw;case rel=>exact⟨r+1,by omega,by go_num,by rw[HN.o];rfl,HLOK,HBI.o,bT hbz hbi⟩
          case measure=>simp[intOf];omega
         | false=>
          go_wp2;go_roundw;case rel=>exact⟨r+1,by omega,by go_num,by rw[HN.o];rfl,HLOK,HBI.o,bT hbz hbi⟩
          case measure=>simp[intOf];omega
     ·obtain rfl:k=c.ls.length:=by omega
      have HE:Hi (cav c=loose c.ls c.ls.length):=by show _=_;rw[cav_end (by omega) (by omega) h3 hlok.o,loose_all]
      go_wp2;go_ret;exact⟨by rw[HE.o];rfl,hbz⟩
end Go.Proofs.YtfbnokjdkhcgoaaGreatDoor
namespace Go.Proofs.YtfbnokjdkhcgoaaGreatDoor
open Go.RowKit Go.Maps Go.WideMaps
def OSt(os:List (Int×Int))(k:Nat)(S:List Int):Prop:=S.length=k∧∀a,a∈S↔∃(r:Nat) (q:Int×Int),r<k∧os[r]?=some q∧q.1=a
theorem ost_zero(os:List (Int×Int)):OSt os 0 []:=⟨rfl,fun a=>⟨fun h=>(by cases h),fun⟨r,q,h,_⟩=>absurd h (by omega)⟩⟩
theorem ost_step{os:List (Int×Int)}{k:Nat}{S:List Int}{o:Int×Int}(h:OSt os k S)(e:os[k]?=some o):OSt os (k+1) (S++[o.1]):=by
 refine⟨by rw[List.length_append,h.1];rfl,fun a=> ?_⟩;rw[List.mem_append,List.mem_singleton,h.2 a];constructor
 ·rintro(⟨r,g,h1,h2⟩ | rfl)
  ·exact⟨r,g,by omega,h2⟩
  ·exact⟨k,o,by omega,e,rfl⟩
 ·rintro⟨r,g,h1,h2,h3⟩;rcases Nat.lt_or_ge r k with h4 | h4
  ·exact .inl ⟨r,g,h4,h2,h3⟩
  ·obtain rfl:r=k:=by omega
   rw[e]at h2;injection h2 with h2;exact .inr (by rw[←h3,←h2])
theorem TagsValid_any(vo:Value)(g:Tg)(w:World)(hT:SlR owE w vo g.os):
  Calls Tryz.prog 127 #[.agg #[.int .i64 g.count,.int .i64 g.next,.int .i64 g.round,vo]] w fun r w'=>r=.returned (.bool (tgv g))∧Below w.heap.size w w':=by
 obtain⟨A,cc,rfl,hbc,hbm,hL⟩:=hT;have hfm2:g.os.length≤9223372036854775807:=by unfold maxLen at hbm;omega
 have HL:=Hd hL;have hmm:= @run_makeMap Tryz.prog;have hbx:=Own.new_ w 32 #[.int .i64 g.count,.int .i64 g.next,.int .i64 g.round,.slice A g.os.length cc];have hbz:Below w.heap.size w (w.alloc (.cells #[.int .i64 g.count,.int .i64 g.next,.int .i64 g.round,.slice A g.os.length cc] 32)):=bA bR;have hsz0:(w.alloc (.cells #[.int .i64 g.count,.int .i64 g.next,.int .i64 g.round,.slice A g.os.length cc] 32)).heap.size=w.heap.size+1:=by simp
 generalize hW:w.alloc (.cells #[.int .i64 g.count,.int .i64 g.next,.int .i64 g.round,.slice A g.os.length cc] 32)=W0 at hbx hbz hsz0;have q0:=hbx.cell_ 0 (v:=.int .i64 g.count) rfl;have q1:=hbx.cell_ 1 (v:=.int .i64 g.next) rfl;have q2:=hbx.cell_ 2 (v:=.int .i64 g.round) rfl;have q3:=hbx.cell_ 3 (v:=.slice A g.os.length cc) rfl;have HBX:=Hd hbx;clear hL hbx;by_cases h1:g.count<1
 ·go_enter Tryz.func127,Tryz.ntmps127
  have HE:Hi (tgv g=false):=tgv_no fun h=>by have:=(tgv_parts h).1;omega
  go_wp2;go_ret;exact⟨by rw[HE.o];rfl,hbz⟩
 by_cases h2:8<g.count
 ·go_enter Tryz.func127,Tryz.ntmps127
  have HE:Hi (tgv g=false):=tgv_no fun h=>by have:=(tgv_parts h).1;omega
  go_wp2;go_ret;exact⟨by rw[HE.o];rfl,hbz⟩
 by_cases h3:g.next<0
 ·go_enter Tryz.func127,Tryz.ntmps127
  have HE:Hi (tgv g=false):=tgv_no fun h=>by have:=(tgv_parts h).1;omega
  go_wp2;go_ret;exact⟨by rw[HE.o];rfl,hbz⟩
 by_cases h4:g.count<g.next
 ·go_enter Tryz.func127,Tryz.ntmps127
  have HE:Hi (tgv g=false):=tgv_no fun h=>by have:=(tgv_parts h).1;omega
  go_wp2;go_ret;exact⟨by rw[HE.o];rfl,hbz⟩
 by_cases h5:g.round<0
 ·go_enter Tryz.func127,Tryz.ntmps127
  have HE:Hi (tgv g=false):=tgv_no fun h=>by have:=(tgv_parts h).1;omega
  go_wp2;go_ret;exact⟨by rw[HE.o];rfl,hbz⟩
 by_cases h6:1000000<g.round
 ·go_enter Tryz.func127,Tryz.ntmps127
  have HE:Hi (tgv g=false):=tgv_no fun h=>by have:=(tgv_parts h).1;omega
  go_wp2;go_ret;exact⟨by rw[HE.o];rfl,hbz⟩
 have HGB:Hi (tgb g=true):=tgb_iff.2 (by omega)
 go_enter Tryz.func127,Tryz.ntmps127
 go_wp2;clear q0 q2 q3;go_loopw [4,41] (fun sv u wr=>∃(k:Nat) (S:List Int) (D:DataW Unit),k≤g.os.length∧u=.int .i64 k∧sv=.int .i64 (tlast g.os k)∧Hi (tok g.os g.next k=true)∧Hi (OSt g.os k S)∧SetI S D∧wr.ownsMap Tryz.prog 3 (plainElem Tryz.prog 4) (w.heap.size+1) k D∧Own wr w.heap.size 32 #[.int .i64 g.count,.int .i64 g.next,.int .i64 g.round,.slice A g.os.length cc]∧Below w.heap.size w wr) (fun _ u _=>g.os.length-(intOf u).toNat)
 case atStart=>exact⟨0,[],_,by omega,rfl,rfl,rfl,ost_zero _,SetD.nil_,(by rw[←hsz0];exact World.ownsMap_made _ _ _ _),HBX.o.alloc,bA hbz⟩
 case round=>
  clear hbz;obtain⟨k,S,D,hk,rfl,rfl,htok,hst,hsd,hmap,hbox,hbz⟩:=hrel;have q1:=hbox.cell_ 1 (v:=.int .i64 g.next) rfl;have HBOX:=Hd hbox;have HMAP:=Hd hmap;have hbl:=hbox.lt;clear hbox hmap;by_cases hlt:k<g.os.length
  ·obtain⟨o,eo⟩:∃o,g.os[k]?=some o:=⟨_,List.getElem?_eq_getElem hlt⟩
   obtain⟨b,ob,rfl,hbb,d0,d1⟩:=(HL.o.below hbz).ow eo;have EO:=Hd eo;generalize htl:tlast g.os k=tl at*;clear eo;by_cases g1:o.2≤tl
   case pos=>
    have HE:Hi (tgv g=false):=tgv_ob EO.o (.inr (.inr (.inl (by omega))));go_wp2;go_ret;exact⟨by rw[HE.o];rfl,bA hbz⟩
   case neg=>
   by_cases g2:g.next≤o.2
   case pos=>
    have HE:Hi (tgv g=false):=tgv_ob EO.o (.inr (.inl (by omega)));go_wp2;go_ret;exact⟨by rw[HE.o];rfl,bA hbz⟩
   case neg=>
   cases g3:inR o.1 16 with
   | false=>
    have HE:Hi (tgv g=false):=tgv_ob EO.o (.inl g3)
    go_wp2_with (go_at_call 37;refine(within_any _ _ _).mono ?_;rintro e w' ⟨rfl,rfl⟩)
    go_ret;exact⟨by rw[HE.o];rfl,bA hbz⟩
   | true=>
   have hr:=inR_iff.1 g3;have hiok:iok o.1:=WalkArith.wf_i64 (by omega);have HMAP2:=Hd (HMAP.o.alloc (.cells #[.int .i64 o.1,.int .i64 o.2] 186));have hlook:=seti_look HMAP2.o hsd hiok;by_cases g4:o.1∈S
   case pos=>
    rw[decide_eq_true g4]at hlook
    have HE:Hi (tgv g=false):=tgv_ob EO.o (.inr (.inr (.inr (by
     obtain⟨r,q,h1,h2,h3⟩:=(hst.o.2 _).1 g4
     exact⟨r,q,h1,h2,h3⟩))))
    go_wp2_with (go_at_call 37;refine(within_any _ _ _).mono ?_;rintro e w' ⟨rfl,rfl⟩)
    go_ret;exact⟨by rw[HE.o];rfl,bA hbz⟩
   case neg=>
    rw[decide_eq_false g4]at hlook;have HTOK:Hi (tok g.os g.next (k+1)=true):=tok_step htok.o EO.o g3 (by omega) (by omega) (fun r q hr eq hq=>g4 ((hst.o.2 _).2 ⟨r,q,hr,eq,hq⟩));have HST:=Hd (ost_step hst.o EO.o);have HSD:=Hd (seti_add hsd hiok g4);have HKEY:=Hd (ikey_of hiok);have HTL:=Hd (tlast_of EO.o);have hkm:k<maxLen:=by omega
    clear hsd g4 hst htok
    go_wp2_with (first
     | (go_at_call 37;refine(within_any _ _ _).mono ?_;rintro e w' ⟨rfl,rfl⟩)
     | (at_mapUpdate;refine wpList_mapUpdate_own _ rfl _ _ _ 121 rfl 3 4 ilaw Tryz.underlying121 (plainElem (H:=Unit) Tryz.prog 4) (w.heap.size+1) k _ rfl HMAP2.o hkm _ _ _ rfl rfl HKEY.o _ [] (plainElem_bool Tryz.underlying4 true) ?_;intro w4 hown4 hgrow4)
     | go_in)
    go_roundw;case rel=>exact⟨k+1,_,_,by omega,by go_num,by rw[HTL.o],HTOK,HST,HSD.o,hown4,own_other HBOX.o.alloc hgrow4 (by simp),bG (bA hbz) hgrow4 (by intro q hq;injection hq with hq;omega)⟩
    case measure=>simp[intOf];omega
  ·obtain rfl:k=g.os.length:=by omega
   have HE:Hi (tgv g=true):=tgv_end HGB.o htok.o;go_wp2;go_ret;exact⟨by rw[HE.o];rfl,hbz⟩
end Go.Proofs.YtfbnokjdkhcgoaaGreatDoor
namespace Go.Proofs.YtfbnokjdkhcgoaaGreatDoor
open Go.RowKit
theorem SpaceOf_any(vo:Value)(g:Tg)(tag:Int)(w:World)(hT:SlR owE w vo g.os):
  Calls Tryz.prog 129 #[.agg #[.int .i64 g.count,.int .i64 g.next,.int .i64 g.round,vo],.int .i64 tag] w fun r w'=>r=.returned (.tuple #[.int .i64 (spV g tag),.bool (spO g tag)])∧Below w.heap.size w w':=by
 have HV:=Hd hT;obtain⟨A,cc,rfl,hbc,hbm,hL⟩:=hT;have hfm2:g.os.length≤9223372036854775807:=by unfold maxLen at hbm;omega
 have HL:=Hd hL;have hbx:=Own.new_ w 32 #[.int .i64 g.count,.int .i64 g.next,.int .i64 g.round,.slice A g.os.length cc];have hbz:Below w.heap.size w (w.alloc (.cells #[.int .i64 g.count,.int .i64 g.next,.int .i64 g.round,.slice A g.os.length cc] 32)):=bA bR;have hsz0:(w.alloc (.cells #[.int .i64 g.count,.int .i64 g.next,.int .i64 g.round,.slice A g.os.length cc] 32)).heap.size=w.heap.size+1:=by simp
 generalize hW:w.alloc (.cells #[.int .i64 g.count,.int .i64 g.next,.int .i64 g.round,.slice A g.os.length cc] 32)=W0 at hbx hbz hsz0;have q0:=hbx.cell_ 0 (v:=.int .i64 g.count) rfl;have q1:=hbx.cell_ 1 (v:=.int .i64 g.next) rfl;have q2:=hbx.cell_ 2 (v:=.int .i64 g.round) rfl;have q3:=hbx.cell_ 3 (v:=.slice A g.os.length cc) rfl;have HBX:=Hd hbx;clear hL hbx
 go_enter Tryz.func129,Tryz.ntmps129
 go_wp2_with fail
 refine(TagsValid_any _ g _ (HV.o.now hbz)).mono ?_;rintro e w1 ⟨rfl,hb1⟩;have HBX1:=Hd (HBX.o.below hb1);have HBZ1:=Hd (bT hbz hb1);clear hb1 q0 q1 q2 q3;have q3:=HBX1.c 3 (.slice A g.os.length cc) rfl
 cases h1:tgv g with
 | false=>
  obtain⟨e1,e2⟩:=spO_no (tag:=tag) h1;have E1:=Hd e1;have E2:=Hd e2;clear e1 e2;go_wp2;go_ret2;exact⟨by rw[E1.o,E2.o];rfl,HBZ1.o⟩
 | true=>
  go_wp2;clear q3;go_loopw [14] (fun u wr=>∃k:Nat,k≤g.os.length∧u=.int .i64 k∧Hi (∀(j:Nat) (q:Int×Int),j<k→g.os[j]?=some q→¬q.2=tag)∧Below w.heap.size w wr) (fun u _=>g.os.length-(intOf u).toNat)
  case atStart=>exact⟨0,by omega,rfl,(fun j q h=>absurd h (by omega)),HBZ1.o⟩
  case round=>
   obtain⟨k,hk,rfl,hacc,hbi⟩:=hrel;by_cases hlt:k<g.os.length
   ·obtain⟨o,eo⟩:∃o,g.os[k]?=some o:=⟨_,List.getElem?_eq_getElem hlt⟩
    obtain⟨b,ob,rfl,hbb,d0,d1⟩:=(HL.o.below hbi).ow eo;by_cases ht:o.2=tag
    ·obtain⟨e1,e2⟩:=spO_some h1 (spc_at eo hacc.o ht) eo;have E1:=Hd e1;have E2:=Hd e2;clear e1 e2 eo;go_wp2;go_ret2;exact⟨by rw[E1.o,E2.o];rfl,bA hbi⟩
    ·have HACC:=Hd (spc_go eo hacc.o ht);clear eo;go_wp2;go_roundw;case rel=>exact⟨k+1,by omega,by go_num,HACC,bA hbi⟩
     case measure=>simp[intOf];omega
   ·obtain⟨e1,e2⟩:=spO_none h1 (spc_none (Nat.le_of_not_lt hlt) hacc.o);have E1:=Hd e1;have E2:=Hd e2;clear e1 e2;go_wp2;go_ret2;exact⟨by rw[E1.o,E2.o];rfl,hbi⟩
theorem KeyFor_any(s p:Int)(w:World):Calls Tryz.prog 40 #[.int .i64 s,.int .i64 p] w fun r w'=>r=.returned (.agg #[.int .i64 (keyI s p),.int .i64 p])∧Below w.heap.size w w':=by
 by_cases h:128≤p
 ·have H:Hi (keyI s p=0):=by show _=_;unfold keyI;rw[if_pos h]
  go_enter Tryz.func40,Tryz.ntmps40
  go_wp2;refine bodyPost_ret (v:=.agg #[.int .i64 (keyI s p),.int .i64 p]) (by simp[results,Tryz.results40,go_sem,H.o]) rfl ⟨rfl, ?_⟩;repeat first | exact bR | refine bS ?_ (by simp) | refine bA ?_
 ·have H:Hi (keyI s p=s):=by show _=_;unfold keyI;rw[if_neg h]
  go_enter Tryz.func40,Tryz.ntmps40
  go_wp2;refine bodyPost_ret (v:=.agg #[.int .i64 (keyI s p),.int .i64 p]) (by simp[results,Tryz.results40,go_sem,H.o]) rfl ⟨rfl, ?_⟩;repeat first | exact bR | refine bS ?_ (by simp) | refine bA ?_
theorem TagOf_any(vo:Value)(g:Tg)(s:Int)(w:World)(hT:SlR owE w vo g.os):
  Calls Tryz.prog 152 #[.agg #[.int .i64 g.count,.int .i64 g.next,.int .i64 g.round,vo],.int .i64 s] w fun r w'=>r=.returned (.tuple #[.int .i64 (tgT g s),.bool (tgO g s)])∧Below w.heap.size w w':=by
 have HV:=Hd hT;obtain⟨A,cc,rfl,hbc,hbm,hL⟩:=hT;have hfm2:g.os.length≤9223372036854775807:=by unfold maxLen at hbm;omega
 have HL:=Hd hL;have hbx:=Own.new_ w 32 #[.int .i64 g.count,.int .i64 g.next,.int .i64 g.round,.slice A g.os.length cc];have hbz:Below w.heap.size w (w.alloc (.cells #[.int .i64 g.count,.int .i64 g.next,.int .i64 g.round,.slice A g.os.length cc] 32)):=bA bR;have hsz0:(w.alloc (.cells #[.int .i64 g.count,.int .i64 g.next,.int .i64 g.round,.slice A g.os.length cc] 32)).heap.size=w.heap.size+1:=by simp
 generalize hW:w.alloc (.cells #[.int .i64 g.count,.int .i64 g.next,.int .i64 g.round,.slice A g.os.length cc] 32)=W0 at hbx hbz hsz0;have q0:=hbx.cell_ 0 (v:=.int .i64 g.count) rfl;have q1:=hbx.cell_ 1 (v:=.int .i64 g.next) rfl;have q2:=hbx.cell_ 2 (v:=.int .i64 g.round) rfl;have q3:=hbx.cell_ 3 (v:=.slice A g.os.length cc) rfl;have HBX:=Hd hbx;clear hL hbx
 go_enter Tryz.func152,Tryz.ntmps152
 go_wp2_with fail
 refine(TagsValid_any _ g _ (HV.o.now hbz)).mono ?_;rintro e w1 ⟨rfl,hb1⟩;have HBX1:=Hd (HBX.o.below hb1);have HBZ1:=Hd (bT hbz hb1);clear hb1 q0 q1 q2 q3;have q0:=HBX1.c 0 (.int .i64 g.count) rfl;have q1:=HBX1.c 1 (.int .i64 g.next) rfl;have q2:=HBX1.c 2 (.int .i64 g.round) rfl;have q3:=HBX1.c 3 (.slice A g.os.length cc) rfl
 cases h1:tgv g with
 | false=>
  obtain⟨e1,e2⟩:=tgO_no (s:=s) h1;have E1:=Hd e1;have E2:=Hd e2;clear e1 e2;go_wp2;go_ret2;exact⟨by rw[E1.o,E2.o];rfl,HBZ1.o⟩
 | true=>
  go_wp2_with fail
  refine(own_any _ g s _ (HV.o.now HBZ1.o)).mono ?_;rintro e w2 ⟨rfl,hb2⟩;have HBX2:=Hd (HBX1.o.below hb2);have HBZ2:=Hd (bT HBZ1.o hb2);clear hb2 q0 q1 q2 q3;have q0:=HBX2.c 0 (.int .i64 g.count) rfl;have q1:=HBX2.c 1 (.int .i64 g.next) rfl;have q2:=HBX2.c 2 (.int .i64 g.round) rfl;have q3:=HBX2.c 3 (.slice A g.os.length cc) rfl;by_cases h2:0≤ownI g.os s
  case neg=>
   obtain⟨e1,e2⟩:=tgO_neg h2;have E1:=Hd e1;have E2:=Hd e2;have h2b:ownI g.os s<0:=by omega
   clear e1 e2;go_wp2;go_ret2;exact⟨by rw[E1.o,E2.o];rfl,HBZ2.o⟩
  case pos=>
   obtain⟨k,o,hk,eo,_⟩:=ownI_lt h2;obtain⟨e1,e2⟩:=tgO_yes h1 hk eo;have E1:=Hd e1;have E2:=Hd e2;have HN:=Hd hk;have EO:=Hd eo;have hkl:=(List.getElem?_eq_some_iff.1 eo).1;have HOW:Hi (∀W,SlR owE W (.slice A g.os.length cc) g.os→Calls Tryz.prog 128 #[.agg #[.int .i64 g.count,.int .i64 g.next,.int .i64 g.round,.slice A g.os.length cc],.int .i64 s] W fun r w'=>r=.returned (.int .i64 (k:Int))∧Below W.heap.size W w'):=fun W h=>by rw[←hk];exact own_any _ g s W h
   rw[hk];have h2b:¬(k:Int)<0:=by omega
   clear e1 e2 hk eo h2 q0 q1 q2 q3;obtain⟨b,ob,rfl,hbb,d0,d1⟩:=(HL.o.now (Nat.le_refl _) HBZ2.o).ow EO.o;have q0:=xcell (HBX2.c 0 (.int .i64 g.count) rfl) HBX2.o.lt;have q1:=xcell (HBX2.c 1 (.int .i64 g.next) rfl) HBX2.o.lt;have q2:=xcell (HBX2.c 2 (.int .i64 g.round) rfl) HBX2.o.lt;have q3:=xcell (HBX2.c 3 (.slice (some ⟨b,ob,none⟩) g.os.length cc) rfl) HBX2.o.lt;have y1:=xcell d1 hbb;clear d0 d1;go_wp2;refine wp_region_ext (by kernel_rfl) (by kernel_rfl) ?_;repeat (go_big_quiet_step ((go_at_call 128;exact ext_call (HOW.o _ (HV.o.now (bT HBZ2.o (Ext.ok _)))))))
   refine wpQuiet_nil ?_;intro _ hw';obtain⟨⟨wq,hq⟩,hw''⟩:=hw';subst hw'';try dsimp only
   go_wp2;go_ret2;exact⟨by rw[E1.o,E2.o];rfl,bT HBZ2.o hq⟩
theorem tagFor_any(vb vf vl vo:Value)(m:Ma)(s p:Int)(w:World)(hM:MaR w vb vf vl vo m):
  Calls Tryz.prog 87 #[.agg #[vb,vf,vl,.int .i64 m.c.hand,.int .i64 m.g.count,.int .i64 m.g.next,.int .i64 m.g.round,vo,.int .i64 m.sp],.int .i64 s,.int .i64 p] w fun r w'=>r=.returned (.tuple #[.int .i64 (tagT m s p),.bool (tagO m s p)])∧Below w.heap.size w w':=by
 have HM:=Hd hM;clear hM;obtain⟨W0,hW,hbx,hbz,_⟩:=box1 w #[vb,vf,vl,.int .i64 m.c.hand,.int .i64 m.g.count,.int .i64 m.g.next,.int .i64 m.g.round,vo,.int .i64 m.sp] 34;have HX0:=Hd hbx;have HB0:=Hd hbz;clear hbx hbz;obtain⟨m00,m10,m20,m30,m40,m50,m60,m70,m80⟩:=cells9 HX0.o;by_cases h:128≤p
 ·have E1:Hi (tagT m s p=-1):=if_pos h;have E2:Hi (tagO m s p=true):=if_pos h
  go_enter Tryz.func87,Tryz.ntmps87
  go_wp2;go_ret2;exact⟨by rw[E1.o,E2.o];rfl,HB0.o⟩
 ·have E1:Hi (tagT m s p=tgT m.g s):=if_neg h;have E2:Hi (tagO m s p=tgO m.g s):=if_neg h
  go_enter Tryz.func87,Tryz.ntmps87
  go_wp2_with fail
  refine(TagOf_any vo m.g s _ (HM.o.o.now HB0.o)).mono ?_;rintro e w1 ⟨rfl,hb1⟩;go_wp2;go_ret2;exact⟨by rw[E1.o,E2.o];rfl,bT HB0.o hb1⟩
theorem l6Tag_any(vb vf vl vo:Value)(m:Ma)(s p:Int)(w:World)(hM:MaR w vb vf vl vo m)(hg:tgv m.g=true):
  Calls Tryz.prog 98 #[.agg #[vb,vf,vl,.int .i64 m.c.hand,.int .i64 m.g.count,.int .i64 m.g.next,.int .i64 m.g.round,vo,.int .i64 m.sp],.int .i64 s,.int .i64 p] w fun r w'=>r=.returned (.tuple #[.int .i64 (tagT m s p),.bool (tagO m s p)])∧Below w.heap.size w w':=by
 have HM:=Hd hM;clear hM;obtain⟨W0,hW,hbx,hbz,_⟩:=box1 w #[vb,vf,vl,.int .i64 m.c.hand,.int .i64 m.g.count,.int .i64 m.g.next,.int .i64 m.g.round,vo,.int .i64 m.sp] 34;have HX0:=Hd hbx;have HB0:=Hd hbz;clear hbx hbz;obtain⟨m00,m10,m20,m30,m40,m50,m60,m70,m80⟩:=cells9 HX0.o;by_cases h:128≤p
 ·have E1:Hi (tagT m s p=-1):=if_pos h;have E2:Hi (tagO m s p=true):=if_pos h
  go_enter Tryz.func98,Tryz.ntmps98
  go_wp2;go_ret2;exact⟨by rw[E1.o,E2.o];rfl,HB0.o⟩
 ·have E1:Hi (tagT m s p=tgT m.g s):=if_neg h;have E2:Hi (tagO m s p=tgO m.g s):=if_neg h;by_cases h2:0≤ownI m.g.os s
  case neg=>
   obtain⟨e1,e2⟩:=tgO_neg h2;have F1:=Hd e1;have F2:=Hd e2;have h2b:ownI m.g.os s<0:=by omega
   clear e1 e2
   go_enter Tryz.func98,Tryz.ntmps98
   go_wp2_with fail
   refine(l5Find_any _ m.g s _ (HM.o.o.now HB0.o)).mono ?_;rintro e w1 ⟨rfl,hb1⟩;go_wp2;go_ret2;exact⟨by rw[E1.o,E2.o,F1.o,F2.o];rfl,bT HB0.o hb1⟩
  case pos=>
   obtain⟨k,o,hk,eo,_⟩:=ownI_lt h2;obtain⟨e1,e2⟩:=tgO_yes hg hk eo;have F1:=Hd e1;have F2:=Hd e2;have HN:=Hd hk;have EO:=Hd eo;have hkl:=(List.getElem?_eq_some_iff.1 eo).1;have h2b:¬(k:Int)<0:=by omega
   clear e1 e2 hk eo h2
   go_enter Tryz.func98,Tryz.ntmps98
   go_wp2_with fail
   refine(l5Find_any _ m.g s _ (HM.o.o.now HB0.o)).mono ?_;rintro e w1 ⟨rfl,hb1⟩;rw[HN.o];obtain⟨A,cc,rfl,hbc,hbm,hL⟩:=HM.o.o;obtain⟨b,ob,rfl,hbb,d0,d1⟩:=(hL.now (Nat.le_refl _) (bT HB0.o hb1)).ow EO.o;have HB1:=Hd (bT HB0.o hb1);have m7:=(HX0.o.below hb1).cell_ 7 (v:=.slice (some ⟨b,ob,none⟩) m.g.os.length cc) rfl;clear m00 m10 m20 m30 m40 m50 m60 m70 m80 hb1;go_wp2;go_ret2;exact⟨by rw[E1.o,E2.o,F1.o,F2.o];rfl,HB1.o⟩
end Go.Proofs.YtfbnokjdkhcgoaaGreatDoor
