/- A part of the proofs of this seat. -/
import Derived.Test.YtfbnokjdkhcgoaaGreatDoorCEntP
import Derived.Test.YtfbnokjdkhcgoaaGreatDoorCTagS
set_option linter.unusedVariables false
set_option linter.unusedSimpArgs false
set_option maxRecDepth 1000000
set_option maxHeartbeats 16000000
namespace Go.Proofs.YtfbnokjdkhcgoaaGreatDoor
open Go.RowKit
theorem run_append_fr(base:Nat)(W:World)(v:Value)(n:Nat)(l:List Fr)(x:Fr)(hown:W.ownsRow base 80 5 v n (frE.cells l))(hn:l.length=n)(hs:n≤1048576)(hb:base≤W.heap.size):
  ∃v' w',(Builtin.append_ #[24,24] 24 #[v,.slice (some ⟨W.heap.size,0,none⟩) 1 1]).run Tryz.prog (W.alloc (.cells #[.bool x.used,.int .i64 x.s,.int .i64 x.p,.int .i64 x.r,.int .i64 x.n] 80))=.ok v' w'∧
   w'.ownsRow base 80 5 v' (n+1) (frE.cells (l++[x]))∧(W.alloc (.cells #[.bool x.used,.int .i64 x.s,.int .i64 x.p,.int .i64 x.r,.int .i64 x.n] 80)).grownBy w' v.ownBlock∧(v'.ownBlock=v.ownBlock∨v'.ownBlock=some (W.heap.size+1)):=by
 obtain⟨i0,hi0,hz0,hz1,hz2⟩:=info_parts fr_info;exact run_append_el frE 24 80 i0 _ 40 Tryz.underlying24 hi0 hz0 hz1 hz2 rfl (by omega) base W v n l x hown hn hs hb
theorem sNewTable_any(nf nb:Nat)(w:World)(h1:1≤nf)(h2:nf≤16)(h3:1≤nb)(h4:nb≤16):
  Calls Tryz.prog 222 #[.int .i64 nf,.int .i64 nb] w (Post2 fun v w'=>∃v1 v2,v=.tuple #[.agg #[v1,v2],.bool true]∧TaM w.heap.size w' v1 v2 ⟨List.replicate nb (-1),List.replicate nf frz⟩∧Below w.heap.size w w'):=by
 have hr0:=(Own.new_ w 26 #[.slice none 0 0,.slice none 0 0]).alloc (o:=.cells #[.slice none 0 0,.slice none 0 0] 26);have ho0:=ownAt (W:=w.alloc (.cells #[.slice none 0 0,.slice none 0 0] 26)) (g:=w.heap.size+1) (t:=26) (cs:=#[.slice none 0 0,.slice none 0 0]) (by simp);have hb0:Below w.heap.size w ((w.alloc (.cells #[.slice none 0 0,.slice none 0 0] 26)).alloc (.cells #[.slice none 0 0,.slice none 0 0] 26)):=bA (bA bR);have z0:=ho0.cell_ 0 (v:=.slice none 0 0) rfl;have z1:=ho0.cell_ 1 (v:=.slice none 0 0) rfl;have f0:=ho0.free 0;have f1:=ho0.free 1;have hlo0:=ho0.lt;have ho1:=(ho0.set_ 0 (.slice none 0 0)).set_ 1 (.slice none 0 0);have hr1:=(hr0.far (p:=⟨w.heap.size+1,0,none⟩) (u:=.slice none 0 0) (by simp)).far (p:=⟨w.heap.size+1,1,none⟩) (u:=.slice none 0 0) (by simp);have hb1:=bS (bS hb0 (p:=⟨w.heap.size+1,0,none⟩) (u:=.slice none 0 0) (by simp)) (p:=⟨w.heap.size+1,1,none⟩) (u:=.slice none 0 0) (by simp);have hs1:((((w.alloc (.cells #[.slice none 0 0,.slice none 0 0] 26)).alloc (.cells #[.slice none 0 0,.slice none 0 0] 26)).setCell ⟨w.heap.size+1,0,none⟩ (.slice none 0 0)).setCell ⟨w.heap.size+1,1,none⟩ (.slice none 0 0)).heap.size=w.heap.size+2:=by simp
 generalize hW0:(w.alloc (.cells #[.slice none 0 0,.slice none 0 0] 26)).alloc (.cells #[.slice none 0 0,.slice none 0 0] 26)=W1 at z0 z1 f0 f1 ho1 hr1 hb1 hs1 hlo0;generalize hW:(W1.setCell ⟨w.heap.size+1,0,none⟩ (.slice none 0 0)).setCell ⟨w.heap.size+1,1,none⟩ (.slice none 0 0)=W0 at ho1 hr1 hb1 hs1;have HR0:Hi (Own W0 w.heap.size 26 #[.slice none 0 0,.slice none 0 0]):=hr1;have HO0:Hi (Own W0 (w.heap.size+1) 26 #[.slice none 0 0,.slice none 0 0]):=ho1;have HB0:=Hd hb1;have hs0:=hs1;clear hr1 ho1 hb1 hs1;clear hr0 ho0 hb0;have g1:¬(nf:Int)<1:=by omega
 have g2:¬(16:Int)<(nf:Int):=by omega
 have g3:decide (1≤(nb:Int))=true:=by rw[decide_eq_true_eq];omega
 have g4:decide ((nb:Int)≤16)=true:=by rw[decide_eq_true_eq];omega
 go_enter Tryz.func222,Tryz.ntmps222
 go_wp2_with fail
 refine(l2Buckets_any _ _).mono ?_;rintro e w' ⟨rfl,rfl⟩;rw[g3,g4];clear g3 g4 g1 g2;go_wp2;clear z0 z1 f0 f1 hlo0 hW hW0;go_loopw [7] (fun u wr=>∃(k:Nat) (v:Value),k≤nb∧u=.int .i64 k∧Own wr (w.heap.size+1) 26 #[v,.slice none 0 0]∧Own wr w.heap.size 26 #[.slice none 0 0,.slice none 0 0]∧wr.ownsRow (w.heap.size+2) 3 1 v k (intE.cells (List.replicate k (-1)))∧w.heap.size+2≤wr.heap.size∧Below w.heap.size w wr) (fun u _=>nb-(intOf u).toNat)
 case atStart=>exact⟨0,_,by omega,rfl,HO0.o,HR0.o,World.ownsRow_nil _ _ _ _,by omega,HB0.o⟩
 case round=>
  obtain⟨k,v,hk,rfl,ho,hr,hown,hsz,hb⟩:=hrel;have HO:=Hd ho;have HR:=Hd hr;have HN:=Hd hown;have HB:=Hd hb;clear ho hr hown hb;by_cases hlt:k<nb
  ·obtain⟨v7,w7,hrun,hown7,hg7,_⟩:=run_append_i (w.heap.size+2) wr v k (List.replicate k (-1)) (-1) HN.o (by simp) (by omega) hsz;have hne:∀b:Nat,b<w.heap.size+2→some b≠v.ownBlock:=fun b hb h=>by have:=own_block HN.o b h.symm;omega
   have ho7:=own_other (HO.o.alloc (o:=.cells #[.int .i64 (-1)] 3)) hg7 (hne _ (by omega));have hr7:=own_other (HR.o.alloc (o:=.cells #[.int .i64 (-1)] 3)) hg7 (hne _ (by omega));have hb7:=bG (bA HB.o (o:=.cells #[.int .i64 (-1)] 3)) hg7 (fun j hj=>by have:=own_block HN.o j hj;omega);have hz7:w.heap.size+2≤w7.heap.size:=Nat.le_trans hsz (by have:=hg7.size;simp at this;omega);rw[show List.replicate k (-1:Int)++[-1]=List.replicate (k+1) (-1)by rw[List.replicate_succ']]at hown7;obtain⟨A,c,rfl,_,_,_⟩:=own_rd HN.o;obtain⟨A7,c7,rfl,_,_,_⟩:=own_rd hown7;have q0:=HO.c 0 (.slice A k c) rfl;have s0:=ho7.cell_ 0 (v:=.slice A k c) rfl;have f0:=ho7.free 0;have hl7:=ho7.lt;have HO7:=Hd (ho7.set_ 0 (.slice A7 (k+1) c7));have HR7:=Hd (hr7.far (p:=⟨w.heap.size+1,0,none⟩) (u:=.slice A7 (k+1) c7) (by simp));have HN7:=Hd (ownsRow_setCell_below hown7 (a:=⟨w.heap.size+1,0,none⟩) (by simp) (.slice A7 (k+1) c7));have HB7:=Hd (bS hb7 (p:=⟨w.heap.size+1,0,none⟩) (u:=.slice A7 (k+1) c7) (by simp));clear ho7 hr7 hb7 hown7 hg7 hne
   go_wp2_with (at_builtin;refine wpList_append_run _ rfl (.tmp 28) (.tmp 29) 23 rfl _ _ _ _ rfl rfl hrun ?_)
   go_roundw;case rel=>exact⟨k+1,_,by omega,by go_num,HO7.o,HR7.o,HN7.o,by simpa using hz7,HB7.o⟩
   case measure=>simp[intOf];omega
  ·obtain rfl:k=nb:=by omega
   obtain⟨A,c,rfl,_,_,_⟩:=own_rd HN.o;have HM:=Hd (slm_own (by simp) HN.o)
   obtain⟨w6,rfl⟩:∃w6,w6=wr:=⟨_,rfl⟩
   have hz6:=hsz;have HB6:=Hd (bR (w:=w6));clear hsz;have g5:(0:Int)≤0:=by omega
   go_wp2;go_loopw [8] (fun u wr=>∃(j:Nat) (v:Value),j≤nf∧u=.int .i64 j∧Own wr (w.heap.size+1) 26 #[.slice A k c,v]∧Own wr w.heap.size 26 #[.slice none 0 0,.slice none 0 0]∧SlM intE 3 (w.heap.size+2) wr (.slice A k c) (List.replicate k (-1))∧wr.ownsRow (w.heap.size+2) 80 5 v j (frE.cells (List.replicate j frz))∧w.heap.size+2≤wr.heap.size∧Below w.heap.size w wr) (fun u _=>nf-(intOf u).toNat)
   case atStart=>exact⟨0,_,by omega,rfl,HO.o,HR.o,HM.o,World.ownsRow_nil _ _ _ _,hz6,HB.o⟩
   case round=>
    obtain⟨j,v,hj,rfl,ho,hr,hm,hown,hsz,hb⟩:=hrel;have HO:=Hd ho;have HR:=Hd hr;have HN:=Hd hown;have HB:=Hd hb;have HM:=Hd hm;clear ho hr hown hb hm;by_cases hlt:j<nf
    ·obtain⟨v7,w7,hrun,hown7,hg7,hob7⟩:=run_append_fr (w.heap.size+2) wr v j (List.replicate j frz) frz HN.o (by simp) (by omega) hsz;simp only[frz]at hrun hg7;have hne:∀b:Nat,b<w.heap.size+2→some b≠v.ownBlock:=fun b hb h=>by have:=own_block HN.o b h.symm;omega
     have ho7:=own_other (HO.o.alloc (o:=.cells #[.bool false,.int .i64 0,.int .i64 0,.int .i64 0,.int .i64 (-1)] 80)) hg7 (hne _ (by omega));have hr7:=own_other (HR.o.alloc (o:=.cells #[.bool false,.int .i64 0,.int .i64 0,.int .i64 0,.int .i64 (-1)] 80)) hg7 (hne _ (by omega));have hb7:=bG (bA HB.o (o:=.cells #[.bool false,.int .i64 0,.int .i64 0,.int .i64 0,.int .i64 (-1)] 80)) hg7 (fun j hj=>by have:=own_block HN.o j hj;omega);have hz7:w.heap.size+2≤w7.heap.size:=Nat.le_trans hsz (by have:=hg7.size;simp at this;omega)
     have hm7:SlM intE 3 (w.heap.size+2) w7 (.slice A k c) (List.replicate k (-1)):=by
      refine(HM.o.now (bA bR (o:=.cells #[.bool false,.int .i64 0,.int .i64 0,.int .i64 0,.int .i64 (-1)] 80))).oth (p:=fun e=>e=80) ⟨hg7.size,fun g e cs h hn=>own_other h hg7 ?_⟩ (by decide);intro h';rcases own_ne (HN.o.alloc (.cells #[.bool false,.int .i64 0,.int .i64 0,.int .i64 0,.int .i64 (-1)] 80)) h (fun h2=>hn h2.symm)with h2 | h2
      ·rw[h2]at h';cases h'
      ·exact h2 h'.symm
     rw[show List.replicate j frz++[frz]=List.replicate (j+1) frz by rw[List.replicate_succ']]at hown7;obtain⟨A2,c2,rfl,_,_,_⟩:=own_rd HN.o;obtain⟨A7,c7,rfl,_,_,_⟩:=own_rd hown7;have q0:=HO.c 1 (.slice A2 j c2) rfl;have s0:=ho7.cell_ 1 (v:=.slice A2 j c2) rfl;have f0:=ho7.free 1;have hl7:=ho7.lt;have HO7:=Hd (ho7.set_ 1 (.slice A7 (j+1) c7));have HR7:=Hd (hr7.far (p:=⟨w.heap.size+1,1,none⟩) (u:=.slice A7 (j+1) c7) (by simp));have HN7:=Hd (ownsRow_setCell_below hown7 (a:=⟨w.heap.size+1,1,none⟩) (by simp) (.slice A7 (j+1) c7));have HM7:=Hd (hm7.far (p:=⟨w.heap.size+1,1,none⟩) (u:=.slice A7 (j+1) c7) (by simp));have HB7:=Hd (bS hb7 (p:=⟨w.heap.size+1,1,none⟩) (u:=.slice A7 (j+1) c7) (by simp));clear ho7 hr7 hb7 hown7 hg7 hne hm7 hob7
     go_wp2_with (at_builtin;refine wpList_append_run _ rfl (.tmp 38) (.tmp 40) 24 rfl _ _ _ _ rfl rfl hrun ?_)
     go_roundw;case rel=>exact⟨j+1,_,by omega,by go_num,HO7.o,HR7.o,HM7.o,HN7.o,by simpa using hz7,HB7.o⟩
     case measure=>simp[intOf];omega
    ·obtain rfl:j=nf:=by omega
     obtain⟨A2,c2,rfl,_,_,_⟩:=own_rd HN.o;have HF:=Hd (slm_own (l:=List.replicate j frz) (by simp) HN.o);have q0:=HO.c 0 (.slice A k c) rfl;have q1:=HO.c 1 (.slice A2 j c2) rfl;have r0:=HR.c 0 (.slice none 0 0) rfl;have r1:=HR.c 1 (.slice none 0 0) rfl;have f0:=HR.o.free 0;have f1:=HR.o.free 1;have hlo:=HO.o.lt;have hlr:=HR.o.lt;go_wp2;have o3:=(HR.o.set_ 0 (.slice A k c)).set_ 1 (.slice A2 j c2);have t0:=o3.cell_ 0 (v:=.slice A k c) rfl;have t1:=o3.cell_ 1 (v:=.slice A2 j c2) rfl;refine bodyPost_ret (v:=.tuple #[.agg #[.slice A k c,.slice A2 j c2],.bool true]) (by simp[results,Tryz.results222,go_sem,t0,t1]) rfl ⟨_,rfl,_,_,rfl,⟨?_, ?_⟩, ?_⟩
     ·exact((HM.o.far (p:=⟨w.heap.size,0,none⟩) (u:=.slice A k c) (by simp)).far (p:=⟨w.heap.size,1,none⟩) (u:=.slice A2 j c2) (by simp)).mono (by omega)
     ·exact((HF.o.far (p:=⟨w.heap.size,0,none⟩) (u:=.slice A k c) (by simp)).far (p:=⟨w.heap.size,1,none⟩) (u:=.slice A2 j c2) (by simp)).mono (by omega)
     ·repeat (refine bS ?_ (by simp<;>omega))
      exact HB.o
theorem made_lines1:(madeCells #[.bool false,.int .i64 0,.int .i64 0,.int .i64 0,.int .i64 0,.bool false] (1*6)).toList=lnE.cells (List.replicate 1 lnz):=by kernel_rfl
theorem made_lines2:(madeCells #[.bool false,.int .i64 0,.int .i64 0,.int .i64 0,.int .i64 0,.bool false] (2*6)).toList=lnE.cells (List.replicate 2 lnz):=by kernel_rfl
theorem made_lines3:(madeCells #[.bool false,.int .i64 0,.int .i64 0,.int .i64 0,.int .i64 0,.bool false] (3*6)).toList=lnE.cells (List.replicate 3 lnz):=by kernel_rfl
theorem made_lines4:(madeCells #[.bool false,.int .i64 0,.int .i64 0,.int .i64 0,.int .i64 0,.bool false] (4*6)).toList=lnE.cells (List.replicate 4 lnz):=by kernel_rfl
theorem made_lines5:(madeCells #[.bool false,.int .i64 0,.int .i64 0,.int .i64 0,.int .i64 0,.bool false] (5*6)).toList=lnE.cells (List.replicate 5 lnz):=by kernel_rfl
theorem made_lines6:(madeCells #[.bool false,.int .i64 0,.int .i64 0,.int .i64 0,.int .i64 0,.bool false] (6*6)).toList=lnE.cells (List.replicate 6 lnz):=by kernel_rfl
theorem made_lines7:(madeCells #[.bool false,.int .i64 0,.int .i64 0,.int .i64 0,.int .i64 0,.bool false] (7*6)).toList=lnE.cells (List.replicate 7 lnz):=by kernel_rfl
theorem made_lines8:(madeCells #[.bool false,.int .i64 0,.int .i64 0,.int .i64 0,.int .i64 0,.bool false] (8*6)).toList=lnE.cells (List.replicate 8 lnz):=by kernel_rfl
theorem made_lines(n:Nat)(h1:1≤n)(h2:n≤8):(madeCells #[.bool false,.int .i64 0,.int .i64 0,.int .i64 0,.int .i64 0,.bool false] (n*6)).toList=lnE.cells (List.replicate n lnz):=by
 have:n=1∨n=2∨n=3∨n=4∨n=5∨n=6∨n=7∨n=8:=by omega
 rcases this with rfl | rfl | rfl | rfl | rfl | rfl | rfl | rfl
 ·exact made_lines1
 ·exact made_lines2
 ·exact made_lines3
 ·exact made_lines4
 ·exact made_lines5
 ·exact made_lines6
 ·exact made_lines7
 ·exact made_lines8
theorem sNewCache_any(n:Nat)(w:World)(h1:1≤n)(h2:n≤8):
  Calls Tryz.prog 223 #[.int .i64 n] w (Post2 fun v w'=>∃v1,v=.tuple #[.agg #[v1,.int .i64 0],.bool true]∧SlM lnE 50 w.heap.size w' v1 (List.replicate n lnz)∧Below w.heap.size w w'):=by
 have hmk:∃cs:Array Value,cs.toList=lnE.cells (List.replicate n lnz)∧∀w:World,(Instr.makeSlice 27 (.int .i64 (n:Int)) (.int .i64 (n:Int))).run Tryz.prog w=.ok (.slice (some ⟨w.heap.size,0,none⟩) n n) (w.alloc (.cells cs 50)):=by
  obtain⟨i0,hi0,hz0,hz1,hz2⟩:=info_parts ln_info;have hb:(i0.bytes:Int)*((n:Nat):Int)≤281474976710656:=by rw[hz2];omega
  refine⟨_,made_lines n h1 h2,fun w=> ?_⟩;have hr:=run_make (P:=Tryz.prog) w 27 50 i0 _ Tryz.underlying27 hi0 hz0 .i64 .i64 n n (by omega) (by omega) hb (by omega);simp only[Int.toNat_natCast,hz1]at hr;exact hr
 obtain⟨cs,hcs,hmk⟩:=hmk;have g1:¬(n:Int)<1:=by omega
 have g2:¬(8:Int)<(n:Int):=by omega
 have hsz:cs.size=n*6:=by
  rw[←Array.length_toList,hcs,Enc.cells_length];simp[lnE]
 go_enter Tryz.func223,Tryz.ntmps223
 go_wp2;have o3:=(Own.new_ w 29 #[.slice (some ⟨w.heap.size+1,0,none⟩) n n,.int .i64 0]).alloc (o:=.cells cs 50);have t0:=o3.cell_ 0 (v:=.slice (some ⟨w.heap.size+1,0,none⟩) n n) rfl;have t1:=o3.cell_ 1 (v:=.int .i64 0) rfl;refine bodyPost_ret (v:=.tuple #[.agg #[.slice (some ⟨w.heap.size+1,0,none⟩) n n,.int .i64 0],.bool true]) (by simp[results,Tryz.results223,go_sem,t0,t1]) rfl ⟨_,rfl,_,rfl, ?_,bA (bA bR)⟩;have hl:(List.replicate n lnz).length=n:=by simp
 have ho2:Own ((w.alloc (.cells #[.slice (some ⟨w.heap.size+1,0,none⟩) n n,.int .i64 0] 29)).alloc (.cells cs 50)) (w.heap.size+1) 50 cs:=ownAt (by simp);refine slm_of (by simp) (by simp) (by simp only[maxLen];omega) ⟨⟨by rw[Enc.cells_length],fun _=>⟨w.heap.size+1,0,rfl,ho2.lt,fun j u hu=> ?_⟩⟩,fun _=>⟨w.heap.size+1,cs,rfl,by omega,ho2,by rw[hsz,hl];exact Nat.le_refl _⟩⟩;rw[Nat.zero_add,ho2.cell j,←Array.getElem?_toList,hcs];exact hu
theorem sNewTags_any(n:Nat)(w:World)(h1:1≤n)(h2:n≤8):
  Calls Tryz.prog 224 #[.int .i64 n] w (Post2 fun v w'=>∃v1,v=.tuple #[.agg #[.int .i64 n,.int .i64 0,.int .i64 0,v1],.bool true]∧SlM owE 186 w.heap.size w' v1 []∧Below w.heap.size w w'):=by
 have g1:¬(n:Int)<1:=by omega
 have g2:¬(8:Int)<(n:Int):=by omega
 go_enter Tryz.func224,Tryz.ntmps224
 go_wp2;have o3:=(Own.new_ w 32 #[.int .i64 n,.int .i64 0,.int .i64 0,.slice (some ⟨w.heap.size+1,0,none⟩) 0 0]).alloc (o:=.cells #[] 186);have t0:=o3.cell_ 0 (v:=.int .i64 n) rfl;have t1:=o3.cell_ 1 (v:=.int .i64 0) rfl;have t2:=o3.cell_ 2 (v:=.int .i64 0) rfl;have t3:=o3.cell_ 3 (v:=.slice (some ⟨w.heap.size+1,0,none⟩) 0 0) rfl;refine bodyPost_ret (v:=.tuple #[.agg #[.int .i64 n,.int .i64 0,.int .i64 0,.slice (some ⟨w.heap.size+1,0,none⟩) 0 0],.bool true]) (by simp[results,Tryz.results224,go_sem,t0,t1,t2,t3]) rfl ⟨_,rfl,_,rfl,⟨_,0,rfl,Nat.le_refl _,by simp[maxLen],MineE.nil_ _⟩,bA (bA bR)⟩
theorem takG_len(g:Tg)(s:Int):(takG g s).1.os.length≤g.os.length+1:=by
 unfold takG;split
 ·split
  ·simp
  ·split
   ·split<;>simp[tgz]
   ·simp
 ·simp[tgz]
theorem sNewMachine_g(nf nb nl nt:Nat)(w:World)(h1:1≤nf∧nf≤16)(h2:1≤nb∧nb≤16)(h3:1≤nl∧nl≤8)(h4:1≤nt∧nt≤8):
  Calls Tryz.prog 190 #[.int .i64 nf,.int .i64 nb,.int .i64 nl,.int .i64 nt] w (Post2 fun v w'=>∃(m:Ma) (v1 v2 v3 v4:Value),v=.tuple #[.agg #[v1,v2,v3,.int .i64 m.c.hand,.int .i64 m.g.count,.int .i64 m.g.next,.int .i64 m.g.round,v4,.int .i64 m.sp],.bool true]∧MaM w.heap.size w' v1 v2 v3 v4 m∧SzG 17 m∧Below w.heap.size w w'):=by
 have hr0:=Own.new_ w 34 #[.slice none 0 0,.slice none 0 0,.slice none 0 0,.int .i64 0,.int .i64 0,.int .i64 0,.int .i64 0,.slice none 0 0,.int .i64 0];have hb0:Below w.heap.size w (w.alloc (.cells #[.slice none 0 0,.slice none 0 0,.slice none 0 0,.int .i64 0,.int .i64 0,.int .i64 0,.int .i64 0,.slice none 0 0,.int .i64 0] 34)):=bA bR;have hs0:w.heap.size+1=(w.alloc (.cells #[.slice none 0 0,.slice none 0 0,.slice none 0 0,.int .i64 0,.int .i64 0,.int .i64 0,.int .i64 0,.slice none 0 0,.int .i64 0] 34)).heap.size:=by simp
 generalize hW:w.alloc (.cells #[.slice none 0 0,.slice none 0 0,.slice none 0 0,.int .i64 0,.int .i64 0,.int .i64 0,.int .i64 0,.slice none 0 0,.int .i64 0] 34)=W0 at hr0 hb0 hs0;have HR0:=Hd hr0;have HB0:=Hd hb0;clear hr0 hb0
 go_enter Tryz.func190,Tryz.ntmps190
 go_wp2_with fail
 refine(sNewTable_any nf nb _ h1.1 h1.2 h2.1 h2.2).mono ?_;rintro e w1 ⟨_,rfl,v1,v2,rfl,hT,hb1⟩;have hz1:1≤(⟨List.replicate nb (-1),List.replicate nf frz⟩:Tab).bs.length∧(⟨List.replicate nb (-1),List.replicate nf frz⟩:Tab).bs.length≤16∧(⟨List.replicate nb (-1),List.replicate nf frz⟩:Tab).fs.length≤16:=by simp;omega
 have hzt:tv (⟨List.replicate nb (-1),List.replicate nf frz⟩:Tab)=true∧∀f∈(⟨List.replicate nb (-1),List.replicate nf frz⟩:Tab).fs,f=frz:=⟨tv_new h1.1 h1.2 h2.1 h2.2,fun f hf=>List.eq_of_mem_replicate hf⟩
 generalize (⟨List.replicate nb (-1),List.replicate nf frz⟩:Tab)=T at hT hz1 hzt;have HZT:=Hd hzt;clear hzt;obtain⟨A1,c1,rfl,_⟩:=hT.b;obtain⟨A2,c2,rfl,_⟩:=hT.f;have ho2:=Own.new_ w1 26 #[.slice A1 T.bs.length c1,.slice A2 T.fs.length c2];have hb2:Below w1.heap.size w1 (w1.alloc (.cells #[.slice A1 T.bs.length c1,.slice A2 T.fs.length c2] 26)):=bA bR;generalize hW2:w1.alloc (.cells #[.slice A1 T.bs.length c1,.slice A2 T.fs.length c2] 26)=w2 at ho2 hb2;have HT2:=Hd ((hT.now hb2).mono (show w.heap.size+1≤W0.heap.size by omega));have HO2:=Hd ho2;have HR2:=Hd ((HR0.o.below hb1).below hb2);have HB2:=Hd (bT (bT HB0.o hb1) hb2);have hs2:w.heap.size+1≤w1.heap.size:=by have:=hb1.size;omega
 have hs2':=hb2.size;have k1:=ho2.lt;clear hT hb1 ho2 hb2;go_wp2_with fail
 refine(sNewCache_any nl _ h3.1 h3.2).mono ?_;rintro e w3 ⟨_,rfl,v3,rfl,hL,hb3⟩;have hz2:(List.replicate nl lnz).length≤16:=by simp;omega
 have hzl:cav ⟨List.replicate nl lnz,0⟩=true∧∀x∈List.replicate nl lnz,x=lnz:=⟨cav_new h3.1 h3.2,fun x hx=>List.eq_of_mem_replicate hx⟩
 generalize List.replicate nl lnz=L at hL hz2 hzl;have HZL:=Hd hzl;clear hzl;have hL':=hL;obtain⟨A3,c3,rfl,_⟩:=hL';have ho4a:=Own.new_ w3 29 #[.slice A3 L.length c3,.int .i64 0];have hb4a:Below w3.heap.size w3 (w3.alloc (.cells #[.slice A3 L.length c3,.int .i64 0] 29)):=bA bR;generalize hW4a:w3.alloc (.cells #[.slice A3 L.length c3,.int .i64 0] 29)=w4a at ho4a hb4a;have y1:=ho4a.cell_ 1 (v:=.int .i64 0) rfl;have y2:=ho4a.free 1;have y3:=ho4a.lt;have ho4:Own (w4a.setCell ⟨w3.heap.size,1,none⟩ (.int .i64 0)) w3.heap.size 29 #[.slice A3 L.length c3,.int .i64 0]:=ho4a.set_ 1 (.int .i64 0);have hb4:Below w3.heap.size w3 (w4a.setCell ⟨w3.heap.size,1,none⟩ (.int .i64 0)):=bS hb4a (Nat.le_refl _);generalize hW4:w4a.setCell ⟨w3.heap.size,1,none⟩ (.int .i64 0)=w4 at ho4 hb4;have HT4:=Hd ((HT2.o.now hb3).now hb4);have HL4:=Hd ((hL.now hb4).mono (show w.heap.size+1≤w2.heap.size by omega));have HO4:=Hd ((HO2.o.below hb3).below hb4);have HP4:=Hd ho4;have HR4:=Hd ((HR2.o.below hb3).below hb4);have HB4:=Hd (bT (bT HB2.o hb3) hb4);have hs4:w.heap.size+1≤w3.heap.size:=by have:=hb3.size;omega
 have hs4':=hb4.size;have k2:=hb3.size;have k3:=ho4.lt;clear hL hb3 ho4 hb4 ho4a hb4a;go_wp2_with fail
 refine(sNewTags_any nt _ h4.1 h4.2).mono ?_;rintro e w5 ⟨_,rfl,v4,rfl,hG,hb5⟩;have hG':=hG;obtain⟨A4,c4,e4,_⟩:=hG';rw[List.length_nil]at e4;subst e4;have ho6:=Own.new_ w5 32 #[.int .i64 nt,.int .i64 0,.int .i64 0,.slice A4 0 c4];have hb6:Below w5.heap.size w5 (w5.alloc (.cells #[.int .i64 nt,.int .i64 0,.int .i64 0,.slice A4 0 c4] 32)):=bA bR;generalize hW6:w5.alloc (.cells #[.int .i64 nt,.int .i64 0,.int .i64 0,.slice A4 0 c4] 32)=w6 at ho6 hb6;have HT6:=Hd ((HT4.o.now hb5).now hb6);have HL6:=Hd ((HL4.o.now hb5).now hb6);have HG6:=Hd (hG.now hb6);have HO6:=Hd ((HO4.o.below hb5).below hb6);have HP6:=Hd ((HP4.o.below hb5).below hb6);have HQ6:=Hd ho6;have HR6:=Hd ((HR4.o.below hb5).below hb6);have HB6:=Hd (bT (bT HB4.o hb5) hb6);have hs6:w.heap.size+1≤w5.heap.size:=by have:=hb5.size;omega
 have hs6':=hb6.size;have k4:=hb5.size;have q0:=HQ6.c 0 (.int .i64 nt) rfl;have q1:=HQ6.c 1 (.int .i64 0) rfl;have q2:=HQ6.c 2 (.int .i64 0) rfl;have q3:=HQ6.c 3 (.slice A4 0 c4) rfl;clear hG hb5 ho6 hb6;go_wp2_with fail
 refine(sTakeTag_any (.slice A4 0 c4) ⟨nt,0,0,[]⟩ 0 _ HG6.o.r).mono ?_;rintro e w7 ⟨_,rfl,v7,rfl,hG7,hb7⟩;have hz4:=takG_len ⟨nt,0,0,[]⟩ 0;have hzg:=tgv_begin h4.1 h4.2;generalize (takG ⟨nt,0,0,[]⟩ 0).1=G at hG7 hz4 hzg;have HZG:=Hd hzg;clear hzg;generalize (takG ⟨nt,0,0,[]⟩ 0).2.1=x1;generalize (takG ⟨nt,0,0,[]⟩ 0).2.2.1=x2;generalize (takG ⟨nt,0,0,[]⟩ 0).2.2.2=x3;have hG7':=hG7;obtain⟨A7,c7,rfl,_⟩:=hG7';have HT7:=Hd (HT6.o.now hb7);have HL7:=Hd (HL6.o.now hb7);have HG7:=Hd (hG7.mono (show w.heap.size+1≤w6.heap.size by omega));have HO7:=Hd (HO6.o.below hb7);have HP7:=Hd (HP6.o.below hb7);have HQ7:=Hd (HQ6.o.below hb7);have HR7:=Hd (HR6.o.below hb7);have HB7:=Hd (bT HB6.o hb7);clear q0 q1 q2 q3 hG7 hb7;have s0:=HQ7.c 0 (.int .i64 nt) rfl;have s1:=HQ7.c 1 (.int .i64 0) rfl;have s2:=HQ7.c 2 (.int .i64 0) rfl;have s3:=HQ7.c 3 (.slice A4 0 c4) rfl;have f0:=HQ7.o.free 0;have f1:=HQ7.o.free 1;have f2:=HQ7.o.free 2;have f3:=HQ7.o.free 3;have hlq:=HQ7.o.lt;have n1:w1.heap.size≠w5.heap.size:=by omega
 have n2:w3.heap.size≠w5.heap.size:=by omega
 have n3:w.heap.size≠w5.heap.size:=by omega
 have ho8:=(((HO7.o.far (p:=⟨w5.heap.size,0,none⟩) (u:=.int .i64 G.count) n1).far (p:=⟨w5.heap.size,1,none⟩) (u:=.int .i64 G.next) n1).far (p:=⟨w5.heap.size,2,none⟩) (u:=.int .i64 G.round) n1).far (p:=⟨w5.heap.size,3,none⟩) (u:=.slice A7 G.os.length c7) n1;have hp8:=(((HP7.o.far (p:=⟨w5.heap.size,0,none⟩) (u:=.int .i64 G.count) n2).far (p:=⟨w5.heap.size,1,none⟩) (u:=.int .i64 G.next) n2).far (p:=⟨w5.heap.size,2,none⟩) (u:=.int .i64 G.round) n2).far (p:=⟨w5.heap.size,3,none⟩) (u:=.slice A7 G.os.length c7) n2;have hr8:=(((HR7.o.far (p:=⟨w5.heap.size,0,none⟩) (u:=.int .i64 G.count) n3).far (p:=⟨w5.heap.size,1,none⟩) (u:=.int .i64 G.next) n3).far (p:=⟨w5.heap.size,2,none⟩) (u:=.int .i64 G.round) n3).far (p:=⟨w5.heap.size,3,none⟩) (u:=.slice A7 G.os.length c7) n3;have hq8:=(((HQ7.o.set_ 0 (.int .i64 G.count)).set_ 1 (.int .i64 G.next)).set_ 2 (.int .i64 G.round)).set_ 3 (.slice A7 G.os.length c7);have hb8:=bS (bS (bS (bS HB7.o (p:=⟨w5.heap.size,0,none⟩) (u:=.int .i64 G.count) (by show w.heap.size≤w5.heap.size;omega)) (p:=⟨w5.heap.size,1,none⟩) (u:=.int .i64 G.next) (by show w.heap.size≤w5.heap.size;omega)) (p:=⟨w5.heap.size,2,none⟩) (u:=.int .i64 G.round) (by show w.heap.size≤w5.heap.size;omega)) (p:=⟨w5.heap.size,3,none⟩) (u:=.slice A7 G.os.length c7) (by show w.heap.size≤w5.heap.size;omega);have qa:=HQ7.o.set_ 0 (.int .i64 G.count);have qb:=qa.set_ 1 (.int .i64 G.next);have qc:=qb.set_ 2 (.int .i64 G.round)
 have hm:MaM (w.heap.size+1) w7 (.slice A1 T.bs.length c1) (.slice A2 T.fs.length c2) (.slice A3 L.length c3) (.slice A7 G.os.length c7) ⟨T,⟨L,0⟩,G,0⟩:=⟨HT7.o,HL7.o,HG7.o⟩
 have hm8:MaM (w.heap.size+1) ((((w7.setCell ⟨w5.heap.size,0,none⟩ (.int .i64 G.count)).setCell ⟨w5.heap.size,1,none⟩ (.int .i64 G.next)).setCell ⟨w5.heap.size,2,none⟩ (.int .i64 G.round)).setCell ⟨w5.heap.size,3,none⟩ (.slice A7 G.os.length c7)) (.slice A1 T.bs.length c1) (.slice A2 T.fs.length c2) (.slice A3 L.length c3) (.slice A7 G.os.length c7) ⟨T,⟨L,0⟩,G,0⟩:=
  hm.oth (p:=fun e=>e=32) (stS_trans (n:=4) (stS_trans (n:=4) (stS_trans (n:=4) (stS_set (n:=4) HQ7.o) (stS_set (n:=4) qa)) (stS_set (n:=4) qb)) (stS_set (n:=4) qc)).1 (by decide) (by decide) (by decide) (by decide)
 generalize hW8:(((w7.setCell ⟨w5.heap.size,0,none⟩ (.int .i64 G.count)).setCell ⟨w5.heap.size,1,none⟩ (.int .i64 G.next)).setCell ⟨w5.heap.size,2,none⟩ (.int .i64 G.round)).setCell ⟨w5.heap.size,3,none⟩ (.slice A7 G.os.length c7)=w8 at ho8 hp8 hr8 hq8 hb8 hm8;have HR8:=Hd hr8;have HM8:=Hd hm8;have HB8:=Hd hb8;have x0:=ho8.cell_ 0 (v:=.slice A1 T.bs.length c1) rfl;have x1':=ho8.cell_ 1 (v:=.slice A2 T.fs.length c2) rfl;have x2':=hp8.cell_ 0 (v:=.slice A3 L.length c3) rfl;have x3':=hp8.cell_ 1 (v:=.int .i64 0) rfl;have x4:=hq8.cell_ 0 (v:=.int .i64 G.count) rfl;have x5:=hq8.cell_ 1 (v:=.int .i64 G.next) rfl;have x6:=hq8.cell_ 2 (v:=.int .i64 G.round) rfl;have x7:=hq8.cell_ 3 (v:=.slice A7 G.os.length c7) rfl;have hl1:=ho8.lt;have hl2:=hp8.lt;have hl3:=hq8.lt;have hl4:=hr8.lt;clear ho8 hp8 hr8 hq8 hb8 hm8 hm qa qb qc;obtain⟨r0x,r1x,r2x,r3x,r4x,r5x,r6x,r7x,r8x⟩:=cells9 HR8.o;obtain⟨z0x,z1x,z2x,z3x,z4x,z5x,z6x,z7x,z8x⟩:=free9 HR8.o;go_wp2;have o3:=HR8.o.set9 (.slice A1 T.bs.length c1) (.slice A2 T.fs.length c2) (.slice A3 L.length c3) (.int .i64 0) (.int .i64 G.count) (.int .i64 G.next) (.int .i64 G.round) (.slice A7 G.os.length c7) (.int .i64 0);obtain⟨p0t,p1t,p2t,p3t,p4t,p5t,p6t,p7t,p8t⟩:=cells9 o3;refine bodyPost_ret (v:=.tuple #[.agg #[.slice A1 T.bs.length c1,.slice A2 T.fs.length c2,.slice A3 L.length c3,.int .i64 (⟨T,⟨L,0⟩,G,0⟩:Ma).c.hand,.int .i64 (⟨T,⟨L,0⟩,G,0⟩:Ma).g.count,.int .i64 (⟨T,⟨L,0⟩,G,0⟩:Ma).g.next,.int .i64 (⟨T,⟨L,0⟩,G,0⟩:Ma).g.round,.slice A7 G.os.length c7,.int .i64 (⟨T,⟨L,0⟩,G,0⟩:Ma).sp],.bool true]) (by simp[results,Tryz.results190,go_sem,p0t,p1t,p2t,p3t,p4t,p5t,p6t,p7t,p8t]) rfl ⟨_,rfl,⟨T,⟨L,0⟩,G,0⟩,_,_,_,_,rfl, ?_,SzG.of (mav_begin HZT.o.1 HZL.o.1 HZG.o.1 HZG.o.2 HZT.o.2 HZL.o.2) (fun f hf=>by rw[HZT.o.2 f hf];exact pgo_z), ?_⟩
 ·exact(HM8.o.far9 HR8.o _ _ _ _ _ _ _ _ _).mono (by omega)
 ·repeat (refine bS ?_ (by simp<;>omega))
  exact HB8.o
end Go.Proofs.YtfbnokjdkhcgoaaGreatDoor
