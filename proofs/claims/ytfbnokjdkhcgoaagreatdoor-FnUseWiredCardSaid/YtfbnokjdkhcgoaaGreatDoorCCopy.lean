/- A part of the proofs of this seat. -/
import Derived.Laws.Cover3
import Derived.Deep.RegionLaw
import Derived.Deep.RegionWith
import Derived.Test.YtfbnokjdkhcgoaaGreatDoorCCaP
set_option linter.unusedVariables false
set_option linter.unusedSimpArgs false
set_option maxRecDepth 1000000
set_option maxHeartbeats 16000000
namespace Go.Proofs.YtfbnokjdkhcgoaaGreatDoor
open Go.RowKit
theorem eql_snil{t e:TypeId}(h:Tryz.prog.underlying t=some (.slice e))(a:Option Addr)(n c:Nat)(w:World):(binOp .eql t (.slice a n c) (.slice none 0 0)).run Tryz.prog w=.ok (.bool a.isNone) w:=by
 simp only[binOp];simp[run_equal_slice_nil w t e a n c h]
theorem fr_info:(Tryz.prog.info? 80).map (fun i=>(i.zero,i.size,i.bytes))=some (some (.agg #[.bool false,.int .i64 0,.int .i64 0,.int .i64 0,.int .i64 0]),5,40):=by kernel_rfl
theorem ln_info:(Tryz.prog.info? 50).map (fun i=>(i.zero,i.size,i.bytes))=some (some (.agg #[.bool false,.int .i64 0,.int .i64 0,.int .i64 0,.int .i64 0,.bool false]),6,48):=by kernel_rfl
theorem ow_info:(Tryz.prog.info? 186).map (fun i=>(i.zero,i.size,i.bytes))=some (some (.agg #[.int .i64 0,.int .i64 0]),2,16):=by kernel_rfl
theorem run_copy{α:Type}(E:Enc α)(t ty e:TypeId)(i:TypeInfo)(z:Value)(bytes:Nat)(ht:Tryz.prog.underlying t=some (.slice e))(hi:Tryz.prog.info? e=some i)(hz:i.zero=some z)
  (hs:i.size=E.sz) (hby:i.bytes=bytes) (hzs:z.cells.size=E.sz) (hbb:bytes≤1000)
  (base:Nat) (W:World) (v:Value) (hown:W.ownsRow base e E.sz v 0 []) (B:Nat) (A:Option Addr) (c:Nat) (l:List α) (hr:Rs E B W A l) (hl:l.length≤1048576) (hb:base≤W.heap.size):
  ∃v' w',(Builtin.append_ #[t,t] ty #[v,.slice A l.length c]).run Tryz.prog W=.ok v' w'∧w'.ownsRow base e E.sz v' l.length (E.cells l)∧W.grownBy w' v.ownBlock∧(v'.ownBlock=v.ownBlock∨v'.ownBlock=some W.heap.size):=by
 have hm:0+l.length≤maxLen:=by simp only[maxLen];omega
 have hbytes:(0+l.length)*bytes≤140737488355328:=Nat.le_trans (Nat.mul_le_mul (show 0+l.length≤1048576 by omega) hbb) (by omega);obtain⟨v',w',h1,h2,h3,h4⟩:=run_append_rd (P:=Tryz.prog) W base t ty e i z E.sz bytes ht hi hz hs hby hzs E.pos v 0 [] hown B A l.length c (E.cells l) hr (E.cells_one l) hm hbytes hb;exact⟨v',w',h1,by simpa using h2,h3,h4⟩
theorem owns_lit{base:Nat}{e:TypeId}(W:World)(sz:Nat)(hb:base≤W.heap.size):(W.alloc (.cells #[] e)).ownsRow base e sz (.slice (some ⟨W.heap.size,0,none⟩) 0 0) 0 []:=by
 have h:=World.ownsRow_made (base:=W.heap.size) (e:=e) (size:=sz) W #[] 0 (by simp) (by simp[maxLen]) (by simp);exact own_mono h hb
theorem cloneFrame_any(v:Value)(l:List _)(w:World)(h:SlR frE w v l)(hl:l.length≤1048576):
  Calls Tryz.prog 207 #[v] w (Post2 fun v' w'=>SlM frE 80 w.heap.size w' v' l∧Below w.heap.size w w'):=by
 obtain⟨A,c,rfl,hlc,hcm,hR⟩:=h;obtain⟨i0,hi0,hz0,hz1,hz2⟩:=info_parts fr_info;have hnil:=eql_snil Tryz.underlying24
 cases A with
 | none=>
  have h0:l=[]:=by
   rcases Nat.eq_zero_or_pos l.length with h | h
   ·exact List.length_eq_zero_iff.1 h
   ·obtain⟨b,o,e,_⟩:=hR.at_ h;cases e
  subst h0
  go_enter Tryz.func207,Tryz.ntmps207
  go_wp2;go_ret;exact⟨_,rfl,SlM.nil_ _,bR⟩
 | some ad=>
  have hO:=owns_lit (base:=w.heap.size) (e:=80) w frE.sz (Nat.le_refl _);have hR2:=hR.alloc (.cells #[] 80);obtain⟨v',w',hrun,hown,hg,_⟩:=run_copy frE 24 24 80 i0 _ _ Tryz.underlying24 hi0 hz0 hz1 hz2 rfl (by omega) w.heap.size _ _ hO _ _ c l hR2 hl (by simp);have HM:=Hd (slm_own rfl hown);have HB:Hi (Below w.heap.size w w'):=bG (bA bR) hg (fun k hk=>own_block hO k hk);clear hO hR2 hown hg
  go_enter Tryz.func207,Tryz.ntmps207
  go_wp2_with (at_builtin;refine wpList_append_run _ rfl (.tmp 5) (.tmp 6) 24 rfl _ _ _ _ rfl rfl hrun ?_)
  go_ret;exact⟨_,rfl,HM.o,HB.o⟩
theorem clipFrame_any(A:Option Addr)(n c:Nat)(w:World)(hn:n≤c):Calls Tryz.prog 206 #[.slice A n c] w fun r w'=>r=.returned (.slice A n n)∧w=w':=by
 obtain⟨i0,hi0,_⟩:=info_parts fr_info;have hs:=fun W=>slice_max (P:=Tryz.prog) W 24 80 i0 A n c Tryz.underlying24 hi0 hn
 go_enter Tryz.func206,Tryz.ntmps206
 go_wp2;go_ret;exact⟨rfl,rfl⟩
theorem clipFrame_p(A:Option Addr)(n c:Nat)(w:World)(hn:n≤c):Calls Tryz.prog 206 #[.slice A n c] w (Post2 fun v w'=>v=.slice A n n∧w=w'):=(clipFrame_any A n c w hn).mono fun _ _ h=>⟨_,h.1,rfl,h.2⟩
theorem cloneint_any(v:Value)(l:List _)(w:World)(h:SlR intE w v l)(hl:l.length≤1048576):
  Calls Tryz.prog 205 #[v] w (Post2 fun v' w'=>SlM intE 3 w.heap.size w' v' l∧Below w.heap.size w w'):=by
 obtain⟨A,c,rfl,hlc,hcm,hR⟩:=h;obtain⟨i0,hi0,hz0,hz1,hz2⟩:=info_parts int_info2;have hnil:=eql_snil Tryz.underlying23
 cases A with
 | none=>
  have h0:l=[]:=by
   rcases Nat.eq_zero_or_pos l.length with h | h
   ·exact List.length_eq_zero_iff.1 h
   ·obtain⟨b,o,e,_⟩:=hR.at_ h;cases e
  subst h0
  go_enter Tryz.func205,Tryz.ntmps205
  go_wp2;go_ret;exact⟨_,rfl,SlM.nil_ _,bR⟩
 | some ad=>
  have hO:=owns_lit (base:=w.heap.size) (e:=3) w intE.sz (Nat.le_refl _);have hR2:=hR.alloc (.cells #[] 3);obtain⟨v',w',hrun,hown,hg,_⟩:=run_copy intE 23 23 3 i0 _ _ Tryz.underlying23 hi0 hz0 hz1 hz2 rfl (by omega) w.heap.size _ _ hO _ _ c l hR2 hl (by simp);have HM:=Hd (slm_own rfl hown);have HB:Hi (Below w.heap.size w w'):=bG (bA bR) hg (fun k hk=>own_block hO k hk);clear hO hR2 hown hg
  go_enter Tryz.func205,Tryz.ntmps205
  go_wp2_with (at_builtin;refine wpList_append_run _ rfl (.tmp 5) (.tmp 6) 23 rfl _ _ _ _ rfl rfl hrun ?_)
  go_ret;exact⟨_,rfl,HM.o,HB.o⟩
theorem clipint_any(A:Option Addr)(n c:Nat)(w:World)(hn:n≤c):Calls Tryz.prog 105 #[.slice A n c] w fun r w'=>r=.returned (.slice A n n)∧w=w':=by
 obtain⟨i0,hi0,_⟩:=info_parts int_info2;have hs:=fun W=>slice_max (P:=Tryz.prog) W 23 3 i0 A n c Tryz.underlying23 hi0 hn
 go_enter Tryz.func105,Tryz.ntmps105
 go_wp2;go_ret;exact⟨rfl,rfl⟩
theorem clipint_p(A:Option Addr)(n c:Nat)(w:World)(hn:n≤c):Calls Tryz.prog 105 #[.slice A n c] w (Post2 fun v w'=>v=.slice A n n∧w=w'):=(clipint_any A n c w hn).mono fun _ _ h=>⟨_,h.1,rfl,h.2⟩
theorem cloneLine_any(v:Value)(l:List _)(w:World)(h:SlR lnE w v l)(hl:l.length≤1048576):
  Calls Tryz.prog 147 #[v] w (Post2 fun v' w'=>SlM lnE 50 w.heap.size w' v' l∧Below w.heap.size w w'):=by
 obtain⟨A,c,rfl,hlc,hcm,hR⟩:=h;obtain⟨i0,hi0,hz0,hz1,hz2⟩:=info_parts ln_info;have hnil:=eql_snil Tryz.underlying27
 cases A with
 | none=>
  have h0:l=[]:=by
   rcases Nat.eq_zero_or_pos l.length with h | h
   ·exact List.length_eq_zero_iff.1 h
   ·obtain⟨b,o,e,_⟩:=hR.at_ h;cases e
  subst h0
  go_enter Tryz.func147,Tryz.ntmps147
  go_wp2;go_ret;exact⟨_,rfl,SlM.nil_ _,bR⟩
 | some ad=>
  have hO:=owns_lit (base:=w.heap.size) (e:=50) w lnE.sz (Nat.le_refl _);have hR2:=hR.alloc (.cells #[] 50);obtain⟨v',w',hrun,hown,hg,_⟩:=run_copy lnE 27 27 50 i0 _ _ Tryz.underlying27 hi0 hz0 hz1 hz2 rfl (by omega) w.heap.size _ _ hO _ _ c l hR2 hl (by simp);have HM:=Hd (slm_own rfl hown);have HB:Hi (Below w.heap.size w w'):=bG (bA bR) hg (fun k hk=>own_block hO k hk);clear hO hR2 hown hg
  go_enter Tryz.func147,Tryz.ntmps147
  go_wp2_with (at_builtin;refine wpList_append_run _ rfl (.tmp 5) (.tmp 6) 27 rfl _ _ _ _ rfl rfl hrun ?_)
  go_ret;exact⟨_,rfl,HM.o,HB.o⟩
theorem clipLine_any(A:Option Addr)(n c:Nat)(w:World)(hn:n≤c):Calls Tryz.prog 146 #[.slice A n c] w fun r w'=>r=.returned (.slice A n n)∧w=w':=by
 obtain⟨i0,hi0,_⟩:=info_parts ln_info;have hs:=fun W=>slice_max (P:=Tryz.prog) W 27 50 i0 A n c Tryz.underlying27 hi0 hn
 go_enter Tryz.func146,Tryz.ntmps146
 go_wp2;go_ret;exact⟨rfl,rfl⟩
theorem cloneOwn_any(v:Value)(l:List _)(w:World)(h:SlR owE w v l)(hl:l.length≤1048576):
  Calls Tryz.prog 149 #[v] w (Post2 fun v' w'=>SlM owE 186 w.heap.size w' v' l∧Below w.heap.size w w'):=by
 obtain⟨A,c,rfl,hlc,hcm,hR⟩:=h;obtain⟨i0,hi0,hz0,hz1,hz2⟩:=info_parts ow_info;have hnil:=eql_snil Tryz.underlying30
 cases A with
 | none=>
  have h0:l=[]:=by
   rcases Nat.eq_zero_or_pos l.length with h | h
   ·exact List.length_eq_zero_iff.1 h
   ·obtain⟨b,o,e,_⟩:=hR.at_ h;cases e
  subst h0
  go_enter Tryz.func149,Tryz.ntmps149
  go_wp2;go_ret;exact⟨_,rfl,SlM.nil_ _,bR⟩
 | some ad=>
  have hO:=owns_lit (base:=w.heap.size) (e:=186) w owE.sz (Nat.le_refl _);have hR2:=hR.alloc (.cells #[] 186);obtain⟨v',w',hrun,hown,hg,_⟩:=run_copy owE 30 30 186 i0 _ _ Tryz.underlying30 hi0 hz0 hz1 hz2 rfl (by omega) w.heap.size _ _ hO _ _ c l hR2 hl (by simp);have HM:=Hd (slm_own rfl hown);have HB:Hi (Below w.heap.size w w'):=bG (bA bR) hg (fun k hk=>own_block hO k hk);clear hO hR2 hown hg
  go_enter Tryz.func149,Tryz.ntmps149
  go_wp2_with (at_builtin;refine wpList_append_run _ rfl (.tmp 5) (.tmp 6) 30 rfl _ _ _ _ rfl rfl hrun ?_)
  go_ret;exact⟨_,rfl,HM.o,HB.o⟩
theorem clipOwn_any(A:Option Addr)(n c:Nat)(w:World)(hn:n≤c):Calls Tryz.prog 148 #[.slice A n c] w fun r w'=>r=.returned (.slice A n n)∧w=w':=by
 obtain⟨i0,hi0,_⟩:=info_parts ow_info;have hs:=fun W=>slice_max (P:=Tryz.prog) W 30 186 i0 A n c Tryz.underlying30 hi0 hn
 go_enter Tryz.func148,Tryz.ntmps148
 go_wp2;go_ret;exact⟨rfl,rfl⟩
section
variable {P : Program} {w : World}
theorem step_call{ops:Array Oper}{o:Oper}{a:Act}{K:Act→World→Prop}{Q:Exit→Act→World→Prop}{E:Prop}(hgd:o.guard=none){f:FuncId}{args:Array Value}{R:Value→World→Prop}
  (hx:(execOp a.eval o).run P w=.ok (.enter f args) w) (hc:Calls P f args w (Post2 R)) (h:∀v w',R v w'→K (a.put o.dst v) w'):if Region.wanted o (yielded ops a.tmps)=true then Oper.wp P o a w K Q else E:=by
 have hw:Region.wanted o (yielded ops a.tmps)=true:=by simp[Region.wanted,hgd]
 rw[if_pos hw];unfold Oper.wp;rw[hx,Oper.upon_enter];refine hc.mono ?_;rintro e w' ⟨v,rfl,hr⟩;exact h v w' hr
end
theorem step_append_run{P:Program}{w:World}{ops:Array Oper}{o:Oper}{a:Act}{K:Act→World→Prop}{Q:Exit→Act→World→Prop}{E:Prop}(hgd:o.guard=none)(s x:Operand)(t:TypeId)
  (ho:o.op=.call {callee:=.builtin .append,args:=#[s,x],argTypes:=#[t,t]}) (v y v':Value) (w':World) (hv:a.eval s=v) (hx:a.eval x=y)
  (hrun:(Builtin.append_ #[t,t] o.type #[v,y]).run P w=.ok v' w') (h:K (a.put o.dst v') w'):if Region.wanted o (yielded ops a.tmps)=true then Oper.wp P o a w K Q else E:=by
 have hw:Region.wanted o (yielded ops a.tmps)=true:=by simp[Region.wanted,hgd]
 rw[if_pos hw];unfold Oper.wp execOp;simp only[ho,resolve,invoke,builtin,Sem.run_bind,Sem.run_pure,Result.andThen_ok,List.map_toArray,List.map_cons,List.map_nil,hv,hx,hrun];exact h
theorem gA{a w:World}{row:Option Nat}(h:a.grownBy w row){o:Obj}:a.grownBy (w.alloc o) row:=
 ⟨h.os,h.tape,h.output,Nat.le_trans h.size (by simp),fun i hi hne=>(Below.heap_alloc w o i (Nat.lt_of_lt_of_le hi h.size)).trans (h.block i hi hne)⟩
theorem gR{a:World}{row:Option Nat}:a.grownBy a row:=World.grownBy.refl a row
theorem gT{a b c:World}{row:Option Nat}(h:a.grownBy b row)(k:b.grownBy c row):a.grownBy c row:=h.trans k
theorem MineE.far{α:Type}{E:Enc α}{e:TypeId}{B:Nat}{w:World}{A:Option Addr}{l:List α}(h:MineE E e B w A l){p:Addr}(hp:p.block<B){u:Value}:MineE E e B (w.setCell p u) A l:=by
 have hsz:(w.setCell p u).heap.size=w.heap.size:=by simp
 refine⟨⟨h.is.len,fun hn=> ?_⟩,fun hl=> ?_⟩
 ·obtain⟨g,cs,e1,hB,ho,hs⟩:=h.own hn;obtain⟨b,o,e2,hb,hc⟩:=h.is.at_ hn;refine⟨b,o,e2,by rw[hsz];exact hb,fun j v hv=> ?_⟩;rw[e1]at e2;injection e2 with e2;injection e2 with e3 e4;have hne:b≠p.block:=by omega
  rw[←hc j v hv];simp only[World.cell?,Below.heap_setCell w p u b hne]
 ·obtain⟨g,cs,e1,hB,ho,hs⟩:=h.own hl;exact⟨g,cs,e1,hB,ho.far (by omega),hs⟩
theorem MineE.mono{α:Type}{E:Enc α}{e:TypeId}{B B':Nat}{w:World}{A:Option Addr}{l:List α}(h:MineE E e B w A l)(hb:B'≤B):MineE E e B' w A l:=
 ⟨h.is,fun hl=>let ⟨g,cs,e1,e2,e3⟩:=h.own hl;⟨g,cs,e1,Nat.le_trans hb e2,e3⟩⟩
theorem slm_of{α:Type}{E:Enc α}{e:TypeId}{B:Nat}{w:World}{A:Option Addr}{l:List α}{n c:Nat}(hn:n=l.length)(hc:l.length≤c)(hm:c≤maxLen)(h:MineE E e B w A l):SlM E e B w (.slice A n c) l:=by
 subst hn;exact⟨A,c,rfl,hc,hm,h⟩
theorem tclone_any(vb vf:Value)(t:Tab)(w:World)(hT:TaR w vb vf t)(h1:t.bs.length≤1048576)(h2:t.fs.length≤1048576):
    Calls Tryz.prog 145 #[.agg #[vb,vf]] w fun r w'=>∃v1 v2,r=.returned (.agg #[v1,v2])∧TaM w.heap.size w' v1 v2 t∧Below w.heap.size w w':=by
  have hbx:=(Own.new_ w 26 #[vb,vf]).alloc (o:=.cells #[.slice none 0 0,.slice none 0 0] 26);have hbo:=Own.new_ (w.alloc (.cells #[vb,vf] 26)) 26 #[.slice none 0 0,.slice none 0 0];have hb0:Below w.heap.size w ((w.alloc (.cells #[vb,vf] 26)).alloc (.cells #[.slice none 0 0,.slice none 0 0] 26)):=bA (bA bR);have hs0:((w.alloc (.cells #[vb,vf] 26)).alloc (.cells #[.slice none 0 0,.slice none 0 0] 26)).heap.size=w.heap.size+2:=by simp
  rw[show(w.alloc (.cells #[vb,vf] 26)).heap.size=w.heap.size+1 by simp]at hbo;generalize hW:(w.alloc (.cells #[vb,vf] 26)).alloc (.cells #[.slice none 0 0,.slice none 0 0] 26)=W0 at hbx hbo hb0 hs0;obtain⟨Ab,cb,rfl,hbc,hbm,hB⟩:=hT.b;obtain⟨Af,cf,rfl,hfc,hfm,hF⟩:=hT.f;have q0:=hbx.cell_ 0 (v:=.slice Ab t.bs.length cb) rfl;have q1:=hbx.cell_ 1 (v:=.slice Af t.fs.length cf) rfl;have HX0:=Hd hbx;have HO0:=Hd hbo;have HB0:=Hd hb0;have HT:=Hd hT;have f0:=hbo.free 0;have f1:=hbo.free 1;have z0:=hbo.cell_ 0 (v:=.slice none 0 0) rfl;have z1:=hbo.cell_ 1 (v:=.slice none 0 0) rfl;obtain⟨i0,hi0,_⟩:=info_parts int_info2;obtain⟨j0,hj0,_⟩:=info_parts fr_info;clear hbx hbo hb0 hT hB hF
  go_enter Tryz.func145,Tryz.ntmps145
  go_wp2
  go_region_law (first
    | (refine step_call rfl ?_ (cloneint_any _ t.bs _ (HT.o.b.now (bD HB0.o)) h1) ?_
       go_simp
       rintro vI wI ⟨hMI,hbn⟩;obtain⟨AI,cI,rfl,hcI,hcmI,hmI⟩:=hMI;have HBI:Hi (Below w.heap.size w wI):=bT (bD HB0.o) hbn;have hxI:=HX0.o.drew.below hbn;have x0:=hxI.cell_ 0 (v:=.slice Ab t.bs.length cb) rfl;have x1:=hxI.cell_ 1 (v:=.slice Af t.fs.length cf) rfl;have hoI:=HO0.o.drew.below hbn;have HOI:=Hd hoI;have HMI:=Hd hmI;have HNI:=Hd hbn
       clear hxI hmI hbn hoI)
    | (refine step_call rfl ?_ (clipint_p AI t.bs.length cI _ hcI) ?_
       go_simp
       rintro _ _ ⟨rfl,rfl⟩)
    | (refine step_call rfl ?_ (cloneFrame_any _ t.fs _ (HT.o.f.now HBI.o) h2) ?_
       go_simp
       rintro vF wF ⟨hMF,hbn⟩;obtain⟨AF,cF,rfl,hcF,hcmF,hmF⟩:=hMF;have HBF:Hi (Below w.heap.size w wF):=bT HBI.o hbn;have hoF:=HOI.o.below hbn;have p0:=hoF.free 0;have p1:=hoF.free 1;have p2:=hoF.cell_ 0 (v:=.slice none 0 0) rfl;have p3:=hoF.cell_ 1 (v:=.slice none 0 0) rfl;have HOF:=Hd hoF;have HMF:=Hd hmF;have HNF:=Hd hbn
       clear hmF hbn hoF)
    | (refine step_call rfl ?_ (clipFrame_p AF t.fs.length cF _ hcF) ?_
       go_simp
       rintro _ _ ⟨rfl,rfl⟩))
  all_goals
    go_wp2;have hM1:=((HMI.o.below HNF.o).far (p:=⟨w.heap.size+1,0,none⟩) (u:=.slice AI t.bs.length t.bs.length) (by show w.heap.size+1<W0.heap.size;omega)).far (p:=⟨w.heap.size+1,1,none⟩) (u:=.slice AF t.fs.length t.fs.length) (by show w.heap.size+1<W0.heap.size;omega);have hsI:=HBI.o.size;have hsW:=HNI.o.size;have hsW2:W0.drew.heap.size=W0.heap.size:=rfl;have hM2:=(HMF.o.far (p:=⟨w.heap.size+1,0,none⟩) (u:=.slice AI t.bs.length t.bs.length) (by show w.heap.size+1<wI.heap.size;omega)).far (p:=⟨w.heap.size+1,1,none⟩) (u:=.slice AF t.fs.length t.fs.length) (by show w.heap.size+1<wI.heap.size;omega);have o3:=(HOF.o.set_ 0 (.slice AI t.bs.length t.bs.length)).set_ 1 (.slice AF t.fs.length t.fs.length);have t0:=o3.cell_ 0 (v:=.slice AI t.bs.length t.bs.length) rfl;have t1:=o3.cell_ 1 (v:=.slice AF t.fs.length t.fs.length) rfl;have hl1:t.bs.length≤maxLen:=by omega
    have hl2:t.fs.length≤maxLen:=by omega
    refine bodyPost_ret (v:=.agg #[.slice AI t.bs.length t.bs.length,.slice AF t.fs.length t.fs.length]) (by simp[results,Tryz.results145,go_sem,t0,t1]) rfl ⟨_,_,rfl,⟨slm_of rfl (Nat.le_refl _) hl1 (hM1.mono (by omega)),slm_of rfl (Nat.le_refl _) hl2 (hM2.mono (by omega))⟩,bS (bS HBF.o (by simp)) (by simp)⟩
structure Bytes(B:Nat)(w:World)(A:Option Addr)(n:Nat):Prop where
 at_:∀j,j<n→∃(b o v:Nat),A=some ⟨b,o,none⟩∧b<B∧w.cell? ⟨b,o+j,none⟩=some (.int .u8 (v:Int))∧v≤255
theorem Bytes.keep{B:Nat}{w w':World}{A:Option Addr}{n:Nat}(h:Bytes B w A n)(hk:∀p:Addr,p.block<B→w'.cell? p=w.cell? p):Bytes B w' A n:=
 ⟨fun j hj=>let ⟨b,o,v,e,hb,hc,h1⟩:=h.at_ j hj;⟨b,o,v,e,hb,(hk _ hb).trans hc,h1⟩⟩
theorem xor_nat(a b:Nat)(ha:a<9223372036854775808)(hb:b<9223372036854775808):bits .xor .i64 (a:Int) (b:Int)=((a ^^^ b:Nat):Int):=by
 have hx:a ^^^ b<2 ^ 63:=Nat.xor_lt_two_pow (by omega) (by omega);have h1:(BitVec.ofInt 64 (a:Int)).toNat=a:=by rw[BitVec.ofInt_natCast,BitVec.toNat_ofNat];exact Nat.mod_eq_of_lt (by omega)
 have h2:(BitVec.ofInt 64 (b:Int)).toNat=b:=by rw[BitVec.ofInt_natCast,BitVec.toNat_ofNat];exact Nat.mod_eq_of_lt (by omega)
 show IntKind.i64.wrap ((BitVec.ofInt 64 (a:Int) ^^^ BitVec.ofInt 64 (b:Int)).toNat:Int)=_;rw[BitVec.toNat_xor,h1,h2];exact IntWalk.i64_in _ (by omega)
structure Rdr(B:Nat)(w:World)(g:Nat)(p:Nat):Prop where
 ok:∃A n c,Own w g 139 #[.slice A n c,.int .i64 p]∧Bytes B w A n∧n≤2000∧B≤g
def Picked(n:Int)(B:Nat)(w:World)(g p:Nat)(e:Ending)(w':World):Prop:=
 ∃r:Int,e=.returned (.int .i64 r)∧0≤r∧(1≤n→r<n)∧Rdr B w' g (p+1)∧w.grownBy w' (some g)
theorem rdr_set{B:Nat}{w:World}{g p:Nat}{A:Option Addr}{n c:Nat}(ho:Own w g 139 #[.slice A n c,.int .i64 p])(hb:Bytes B w A n)(hn:n≤2000)(hg:B≤g)(k:Nat):
  Rdr B ((w.setCell ⟨g,1,none⟩ (.int .i64 ((p:Int)+1))).drewN k) g (p+1)∧w.grownBy ((w.setCell ⟨g,1,none⟩ (.int .i64 ((p:Int)+1))).drewN k) (some g):=by
 refine⟨⟨A,n,c, ?_,hb.keep fun q hq=> ?_,hn,hg⟩, ?_⟩
 ·have h:=ho.set_ 1 (.int .i64 ((p:Int)+1));have e:((p:Int)+1)=((p+1:Nat):Int):=by omega
  rw[e]at h⊢;exact h
 ·exact World.cell?_setCell_other w ⟨g,1,none⟩ q _ (fun e=>by subst e;exact absurd hq (by simp;omega))
 ·exact⟨rfl,rfl,rfl,by simp[World.setCell],fun i _ hne=>Below.heap_setCell w ⟨g,1,none⟩ _ i (by rintro rfl;exact hne rfl)⟩
theorem emod_in{v n:Int}(hn:1≤n):0≤v % n∧(1≤n→v % n<n):=⟨Int.emod_nonneg _ (by omega),fun _=>Int.emod_lt_of_pos _ (by omega)⟩
theorem pick_any(B g p:Nat)(n:Int)(w:World)(h:Rdr B w g p)(hp:p≤1000000)(hn:n≤1000000):
  Calls Tryz.prog 91 #[.pointer (some ⟨g,0,none⟩),.int .i64 n] w (Picked n B w g p):=by
 obtain⟨A,len,c,ho,hb,hl,hg⟩:=h.ok;have c0:=ho.cell_ 0 (v:=.slice A len c) rfl;have c1:=ho.cell_ 1 (v:=.int .i64 p) rfl;have f0:=ho.free 0;have f1:=ho.free 1;have HO:=Hd ho;have HB:=Hd hb;clear ho hb h;by_cases h1:n<1
 ·go_enter Tryz.func91,Tryz.ntmps91
  go_wp2;go_ret;exact⟨0,rfl,by omega,fun h=>by omega,rdr_set HO.o HB.o hl hg 0⟩
 ·by_cases hz:len=0
  ·subst hz
   go_enter Tryz.func91,Tryz.ntmps91
   go_wp2;go_ret;exact⟨0,rfl,by omega,fun h=>by omega,rdr_set HO.o HB.o hl hg 0⟩
  ·have hpos:(0:Int)<(len:Int):=by omega
   have hne:((len:Int) == 0)=false:=by simp;omega
   by_cases hlt:p<len
   ·obtain⟨b,o,v,rfl,hbb,hc,hv1⟩:=HB.o.at_ p hlt
    go_enter Tryz.func91,Tryz.ntmps91
    go_wp2;go_ret;exact⟨_,rfl,(emod_in (by omega)).1,(emod_in (by omega)).2,rdr_set HO.o HB.o hl hg 0⟩
   ·obtain⟨b,o,v,rfl,hbb,hc,hv1⟩:=HB.o.at_ (p % len) (Nat.mod_lt _ (by omega));obtain⟨b',o',v2,e',_,hc2,hv21⟩:=HB.o.at_ ((p*7+3) % len) (Nat.mod_lt _ (by omega));injection e' with e';injection e' with e1 e2;subst e1 e2;have r1:((p:Int)).tmod (len:Int)=((p % len:Nat):Int):=rfl
    have r2:((p:Int)*7+3).tmod (len:Int)=(((p*7+3) % len:Nat):Int):=by
     rw[show(p:Int)*7+3=((p*7+3:Nat):Int)by omega];rfl
    have r3:((p:Int)).tdiv (len:Int)=((p / len:Nat):Int):=rfl;have hm1:p % len<len:=Nat.mod_lt _ (by omega);have hm2:(p*7+3) % len<len:=Nat.mod_lt _ (by omega);have hq:p / len≤p:=Nat.div_le_self _ _;generalize p % len=j1 at*;generalize (p*7+3) % len=j2 at*;generalize p / len=j3 at*;have a1:IntKind.i64.wrap ((p:Int)*7)=(p:Int)*7:=IntWalk.i64_in _ (by omega);have a2:IntKind.i64.wrap ((p:Int)*7+3)=(p:Int)*7+3:=IntWalk.i64_in _ (by omega);have a3:IntKind.i64.wrap ((v:Int)*131)=(v:Int)*131:=IntWalk.i64_in _ (by omega);have a4:IntKind.i64.wrap ((v2:Int)*1117)=(v2:Int)*1117:=IntWalk.i64_in _ (by omega);have a5:IntKind.i64.wrap ((v:Int)*131+(v2:Int)*1117)=(v:Int)*131+(v2:Int)*1117:=IntWalk.i64_in _ (by omega);have a6:IntKind.i64.wrap ((p:Int)*29)=(p:Int)*29:=IntWalk.i64_in _ (by omega);have a7:IntKind.i64.wrap ((v:Int)*131+(v2:Int)*1117+(p:Int)*29)=(v:Int)*131+(v2:Int)*1117+(p:Int)*29:=IntWalk.i64_in _ (by omega);have a8:IntKind.i64.wrap ((j3:Int)*53)=(j3:Int)*53:=IntWalk.i64_in _ (by omega);have a9:IntKind.i64.wrap ((v:Int)*131+(v2:Int)*1117+(p:Int)*29+(j3:Int)*53)=(v:Int)*131+(v2:Int)*1117+(p:Int)*29+(j3:Int)*53:=IntWalk.i64_in _ (by omega)
    go_enter Tryz.func91,Tryz.ntmps91
    go_wp2;go_quiet (fail)
    clear r1 r2 r3 a1 a2 a3 a4 a5 a6 a7 a8 a9 hc hc2 c0 c1 f0 f1
    have hE:∃X:Nat,(v:Int)*131+(v2:Int)*1117+(p:Int)*29+(j3:Int)*53=(X:Int)∧X≤1000000000:=⟨v*131+v2*1117+p*29+j3*53,by omega,by omega⟩
    obtain⟨X,hX,hXb⟩:=hE;rw[hX];clear hX
    have hx:bits .xor .i64 (X:Int) ((X:Int) / 64)=((X ^^^ (X / 64):Nat):Int):=by
     rw[show((X:Int) / 64)=((X / 64:Nat):Int)from rfl];exact xor_nat X (X / 64) (by omega) (by omega)
    generalize X ^^^ (X / 64)=R at hx;go_wp2;go_ret;exact⟨_,rfl,(emod_in (by omega)).1,(emod_in (by omega)).2,rdr_set HO.o HB.o hl hg _⟩
theorem byte_info:(Tryz.prog.info? 5).map (fun i=>(i.zero,i.size,i.bytes))=some (some (.int .u8 0),1,1):=by kernel_rfl
theorem rdr_grown{B:Nat}{w w':World}{g p:Nat}(h:Rdr B w g p)(hg:w.grownBy w' none):Rdr B w' g p:=by
 obtain⟨A,n,c,ho,hb,hn,hB⟩:=h.ok;refine⟨A,n,c,(hg.block g ho.lt (by simp)).trans ho,hb.keep fun q hq=>World.cell?_of_block (hg.block q.block (by have:=ho.lt;omega) (by simp)),hn,hB⟩
theorem rdr_grownb{B:Nat}{w w':World}{g p k:Nat}(h:Rdr B w g p)(hg:w.grownBy w' (some k))(hk:g<k):Rdr B w' g p:=by
 obtain⟨A,n,c,ho,hb,hn,hB⟩:=h.ok;refine⟨A,n,c,(hg.block g ho.lt (by simp;omega)).trans ho,hb.keep fun q hq=>World.cell?_of_block (hg.block q.block (by have:=ho.lt;omega) (by simp;omega)),hn,hB⟩
theorem rdr_alloc{B:Nat}{w:World}{g p:Nat}(h:Rdr B w g p)(o:Obj):Rdr B (w.alloc o) g p:=rdr_grown h (World.grownBy_alloc w o none)
theorem rdr_lt{B:Nat}{w:World}{g p:Nat}(h:Rdr B w g p):g<w.heap.size:=by
 obtain⟨A,n,c,ho,_⟩:=h.ok;exact ho.lt
def Numbered(zs:List Int)(B:Nat)(w:World)(g p:Nat)(e:Ending)(w':World):Prop:=
 ∃r:Int,e=.returned (.int .i64 r)∧r∈zs∧Rdr B w' g (p+1)∧w.grownBy w' (some g)
set_option maxRecDepth 100000 in
theorem num_any(B g p g2:Nat)(zs:List Int)(w:World)(h:Rdr B w g p)(hz:Own w g2 3 (zs.map (Value.int .i64)).toArray)(hne:g2≠g)(hp:p≤1000000)(h1:1≤zs.length)(h2:zs.length≤1000):
  Calls Tryz.prog 47 #[.pointer (some ⟨g,0,none⟩),.slice (some ⟨g2,0,none⟩) zs.length zs.length] w (Numbered zs B w g p):=by
 have HZ:=Hd hz;clear hz
 go_enter Tryz.func47,Tryz.ntmps47
 go_wp2_with fail
 refine(pick_any B g p zs.length w h hp (by omega)).mono ?_;rintro e w1 ⟨r,rfl,hr0,hr1,hrd,hg⟩;obtain⟨i,rfl⟩:=Int.eq_ofNat_of_zero_le hr0;have hi:i<zs.length:=by have:=hr1 (by omega);omega
 have hi2:(i:Int)<(zs.length:Int):=by omega
 have hc:w1.cell? ⟨g2,i,none⟩=some (.int .i64 zs[i]):=hg.cell (HZ.o.cell_ i (by simp[hi])) (by simp;omega);have hm:Hi (zs[i]∈zs):=List.getElem_mem hi;generalize zs[i]=z at hc hm;clear hr1;have HRD:=Hd hrd;have HG:=Hd hg;clear hrd hg;go_wp2;go_ret;exact⟨_,rfl,hm.o,HRD.o,HG.o⟩
end Go.Proofs.YtfbnokjdkhcgoaaGreatDoor
