/- A part of the proofs of this seat. -/
import Derived.Test.YtfbnokjdkhcgoaaGreatDoorCRelC
set_option linter.unusedVariables false
set_option linter.unusedSimpArgs false
set_option maxRecDepth 1000000
set_option maxHeartbeats 16000000
namespace Go.Proofs.YtfbnokjdkhcgoaaGreatDoor
open Go.RowKit
theorem keysL_count:∀fs:List Fr,(keysL fs).length=fs.countP (·.used)
  | []=>rfl
  | y::l=>by
    have ih:=keysL_count l;unfold keysL at ih⊢;rw[List.countP_cons,List.filterMap_cons]
    cases hu:y.used with
    | true=>simp[ih]
    | false=>simp[ih]
theorem kys_count{t:Tab}(h:tv t=true):(kys t).length=t.fs.countP (·.used):=by
 unfold kys;rw[if_pos h,ksrt_length,keysL_count]
theorem count_set:∀{fs:List Fr} {i:Nat} {f:Fr} (g:Fr),fs[i]?=some f→(fs.set i g).countP (·.used)+(if f.used=true then 1 else 0)=fs.countP (·.used)+(if g.used=true then 1 else 0)
  | [],i,f,g,e=>by simp at e
  | x::l,0,f,g,e=>by
    simp only[List.getElem?_cons_zero,Option.some.injEq]at e;subst e;rw[List.set_cons_zero,List.countP_cons,List.countP_cons];omega
  | x::l,i+1,f,g,e=>by
    simp only[List.getElem?_cons_succ]at e;have ih:=count_set g e;rw[List.set_cons_succ,List.countP_cons,List.countP_cons];omega
def nuse(m:Ma):Nat:=m.t.fs.countP (·.used)
theorem put_nuse{m:Ma}{s p fr r:Int}(h:putOK m s p fr r=true):nuse (putV m s p fr r)=nuse m+1:=by
 obtain⟨k,f0,_,ef,hu,_,_,_,_,hv⟩:=put_at h;unfold nuse;rw[hv];have:=count_set ⟨true,s,p,r,m.t.bs.getD (bkt m.t s p) 0⟩ ef;rw[if_neg (by rw[hu];decide),if_pos rfl]at this;simpa using this
end Go.Proofs.YtfbnokjdkhcgoaaGreatDoor
