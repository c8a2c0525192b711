/- A node in lists of its own. -/
import Derived.Test.YtgjaaffheanobaaGreatZ19
import Derived.Test.YtgjaaffheanobaaGreatZ21
import Derived.Test.YtgjaaffheanobaaGreatZ11
namespace Go.Proofs.YtgjaaffheanobaaGreat
set_option linter.unusedVariables false
set_option linter.unusedSimpArgs false
open Go Go.RowKit

set_option maxHeartbeats 1000000
set_option maxRecDepth 100000

theorem rright_any (p wd:Int) (w:World):Calls Tryz.prog 35 #[.agg #[.int .i64 p,.int .i64 wd]] w (Rets (.bool (rightB p wd)) w):=by
 by_cases h1024:p=1024
 ·subst h1024
  by_cases h2:1≤wd
  ·go_enter Tryz.func35,Tryz.ntmps35
   go_wp2
   go_ret
   exact ⟨ret_bool (by rw [Bool.eq_iff_iff,rightB_iff];simp;try omega),(by (try simp only [alloc_ext,drew_ext,drewN_ext,ext_ext]);exact ⟨_,_,rfl⟩)⟩
  ·go_enter Tryz.func35,Tryz.ntmps35
   go_wp2
   go_ret
   exact ⟨ret_bool (by rw [Bool.eq_iff_iff,rightB_iff];simp;try omega),(by (try simp only [alloc_ext,drew_ext,drewN_ext,ext_ext]);exact ⟨_,_,rfl⟩)⟩
 by_cases h2048:p=2048
 ·subst h2048
  by_cases h2:1≤wd
  ·go_enter Tryz.func35,Tryz.ntmps35
   go_wp2
   go_ret
   exact ⟨ret_bool (by rw [Bool.eq_iff_iff,rightB_iff];simp;try omega),(by (try simp only [alloc_ext,drew_ext,drewN_ext,ext_ext]);exact ⟨_,_,rfl⟩)⟩
  ·go_enter Tryz.func35,Tryz.ntmps35
   go_wp2
   go_ret
   exact ⟨ret_bool (by rw [Bool.eq_iff_iff,rightB_iff];simp;try omega),(by (try simp only [alloc_ext,drew_ext,drewN_ext,ext_ext]);exact ⟨_,_,rfl⟩)⟩
 by_cases h4096:p=4096
 ·subst h4096
  by_cases h2:1≤wd
  ·go_enter Tryz.func35,Tryz.ntmps35
   go_wp2
   go_ret
   exact ⟨ret_bool (by rw [Bool.eq_iff_iff,rightB_iff];simp;try omega),(by (try simp only [alloc_ext,drew_ext,drewN_ext,ext_ext]);exact ⟨_,_,rfl⟩)⟩
  ·go_enter Tryz.func35,Tryz.ntmps35
   go_wp2
   go_ret
   exact ⟨ret_bool (by rw [Bool.eq_iff_iff,rightB_iff];simp;try omega),(by (try simp only [alloc_ext,drew_ext,drewN_ext,ext_ext]);exact ⟨_,_,rfl⟩)⟩
 by_cases h8192:p=8192
 ·subst h8192
  by_cases h2:1≤wd
  ·go_enter Tryz.func35,Tryz.ntmps35
   go_wp2
   go_ret
   exact ⟨ret_bool (by rw [Bool.eq_iff_iff,rightB_iff];simp;try omega),(by (try simp only [alloc_ext,drew_ext,drewN_ext,ext_ext]);exact ⟨_,_,rfl⟩)⟩
  ·go_enter Tryz.func35,Tryz.ntmps35
   go_wp2
   go_ret
   exact ⟨ret_bool (by rw [Bool.eq_iff_iff,rightB_iff];simp;try omega),(by (try simp only [alloc_ext,drew_ext,drewN_ext,ext_ext]);exact ⟨_,_,rfl⟩)⟩
 have e1:(p == 1024)=false:=by simpa using h1024
 have e2:(p == 2048)=false:=by simpa using h2048
 have e3:(p == 4096)=false:=by simpa using h4096
 have e4:(p == 8192)=false:=by simpa using h8192
 have hr:rightB p wd=false:=by
  cases h:rightB p wd
  ·rfl
  ·have:=(rightB_iff.1 h).1;omega
 rw [hr]
 clear h1024 h2048 h4096 h8192 hr
 go_enter Tryz.func35,Tryz.ntmps35
 go_wp2
 go_ret
 exact ⟨rfl,by (try simp only [alloc_ext,drew_ext,drewN_ext,ext_ext]);exact ⟨_,_,rfl⟩⟩

def zeroFrom (k:Nat) (l:Bs):Bool:=(l.drop k).all fun b=>b == 0
theorem zeroFrom_step {k:Nat} {l:Bs} {b:UInt8} (h:l[k]?=some b):zeroFrom k l=((b == 0) && zeroFrom (k+1) l):=by
 obtain ⟨hk,rfl⟩:=List.getElem?_eq_some_iff.1 h
 unfold zeroFrom
 rw [List.drop_eq_getElem_cons hk,List.all_cons]
theorem zeroFrom_end {l:Bs}:zeroFrom l.length l=true:=by unfold zeroFrom;simp
theorem cut_zeros {n:Nat} {d:Dg} (h:n≤32):zeroFrom n d.l=decide (Dg.cut n d=d):=by
 have hd:=d.h
 have hc:Dg.cut n d=d ↔ (Dg.cut n d).l=d.l:=⟨fun h=>by rw [h],Dg.ext'⟩
 have hl:(Dg.cut n d).l=d.l.take n++List.replicate (32 - n) 0:=by
  unfold Dg.cut Dg.pad padB
  simp only [List.length_take,d.h,List.take_take]
  rw [Nat.min_eq_left h,Nat.min_eq_right h]
 rw [Bool.eq_iff_iff,decide_eq_true_iff,hc,hl]
 constructor
 ·intro hz
  conv=>rhs;rw [← List.take_append_drop n d.l]
  congr 1
  symm
  rw [List.eq_replicate_iff]
  refine ⟨by simp [hd],fun b hb=>?_⟩
  have:=List.all_eq_true.1 hz b hb
  simpa using this
 ·intro he
  have h2:d.l.drop n=List.replicate (32 - n) 0:=by
   have:=congrArg (List.drop n) he
   rw [List.drop_left' (by simp [hd];omega)] at this
   exact this.symm
  unfold zeroFrom
  rw [h2]
  simp

end Go.Proofs.YtgjaaffheanobaaGreat