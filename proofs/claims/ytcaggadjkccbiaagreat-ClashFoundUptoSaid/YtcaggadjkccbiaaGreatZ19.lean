/- A list is searched by a function. -/
import Derived.Test.YtcaggadjkccbiaaGreatZ9
namespace Go.Proofs.YtcaggadjkccbiaaGreat
set_option maxHeartbeats 1000000
set_option maxRecDepth 100000
set_option linter.unusedVariables false
set_option linter.unusedSimpArgs false
open Go Go.RowKit

def ixOf {α : Type} (pred : α → Bool) (l : List α) : Int:=match l.findIdx? pred with | some i=>(i : Int) | none=>-1
theorem ixOf_yes {α : Type} {pred : α → Bool} {l : List α} {k : Nat} {x : α} (h : ∀ y ∈ l.take k,pred y = false) (hx : l[k]? = some x) (hp : pred x = true) : ixOf pred l = k:=by
 have : l.findIdx? pred = some k:=by
  rw [List.findIdx?_eq_some_iff_getElem]
  obtain ⟨hk,rfl⟩:=List.getElem?_eq_some_iff.1 hx
  refine ⟨hk,hp,fun j hj=>?_⟩
  have:=h (l[j]'(by omega)) (by rw [List.mem_take_iff_getElem];exact ⟨j,by omega,rfl⟩)
  simpa using this
 simp [ixOf,this]
theorem ixOf_no {α : Type} {pred : α → Bool} {l : List α} (h : ∀ y ∈ l,pred y = false) : ixOf pred l = -1:=by
 have : l.findIdx? pred = none:=by
  rw [List.findIdx?_eq_none_iff];exact h
 simp [ixOf,this]
theorem ixOf_any {α : Type} (pred : α → Bool) (l : List α) : decide (0 ≤ ixOf pred l) = l.any pred:=by
 unfold ixOf
 cases h : l.findIdx? pred with
 | none=>
  rw [List.findIdx?_eq_none_iff] at h
  have : l.any pred = false:=by simpa using h
  rw [this];rfl
 | some i=>
  rw [List.findIdx?_eq_some_iff_getElem] at h
  obtain ⟨hi,hp,_⟩:=h
  have : l.any pred = true:=by rw [List.any_eq_true];exact ⟨_,List.getElem_mem hi,hp⟩
  rw [this];simp

theorem ixf_pair (fid : FuncId) (cap : Array Value) (pred : Pr → Bool) (a : Option Addr) (c : Nat) (l : List Pr) (w : World) (hl : l.length ≤ 8796093022208) (h : PsAt w a l) (hfn : ∀ args w,(callFunc fid args).run Tryz.prog w = .ok (.enter fid args) w)
  (hf : ∀ x ∈ l,∀ bs n,Calls Tryz.prog fid (#[.agg #[.string ⟨x.1.toArray⟩,.string ⟨x.2.toArray⟩]] ++ cap) (ext w bs n) (Rets (.bool (pred x)) (ext w bs n))) :
  Calls Tryz.prog 34 #[.slice a l.length c,.func (.func fid) #[] cap] w (Rets (.int .i64 (ixOf pred l)) w):=by
 have H:=Lib.hid h;clear h
 have HF:=Lib.hid hf;clear hf
 go_enter Tryz.func34,Tryz.ntmps34
 go_wp2
 go_loopw [5,8] (fun _ i wr=>∃ k bs n,i = .int .i64 (k : Nat) ∧ k ≤ l.length ∧ wr = ext w bs n ∧ Hid (∀ x ∈ l.take k,pred x = false)) (fun _ i _=>l.length - (intOf i).toNat)
 case atStart=>exact ⟨0,[],0,rfl,Nat.zero_le _,ext_zero _,by simp [Hid]⟩
 case round=>
  obtain ⟨k,bs,n,rfl,hk,rfl,HE⟩:=hrel
  by_cases hlt : k < l.length
  ·obtain ⟨x,hx⟩ : ∃ x,l[k]? = some x:=⟨_,List.getElem?_eq_getElem hlt⟩
   obtain ⟨b,o,rfl,hb,cf1,cf2⟩:=H.out k x hx
   have HX:=Lib.hid hx;clear hx
   have hcall:=HF.out x (List.mem_of_getElem? HX.out)
   have HC:=Lib.hid hcall;clear hcall
   rcases hp : pred x with _ | _
   ·have HP:=Lib.hid hp;clear hp
    go_wp2_with fail
    refine (HC.out _ _).mono ?_
    rintro e w' ⟨rfl,bs2,n2,rfl⟩
    rw [HP.out]
    go_wp2_with fail
    go_roundw
    case rel=>exact ⟨k + 1,_,_,by go_num,by omega,by (try simp only [ext_alloc,ext_drew,ext_drewN,ext_ext]);rfl,by
     intro y hy
     rw [List.take_add_one,HX.out] at hy
     simp at hy
     rcases hy with hy | rfl
     ·exact HE.out y hy
     ·exact HP.out⟩
    case measure=>simp [intOf];omega
   ·have HP:=Lib.hid hp;clear hp
    go_wp2_with fail
    refine (HC.out _ _).mono ?_
    rintro e w' ⟨rfl,bs2,n2,rfl⟩
    rw [HP.out]
    go_wp2_with fail
    go_ret
    exact ⟨ret_int (ixOf_yes HE.out HX.out HP.out).symm,(by (try simp only [alloc_ext,drew_ext,drewN_ext,ext_ext]);exact ⟨_,_,rfl⟩)⟩
  ·go_wp2
   go_ret
   exact ⟨ret_int (ixOf_no (fun x hx=>HE.out x (by rwa [List.take_of_length_le (by omega)]))).symm,(by (try simp only [alloc_ext,drew_ext,drewN_ext,ext_ext]);exact ⟨_,_,rfl⟩)⟩

theorem ctf_pair (fid : FuncId) (cap : Array Value) (pred : Pr → Bool) (a : Option Addr) (c : Nat) (l : List Pr) (w : World) (hl : l.length ≤ 8796093022208) (h : PsAt w a l) (hfn : ∀ args w,(callFunc fid args).run Tryz.prog w = .ok (.enter fid args) w)
  (hf : ∀ x ∈ l,∀ bs n,Calls Tryz.prog fid (#[.agg #[.string ⟨x.1.toArray⟩,.string ⟨x.2.toArray⟩]] ++ cap) (ext w bs n) (Rets (.bool (pred x)) (ext w bs n))) :
  Calls Tryz.prog 162 #[.slice a l.length c,.func (.func fid) #[] cap] w (Rets (.bool (l.any pred)) w):=by
 have H:=Lib.hid h;clear h
 have HF:=Lib.hid hf;clear hf
 have HFN:=Lib.hid hfn;clear hfn
 have hx:=ixOf_any pred l
 have HX:=Lib.hid hx;clear hx
 go_enter Tryz.func162,Tryz.ntmps162
 go_wp2_with fail
 refine (ixf_pair fid cap pred _ _ _ _ hl H.out HFN.out HF.out).mono ?_
 rintro e w' ⟨rfl,bs,n,rfl⟩
 go_wp2_with fail
 go_ret
 exact ⟨ret_bool HX.out,(by (try simp only [alloc_ext,drew_ext,drewN_ext,ext_ext]);exact ⟨_,_,rfl⟩)⟩

theorem ixf_kid (fid : FuncId) (cap : Array Value) (pred : Kd → Bool) (a : Option Addr) (c : Nat) (l : List Kd) (w : World) (hl : l.length ≤ 8796093022208) (h : KsAt w a l) (hfn : ∀ args w,(callFunc fid args).run Tryz.prog w = .ok (.enter fid args) w)
  (hf : ∀ x ∈ l,∀ bs n,Calls Tryz.prog fid (#[.agg x.c] ++ cap) (ext w bs n) (Rets (.bool (pred x)) (ext w bs n))) :
  Calls Tryz.prog 188 #[.slice a l.length c,.func (.func fid) #[] cap] w (Rets (.int .i64 (ixOf pred l)) w):=by
 have H:=Lib.hid h;clear h
 have HF:=Lib.hid hf;clear hf
 go_enter Tryz.func188,Tryz.ntmps188
 go_wp2
 go_loopw [5,8] (fun _ i wr=>∃ k bs n,i = .int .i64 (k : Nat) ∧ k ≤ l.length ∧ wr = ext w bs n ∧ Hid (∀ x ∈ l.take k,pred x = false)) (fun _ i _=>l.length - (intOf i).toNat)
 case atStart=>exact ⟨0,[],0,rfl,Nat.zero_le _,ext_zero _,by simp [Hid]⟩
 case round=>
  obtain ⟨k,bs,n,rfl,hk,rfl,HE⟩:=hrel
  by_cases hlt : k < l.length
  ·obtain ⟨x,hx⟩ : ∃ x,l[k]? = some x:=⟨_,List.getElem?_eq_getElem hlt⟩
   obtain ⟨b,o,rfl,hb,cf1⟩:=H.out k x hx
   have HX:=Lib.hid hx;clear hx
   have hcall:=HF.out x (List.mem_of_getElem? HX.out)
   have HC:=Lib.hid hcall;clear hcall
   rcases hp : pred x with _ | _
   ·have HP:=Lib.hid hp;clear hp
    go_wp2_with fail
    refine (HC.out _ _).mono ?_
    rintro e w' ⟨rfl,bs2,n2,rfl⟩
    rw [HP.out]
    go_wp2_with fail
    go_roundw
    case rel=>exact ⟨k + 1,_,_,by go_num,by omega,by (try simp only [ext_alloc,ext_drew,ext_drewN,ext_ext]);rfl,by
     intro y hy
     rw [List.take_add_one,HX.out] at hy
     simp at hy
     rcases hy with hy | rfl
     ·exact HE.out y hy
     ·exact HP.out⟩
    case measure=>simp [intOf];omega
   ·have HP:=Lib.hid hp;clear hp
    go_wp2_with fail
    refine (HC.out _ _).mono ?_
    rintro e w' ⟨rfl,bs2,n2,rfl⟩
    rw [HP.out]
    go_wp2_with fail
    go_ret
    exact ⟨ret_int (ixOf_yes HE.out HX.out HP.out).symm,(by (try simp only [alloc_ext,drew_ext,drewN_ext,ext_ext]);exact ⟨_,_,rfl⟩)⟩
  ·go_wp2
   go_ret
   exact ⟨ret_int (ixOf_no (fun x hx=>HE.out x (by rwa [List.take_of_length_le (by omega)]))).symm,(by (try simp only [alloc_ext,drew_ext,drewN_ext,ext_ext]);exact ⟨_,_,rfl⟩)⟩

theorem ctf_kid (fid : FuncId) (cap : Array Value) (pred : Kd → Bool) (a : Option Addr) (c : Nat) (l : List Kd) (w : World) (hl : l.length ≤ 8796093022208) (h : KsAt w a l) (hfn : ∀ args w,(callFunc fid args).run Tryz.prog w = .ok (.enter fid args) w)
  (hf : ∀ x ∈ l,∀ bs n,Calls Tryz.prog fid (#[.agg x.c] ++ cap) (ext w bs n) (Rets (.bool (pred x)) (ext w bs n))) :
  Calls Tryz.prog 164 #[.slice a l.length c,.func (.func fid) #[] cap] w (Rets (.bool (l.any pred)) w):=by
 have H:=Lib.hid h;clear h
 have HF:=Lib.hid hf;clear hf
 have HFN:=Lib.hid hfn;clear hfn
 have hx:=ixOf_any pred l
 have HX:=Lib.hid hx;clear hx
 go_enter Tryz.func164,Tryz.ntmps164
 go_wp2_with fail
 refine (ixf_kid fid cap pred _ _ _ _ hl H.out HFN.out HF.out).mono ?_
 rintro e w' ⟨rfl,bs,n,rfl⟩
 go_wp2_with fail
 go_ret
 exact ⟨ret_bool HX.out,(by (try simp only [alloc_ext,drew_ext,drewN_ext,ext_ext]);exact ⟨_,_,rfl⟩)⟩

end Go.Proofs.YtcaggadjkccbiaaGreat