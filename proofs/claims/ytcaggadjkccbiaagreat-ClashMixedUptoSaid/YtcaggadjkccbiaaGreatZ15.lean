/- Keys that rise. -/
import Derived.Test.YtcaggadjkccbiaaGreatZ11
namespace Go.Proofs.YtcaggadjkccbiaaGreat
set_option maxHeartbeats 1000000
set_option maxRecDepth 100000
set_option linter.unusedVariables false
set_option linter.unusedSimpArgs false
open Go Go.RowKit

def risesFrom (m:Nat):Option Bs→List Bs→Bool
 | _,[]=>true
 | pv,k::t=>decide (1≤k.length) && decide (k.length≤m) && (match pv with | none=>true | some q=>Op.bytesLess q k) && risesFrom m (some k) t

theorem risesDrop {α:Type} (l:List α) (k:Nat) (x:α) (hx:l[k]?=some x) (m:Nat) (f:α→Bs) :
  risesFrom m (if k=0 then none else (l[k - 1]?).map f) ((l.drop k).map f) =
   (decide (1≤(f x).length) && decide ((f x).length≤m) && (match (if k=0 then none else (l[k - 1]?).map f) with | none=>true | some q=>Op.bytesLess q (f x)) && risesFrom m (if k+1=0 then none else (l[k+1 - 1]?).map f) ((l.drop (k+1)).map f)):=by
 obtain ⟨hk,rfl⟩:=List.getElem?_eq_some_iff.1 hx
 rw [← List.getElem_cons_drop hk]
 simp only [List.map_cons,risesFrom,Nat.add_eq_zero_iff,Nat.one_ne_zero,and_false,if_false,Nat.add_sub_cancel,hx,Option.map_some]

theorem risesDrop' (l:List Bs) (k:Nat) (x:Bs) (hx:l[k]?=some x) (m:Nat) :
  risesFrom m (if k=0 then none else l[k - 1]?) (l.drop k) =
   (decide (1≤x.length) && decide (x.length≤m) && (match (if k=0 then none else l[k - 1]?) with | none=>true | some q=>Op.bytesLess q x) && risesFrom m (if k+1=0 then none else l[k+1 - 1]?) (l.drop (k+1))):=by
 have:=risesDrop l k x hx m (fun x=>x)
 simpa using this
theorem rises_no1 {r r':Bool} {x:Bs} {m:Nat} {pv:Option Bs} (h:r=(decide (1≤x.length) && decide (x.length≤m) && (match pv with | none=>true | some q=>Op.bytesLess q x) && r')) (h1:x.length<1):r=false:=by
 rw [h,show decide (1≤x.length)=false from decide_eq_false (by omega)];rfl
theorem rises_no2 {r r':Bool} {x:Bs} {m:Nat} {pv:Option Bs} (h:r=(decide (1≤x.length) && decide (x.length≤m) && (match pv with | none=>true | some q=>Op.bytesLess q x) && r')) (h1:m<x.length):r=false:=by
 rw [h,show decide (x.length≤m)=false from decide_eq_false (by omega)];simp
theorem rises_no3 {r r':Bool} {x q:Bs} {m:Nat} (h:r=(decide (1≤x.length) && decide (x.length≤m) && (match some q with | none=>true | some q=>Op.bytesLess q x) && r')) (h1:Op.bytesLess q x=false):r=false:=by
 rw [h];simp [h1]
theorem rises_yes0 {r r':Bool} {x:Bs} {m:Nat} (h:r=(decide (1≤x.length) && decide (x.length≤m) && (match (none:Option Bs) with | none=>true | some q=>Op.bytesLess q x) && r')) (h1:¬ x.length<1) (h2:¬ m<x.length):r=r':=by
 rw [h,decide_eq_true (show 1≤x.length by omega),decide_eq_true (show x.length≤m by omega)];rfl
theorem rises_yes {r r':Bool} {x q:Bs} {m:Nat} (h:r=(decide (1≤x.length) && decide (x.length≤m) && (match some q with | none=>true | some q=>Op.bytesLess q x) && r')) (h1:¬ x.length<1) (h2:¬ m<x.length) (h3:Op.bytesLess q x=true):r=r':=by
 rw [h,decide_eq_true (show 1≤x.length by omega),decide_eq_true (show x.length≤m by omega)];simp [h3]

theorem pair_key (p:Pr) (w:World):Calls Tryz.prog 161 #[.agg #[.string ⟨p.1.toArray⟩,.string ⟨p.2.toArray⟩]] w (Rets (.string ⟨p.1.toArray⟩) w):=by
 go_enter Tryz.func161,Tryz.ntmps161
 go_wp2
 go_ret
 exact ⟨rfl,by (try simp only [alloc_ext,drew_ext,drewN_ext,ext_ext]);exact ⟨_,_,rfl⟩⟩

theorem sep_key (p:Bs) (w:World):Calls Tryz.prog 166 #[.string ⟨p.toArray⟩] w fun e w'=>e=.returned (.string ⟨p.toArray⟩)∧w=w':=by
 go_enter Tryz.func166,Tryz.ntmps166
 go_wp2
 go_ret
 exact ⟨rfl,rfl⟩

theorem rises_pair (P:Nat) (wd:Int) (a:Option Addr) (c:Nat) (l:List Pr) (w:World) (hP:P≤8192) (hl:l.length≤8796093022208) (hs:∀ x∈l,(x.1).length≤140737488351232) (h:PsAt w a l) :
  Calls Tryz.prog 160 #[.agg #[.int .i64 P,.int .i64 wd],.slice a l.length c,.func (.func 161) #[] #[]] w (Rets (.bool (risesFrom (P / 16) none (l.map fun x=>x.1))) w):=by
 have H:=Lib.hid h;clear h
 have HS:=Lib.hid hs;clear hs
 go_enter Tryz.func160,Tryz.ntmps160
 go_wp2
 go_loopw [7,8,9,12] (fun _ _ _ i wr=>∃ k bs n,i=.int .i64 (k:Nat)∧k≤l.length∧wr=ext (w.alloc (.cells #[.int .i64 P,.int .i64 wd] 24)) bs n∧Hid (risesFrom (P / 16) none (l.map fun x=>x.1)=risesFrom (P / 16) (if k=0 then none else (l[k - 1]?).map fun x=>x.1) ((l.drop k).map fun x=>x.1))) (fun _ _ _ i _=>l.length - (intOf i).toNat)
 case atStart=>exact ⟨0,[],0,rfl,Nat.zero_le _,ext_zero _,rfl⟩
 case round=>
  obtain ⟨k,bs,n,rfl,hk,rfl,HE⟩:=hrel
  by_cases hlt:k<l.length
  ·obtain ⟨x,hx⟩:∃ x,l[k]?=some x:=⟨_,List.getElem?_eq_getElem hlt⟩
   have hd:=risesDrop l k x hx (P / 16) (fun x=>x.1)
   obtain ⟨b,o,rfl,hb,cf1,cf2⟩:=H.out k x hx
   have hxl:=HS.out x (List.mem_of_getElem? hx)
   have HX:=Lib.hid hx;have HD:=Lib.hid hd;clear hx hd
   have hbb:b<w.heap.size+1:=by omega
   by_cases h1:(x.1).length<1
   ·have hf:=Lib.hid (rises_no1 (x:=x.1) (HE.out.trans (by rw [HD.out])) h1)
    go_wp2_with (go_at_call 161;refine (pair_key _ _).mono ?_;rintro e w' ⟨rfl,bs1,n1,rfl⟩)
    go_ret
    rw [hf.out]
    exact ⟨rfl,by (try simp only [alloc_ext,drew_ext,drewN_ext,ext_ext]);exact ⟨_,_,rfl⟩⟩
   ·by_cases h2:P / 16<(x.1).length
    ·have hf:=Lib.hid (rises_no2 (x:=x.1) (HE.out.trans (by rw [HD.out])) h2)
     go_wp2_with (first | (go_at_call 161;refine (pair_key _ _).mono ?_;rintro e w' ⟨rfl,bs1,n1,rfl⟩) | (go_at_call 116;refine (maxKey_any _ _ _ (by omega) (by omega)).mono ?_;rintro e w' ⟨rfl,bs2,n2,rfl⟩))
     go_ret
     rw [hf.out]
     exact ⟨rfl,by (try simp only [alloc_ext,drew_ext,drewN_ext,ext_ext]);exact ⟨_,_,rfl⟩⟩
    ·by_cases h3:0<k
     ·obtain ⟨y,hy⟩:∃ y,l[k - 1]?=some y:=⟨_,List.getElem?_eq_getElem (show k - 1<l.length by omega)⟩
      obtain ⟨b',o',hb',hb'',cg1,cg2⟩:=H.out (k - 1) y hy
      obtain ⟨rfl,rfl⟩:b'=b∧o'=o:=by cases hb';exact ⟨rfl,rfl⟩
      clear hb' hb''
      have hkk:((k:Int) - 1).toNat=k - 1:=by omega
      have HY:=Lib.hid hy;clear hy
      have hpv:(if k=0 then none else (l[k - 1]?).map fun x=>x.1)=some (y.1):=by rw [if_neg (by omega),HY.out];rfl
      have HV:=Lib.hid hpv;clear hpv
      by_cases h4:Op.bytesLess (y.1) (x.1)=true
      ·have hf:=Lib.hid (rises_yes (x:=x.1) (HE.out.trans (by rw [HD.out,HV.out])) h1 h2 h4)
       go_wp2_with (first | (go_at_call 161;refine (pair_key _ _).mono ?_;rintro e w' ⟨rfl,bs1,n1,rfl⟩) | (go_at_call 116;refine (maxKey_any _ _ _ (by omega) (by omega)).mono ?_;rintro e w' ⟨rfl,bs2,n2,rfl⟩))
       go_roundw
       case rel=>exact ⟨k+1,_,_,by go_num,by omega,by (try simp only [ext_alloc,ext_drew,ext_drewN,ext_ext]);rfl,hf.out⟩
       case measure=>simp [intOf];omega
      ·have h4':Op.bytesLess (y.1) (x.1)=false:=by simpa using h4
       clear h4
       have hf:=Lib.hid (rises_no3 (x:=x.1) (HE.out.trans (by rw [HD.out,HV.out])) h4')
       go_wp2_with (first | (go_at_call 161;refine (pair_key _ _).mono ?_;rintro e w' ⟨rfl,bs1,n1,rfl⟩) | (go_at_call 116;refine (maxKey_any _ _ _ (by omega) (by omega)).mono ?_;rintro e w' ⟨rfl,bs2,n2,rfl⟩))
       go_ret
       rw [hf.out]
       exact ⟨rfl,by (try simp only [alloc_ext,drew_ext,drewN_ext,ext_ext]);exact ⟨_,_,rfl⟩⟩
     ·have hpv:(if k=0 then none else (l[k - 1]?).map fun x=>x.1)=none:=by rw [if_pos (by omega)]
      have hf:=Lib.hid (rises_yes0 (x:=x.1) (HE.out.trans (by rw [HD.out,hpv])) h1 h2)
      clear hpv
      go_wp2_with (first | (go_at_call 161;refine (pair_key _ _).mono ?_;rintro e w' ⟨rfl,bs1,n1,rfl⟩) | (go_at_call 116;refine (maxKey_any _ _ _ (by omega) (by omega)).mono ?_;rintro e w' ⟨rfl,bs2,n2,rfl⟩))
      go_roundw
      case rel=>exact ⟨k+1,_,_,by go_num,by omega,by (try simp only [ext_alloc,ext_drew,ext_drewN,ext_ext]);rfl,hf.out⟩
      case measure=>simp [intOf];omega
  ·have hf:Hid (risesFrom (P / 16) none (l.map fun x=>x.1)=true):=by show _=_;rw [HE.out,List.drop_of_length_le (by omega)];rfl
   go_wp2
   go_ret
   rw [hf.out]
   exact ⟨rfl,by (try simp only [alloc_ext,drew_ext,drewN_ext,ext_ext]);exact ⟨_,_,rfl⟩⟩

theorem rises_sep (P:Nat) (wd:Int) (a:Option Addr) (c:Nat) (l:List Bs) (w:World) (hP:P≤8192) (hl:l.length≤8796093022208) (hs:∀ x∈l,(x).length≤140737488351232) (h:SsAt w a l) :
  Calls Tryz.prog 165 #[.agg #[.int .i64 P,.int .i64 wd],.slice a l.length c,.func (.func 166) #[] #[]] w (Rets (.bool (risesFrom (P / 16) none l)) w):=by
 have H:=Lib.hid h;clear h
 have HS:=Lib.hid hs;clear hs
 go_enter Tryz.func165,Tryz.ntmps165
 go_wp2
 go_loopw [7,8,9,12] (fun _ _ _ i wr=>∃ k bs n,i=.int .i64 (k:Nat)∧k≤l.length∧wr=ext (w.alloc (.cells #[.int .i64 P,.int .i64 wd] 24)) bs n∧Hid (risesFrom (P / 16) none l=risesFrom (P / 16) (if k=0 then none else l[k - 1]?) (l.drop k))) (fun _ _ _ i _=>l.length - (intOf i).toNat)
 case atStart=>exact ⟨0,[],0,rfl,Nat.zero_le _,ext_zero _,rfl⟩
 case round=>
  obtain ⟨k,bs,n,rfl,hk,rfl,HE⟩:=hrel
  by_cases hlt:k<l.length
  ·obtain ⟨x,hx⟩:∃ x,l[k]?=some x:=⟨_,List.getElem?_eq_getElem hlt⟩
   have hd:=risesDrop' l k x hx (P / 16)
   obtain ⟨b,o,rfl,hb,cf1⟩:=H.out k x hx
   have hxl:=HS.out x (List.mem_of_getElem? hx)
   have HX:=Lib.hid hx;have HD:=Lib.hid hd;clear hx hd
   have hbb:b<w.heap.size+1:=by omega
   by_cases h1:(x).length<1
   ·have hf:=Lib.hid (rises_no1 (x:=x) (HE.out.trans (by rw [HD.out])) h1)
    go_wp2_with (go_at_call 166;refine (sep_key _ _).mono ?_;rintro e w' ⟨rfl,rfl⟩)
    go_ret
    rw [hf.out]
    exact ⟨rfl,by (try simp only [alloc_ext,drew_ext,drewN_ext,ext_ext]);exact ⟨_,_,rfl⟩⟩
   ·by_cases h2:P / 16<(x).length
    ·have hf:=Lib.hid (rises_no2 (x:=x) (HE.out.trans (by rw [HD.out])) h2)
     go_wp2_with (first | (go_at_call 166;refine (sep_key _ _).mono ?_;rintro e w' ⟨rfl,rfl⟩) | (go_at_call 116;refine (maxKey_any _ _ _ (by omega) (by omega)).mono ?_;rintro e w' ⟨rfl,bs2,n2,rfl⟩))
     go_ret
     rw [hf.out]
     exact ⟨rfl,by (try simp only [alloc_ext,drew_ext,drewN_ext,ext_ext]);exact ⟨_,_,rfl⟩⟩
    ·by_cases h3:0<k
     ·obtain ⟨y,hy⟩:∃ y,l[k - 1]?=some y:=⟨_,List.getElem?_eq_getElem (show k - 1<l.length by omega)⟩
      obtain ⟨b',o',hb',hb'',cg1⟩:=H.out (k - 1) y hy
      obtain ⟨rfl,rfl⟩:b'=b∧o'=o:=by cases hb';exact ⟨rfl,rfl⟩
      clear hb' hb''
      have hkk:((k:Int) - 1).toNat=k - 1:=by omega
      have HY:=Lib.hid hy;clear hy
      have hpv:(if k=0 then none else l[k - 1]?)=some (y):=by rw [if_neg (by omega),HY.out]
      have HV:=Lib.hid hpv;clear hpv
      by_cases h4:Op.bytesLess (y) (x)=true
      ·have hf:=Lib.hid (rises_yes (x:=x) (HE.out.trans (by rw [HD.out,HV.out])) h1 h2 h4)
       go_wp2_with (first | (go_at_call 166;refine (sep_key _ _).mono ?_;rintro e w' ⟨rfl,rfl⟩) | (go_at_call 116;refine (maxKey_any _ _ _ (by omega) (by omega)).mono ?_;rintro e w' ⟨rfl,bs2,n2,rfl⟩))
       go_roundw
       case rel=>exact ⟨k+1,_,_,by go_num,by omega,by (try simp only [ext_alloc,ext_drew,ext_drewN,ext_ext]);rfl,hf.out⟩
       case measure=>simp [intOf];omega
      ·have h4':Op.bytesLess (y) (x)=false:=by simpa using h4
       clear h4
       have hf:=Lib.hid (rises_no3 (x:=x) (HE.out.trans (by rw [HD.out,HV.out])) h4')
       go_wp2_with (first | (go_at_call 166;refine (sep_key _ _).mono ?_;rintro e w' ⟨rfl,rfl⟩) | (go_at_call 116;refine (maxKey_any _ _ _ (by omega) (by omega)).mono ?_;rintro e w' ⟨rfl,bs2,n2,rfl⟩))
       go_ret
       rw [hf.out]
       exact ⟨rfl,by (try simp only [alloc_ext,drew_ext,drewN_ext,ext_ext]);exact ⟨_,_,rfl⟩⟩
     ·have hpv:(if k=0 then none else l[k - 1]?)=none:=by rw [if_pos (by omega)]
      have hf:=Lib.hid (rises_yes0 (x:=x) (HE.out.trans (by rw [HD.out,hpv])) h1 h2)
      clear hpv
      go_wp2_with (first | (go_at_call 166;refine (sep_key _ _).mono ?_;rintro e w' ⟨rfl,rfl⟩) | (go_at_call 116;refine (maxKey_any _ _ _ (by omega) (by omega)).mono ?_;rintro e w' ⟨rfl,bs2,n2,rfl⟩))
      go_roundw
      case rel=>exact ⟨k+1,_,_,by go_num,by omega,by (try simp only [ext_alloc,ext_drew,ext_drewN,ext_ext]);rfl,hf.out⟩
      case measure=>simp [intOf];omega
  ·have hf:Hid (risesFrom (P / 16) none l=true):=by show _=_;rw [HE.out,List.drop_of_length_le (by omega)];rfl
   go_wp2
   go_ret
   rw [hf.out]
   exact ⟨rfl,by (try simp only [alloc_ext,drew_ext,drewN_ext,ext_ext]);exact ⟨_,_,rfl⟩⟩

end Go.Proofs.YtcaggadjkccbiaaGreat