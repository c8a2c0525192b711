/- Plain laws: a node's form is read as that node, and what is read is that node's form. -/
import Derived.Test.YtcaggadjkccbiaaGreatZ26
namespace Go.Proofs.YtcaggadjkccbiaaGreat
set_option linter.unusedVariables false
set_option linter.unusedSimpArgs false
open Go Go.RowKit

def kB (pages:Bool) (wd:Nat) (k:Kd):Bs:=(if pages=true then fixB 4 k.page else [])++k.sum.l.take wd
def kdP (pages:Bool) (k:Kd):Kd:=if pages=true then k else ⟨0,k.sum⟩
theorem kdP_true:kdP true=id:=by funext k;rfl
theorem kdP_false:kdP false=fun k=>⟨0,k.sum⟩:=by funext k;rfl
def kidsT (pages:Bool) (wd:Nat):List Kd→List Bs→Bs
 | k::ks,s::ss=>textB s++(kB pages wd k++kidsT pages wd ks ss)
 | _,_=>[]

theorem kidsT_range (pages:Bool) (wd:Nat):∀ (ks:List Kd) (ss:List Bs),ks.length=ss.length→(List.range ks.length).flatMap (fun i=>textB (ss.getD i [])++kB pages wd (ks.getD i Kd.zero))=kidsT pages wd ks ss
 | [],[],_=>rfl
 | k::ks,s::ss,h=>by
  rw [List.length_cons,List.range_succ_eq_map,List.flatMap_cons,List.flatMap_map]
  have ih:=kidsT_range pages wd ks ss (by simpa using h)
  simp only [kidsT,List.getD_cons_zero,List.append_assoc]
  rw [← ih]
  rfl
theorem kidsB_T (pages:Bool) (wd:Nat) (ps:List Pr) (k:Kd) (ks:List Kd) (ss:List Bs) (h:ss.length+1=(k::ks).length):kidsB pages wd ⟨ps,ss,k::ks⟩ (k::ks).length=kB pages wd k++kidsT pages wd ks ss:=by
 unfold kidsB
 rw [List.length_cons,List.range_succ_eq_map,List.flatMap_cons,List.flatMap_map,← kidsT_range pages wd ks ss (by simp at h;omega)]
 congr 1

theorem kid_kidP {P wd:Nat} {pages:Bool} {x x':Bool×List Bs} {l l1:Bs} {k:Kd} (hs:sepP P x l=some (x',kB pages wd k++l1)) (hwd:wd≤32) (hf:Dg.cut wd k.sum=k.sum) (hp:k.page<4294967296):kidP P wd pages x l=some (x',kdP pages k,l1):=by
 unfold kidP
 rw [hs]
 cases pages
 ·simp only [kB,Bool.false_eq_true,if_false,List.nil_append,kdP]
  rw [dgP_dg hwd hf]
 ·simp only [kB,if_true,kdP,List.append_assoc]
  rw [takeP_fix 4 (by omega)]
  simp only
  rw [dgP_dg hwd hf]
theorem kidP_kid {P wd:Nat} {pages:Bool} {x x':Bool×List Bs} {l l':Bs} {k:Kd} (hwd:wd≤32) (h:kidP P wd pages x l=some (x',k,l')):sepP P x l=some (x',kB pages wd k++l')∧(pages=false→k.page=0):=by
 unfold kidP at h
 cases hs:sepP P x l with
 | none=>simp [hs] at h
 | some r=>
  obtain ⟨x1,l1⟩:=r
  cases pages
  ·simp only [hs,Bool.false_eq_true,if_false] at h
   cases hd:dgP wd l1 with
   | none=>simp [hd] at h
   | some r3=>
    obtain ⟨d,l3⟩:=r3
    simp only [hd,Option.some.injEq,Prod.mk.injEq] at h
    obtain ⟨rfl,rfl,rfl⟩:=h
    exact ⟨by rw [dg_dgP hwd hd];rfl,fun _=>rfl⟩
  ·simp only [hs,if_true] at h
   cases ht:takeP 4 l1 with
   | none=>simp [ht] at h
   | some r2=>
    obtain ⟨n,l2⟩:=r2
    cases hd:dgP wd l2 with
    | none=>simp [ht,hd] at h
    | some r3=>
     obtain ⟨d,l3⟩:=r3
     simp only [ht,hd,Option.some.injEq,Prod.mk.injEq] at h
     obtain ⟨rfl,rfl,rfl⟩:=h
     refine ⟨?_,by simp⟩
     rw [fix_takeP ht,dg_dgP hwd hd]
     simp [kB]

theorem sepP_false {P:Nat} {sp:List Bs} {s l:Bs} (h:s.length≤P / 16) (hP:P≤8192):sepP P (false,sp) (textB s++l)=some ((false,sp++[s]),l):=by
 unfold sepP
 rw [if_neg (by simp),textP_text h (by omega)];rfl
theorem sepP_true {P:Nat} {sp:List Bs} {l:Bs}:sepP P (true,sp) l=some ((false,sp),l):=by simp [sepP]
theorem false_sepP {P:Nat} {sp:List Bs} {x:Bool×List Bs} {l l1:Bs} (h:sepP P (false,sp) l=some (x,l1)):∃ s,x=(false,sp++[s])∧l=textB s++l1:=by
 unfold sepP at h
 rw [if_neg (by simp)] at h
 cases ht:textP (P / 16) l with
 | none=>simp [ht] at h
 | some r=>
  obtain ⟨t,l2⟩:=r
  simp only [ht,Option.map_some,Option.some.injEq,Prod.mk.injEq] at h
  obtain ⟨rfl,rfl⟩:=h
  exact ⟨t,rfl,text_textP ht⟩

theorem many_kids {P wd:Nat} {pages:Bool} (hP:P≤8192) (hwd:wd≤32):∀ (ks:List Kd) (ss sp:List Bs) (l:Bs),ks.length=ss.length→(∀ s∈ss,s.length≤P / 16)→(∀ k∈ks,Dg.cut wd k.sum=k.sum∧k.page<4294967296) →
  manyP (kidP P wd pages) ks.length (false,sp) (kidsT pages wd ks ss++l)=some ((false,sp++ss),ks.map (kdP pages),l)
 | [],[],sp,l,_,_,_=>by simp [manyP,kidsT]
 | k::ks,s::ss,sp,l,hl,hs,hk=>by
  have ih:=many_kids (pages:=pages) hP hwd ks ss (sp++[s]) l (by simpa using hl) (fun y hy=>hs y (by simp [hy])) (fun y hy=>hk y (by simp [hy]))
  have h1:=hk k (by simp)
  show manyP _ (ks.length+1) _ ((textB s++(kB pages wd k++kidsT pages wd ks ss))++l)=_
  rw [List.append_assoc,List.append_assoc]
  unfold manyP
  rw [kid_kidP (sepP_false (hs s (by simp)) hP) hwd h1.1 h1.2]
  simp only [ih,List.append_assoc,List.singleton_append,List.map_cons]
theorem kids_many {P wd:Nat} {pages:Bool} (hwd:wd≤32):∀ (n:Nat) (ks:List Kd) (sp:List Bs) (x:Bool×List Bs) (l l':Bs),manyP (kidP P wd pages) n (false,sp) l=some (x,ks,l') →
  ∃ ss,x=(false,sp++ss)∧ks.length=ss.length∧ks.length=n∧l=kidsT pages wd ks ss++l'∧(pages=false→∀ k∈ks,k.page=0)
 | 0,ks,sp,x,l,l',h=>by
  simp only [manyP,Option.some.injEq,Prod.mk.injEq] at h
  obtain ⟨rfl,rfl,rfl⟩:=h
  exact ⟨[],by simp,rfl,rfl,rfl,by simp⟩
 | n+1,ks,sp,x,l,l',h=>by
  unfold manyP at h
  cases h1:kidP P wd pages (false,sp) l with
  | none=>simp [h1] at h
  | some r=>
   obtain ⟨x1,k,l1⟩:=r
   simp only [h1] at h
   obtain ⟨e1,e2⟩:=kidP_kid hwd h1
   obtain ⟨s,rfl,rfl⟩:=false_sepP e1
   cases h2:manyP (kidP P wd pages) n (false,sp++[s]) l1 with
   | none=>simp [h2] at h
   | some r2=>
    obtain ⟨x2,ts,l2⟩:=r2
    simp only [h2,Option.some.injEq,Prod.mk.injEq] at h
    obtain ⟨rfl,rfl,rfl⟩:=h
    obtain ⟨ss,rfl,e3,e4,rfl,e5⟩:=kids_many hwd n ts _ _ _ _ h2
    refine ⟨s::ss,by simp,by simpa using e3,by simpa using e4,by simp [kidsT],fun hp=>?_⟩
    intro y hy
    rcases List.mem_cons.1 hy with rfl | hy
    ·exact e2 hp
    ·exact e5 hp y hy

theorem list_kidsB {P wd m:Nat} {pages:Bool} (hP:P≤8192) (hwd:wd≤32) {k:Kd} {ks:List Kd} {ss:List Bs} {l:Bs} (hl:ks.length=ss.length) (hs:∀ s∈ss,s.length≤P / 16) (hk:∀ y∈k::ks,Dg.cut wd y.sum=y.sum∧y.page<4294967296)
  (hm:(k::ks).length≤m) (h64:(k::ks).length<18446744073709551616) (hlen:(k::ks).length≤(kB pages wd k++kidsT pages wd ks ss++l).length) :
  listP m (kidP P wd pages) (true,[]) (freeB (k::ks).length++(kB pages wd k++kidsT pages wd ks ss)++l)=some ((false,ss),(k::ks).map (kdP pages),l):=by
 unfold listP
 rw [List.append_assoc,freeP_free hm h64]
 simp only
 rw [if_pos hlen]
 have h1:=hk k (by simp)
 show manyP _ (ks.length+1) _ _=_
 rw [List.append_assoc]
 unfold manyP
 rw [kid_kidP sepP_true hwd h1.1 h1.2]
 simp only
 rw [many_kids hP hwd ks ss [] l hl hs (fun y hy=>hk y (by simp [hy]))]
 rfl
theorem kidsB_list {P wd m:Nat} {pages:Bool} (hwd:wd≤32) {ks:List Kd} {x:Bool×List Bs} {l l':Bs} (h:listP m (kidP P wd pages) (true,[]) l=some (x,ks,l')) (hne:ks≠[]) :
  ∃ k ks' ss,ks=k::ks'∧x=(false,ss)∧ks'.length=ss.length∧l=freeB ks.length++(kB pages wd k++kidsT pages wd ks' ss)++l'∧(pages=false→∀ k∈ks,k.page=0):=by
 unfold listP at h
 cases hf:freeP m l with
 | none=>simp [hf] at h
 | some r=>
  obtain ⟨n,l1⟩:=r
  simp only [hf] at h
  split at h
  ·cases n with
   | zero=>
    simp only [manyP,Option.some.injEq,Prod.mk.injEq] at h
    exact absurd h.2.1.symm hne
   | succ n=>
    unfold manyP at h
    cases h1:kidP P wd pages (true,[]) l1 with
    | none=>simp [h1] at h
    | some r=>
     obtain ⟨x1,k,l2⟩:=r
     simp only [h1] at h
     obtain ⟨e1,e2⟩:=kidP_kid hwd h1
     rw [sepP_true] at e1
     simp only [Option.some.injEq,Prod.mk.injEq] at e1
     obtain ⟨rfl,rfl⟩:=e1
     cases h2:manyP (kidP P wd pages) n (false,[]) l2 with
     | none=>simp [h2] at h
     | some r2=>
      obtain ⟨x2,ts,l3⟩:=r2
      simp only [h2,Option.some.injEq,Prod.mk.injEq] at h
      obtain ⟨rfl,rfl,rfl⟩:=h
      obtain ⟨ss,rfl,e3,e4,rfl,e5⟩:=kids_many hwd n ts _ _ _ _ h2
      refine ⟨k,ts,ss,rfl,by simp,e3,?_,fun hp=>?_⟩
      ·rw [free_freeP hf,List.length_cons,e4];simp
      ·intro y hy
       rcases List.mem_cons.1 hy with rfl | hy
       ·exact e2 hp
       ·exact e5 hp y hy
  ·cases h

def Nd.bare (n:Nd):Nd:=⟨n.pairs,n.seps,n.kids.map fun k=>⟨0,k.sum⟩⟩
def pgN (pages:Bool) (n:Nd):Nd:=if pages=true then n else n.bare

theorem kidsT_ge (pages:Bool) (wd:Nat):∀ (ks:List Kd) (ss:List Bs),ks.length=ss.length→ks.length≤(kidsT pages wd ks ss).length
 | [],[],_=>by simp
 | k::ks,s::ss,h=>by
  have ih:=kidsT_ge pages wd ks ss (by simpa using h)
  have h1:=freeB_pos s.length
  simp only [kidsT,textB,List.length_append,List.length_cons]
  omega
theorem kB_len (pages:Bool) {wd:Nat} (k:Kd) (hwd:wd≤32):(kB pages wd k).length=(if pages=true then 4 else 0)+wd:=by
 unfold kB
 rw [List.length_append,List.length_take,k.sum.h]
 cases pages <;> simp [fixB_len] <;> omega
theorem fitB_iff {wd:Nat} {d:Dg}:fitB wd d=true ↔ (1≤wd∧wd≤32)∧Dg.cut wd d=d:=by
 simp [fitB];omega

theorem branch_good {P wd:Nat} {n:Nd} (h:shapedB P wd n=true) (hl:leafB n=false):n.pairs=[]∧n.seps.length+1=n.kids.length∧(∀ s∈n.seps,1≤s.length∧s.length≤P / 16)∧∀ k∈n.kids,Dg.cut wd k.sum=k.sum:=by
 unfold shapedB at h
 rw [if_neg (by simp [hl])] at h
 simp only [Bool.and_eq_true,decide_eq_true_eq,Bool.not_eq_true'] at h
 obtain ⟨⟨⟨⟨h1,h2⟩,h3⟩,h4⟩,h5⟩:=h
 refine ⟨List.length_eq_zero_iff.1 h1,h3,rises_len _ _ _ h5,fun k hk=>?_⟩
 have:=List.any_eq_false.1 h4 k hk
 simp only [Bool.not_eq_true',Bool.not_eq_false] at this
 exact (fitB_iff.1 this).2
theorem leaf_good {P:Nat} {wd:Int} {n:Nd} (h:shapedB P wd n=true) (hl:leafB n=true):∀ x∈n.pairs,(1≤x.1.length∧x.1.length≤P / 16)∧x.2.length≤P / 8:=by
 unfold shapedB at h
 rw [if_pos hl] at h
 simp only [Bool.and_eq_true,Bool.not_eq_true'] at h
 intro x hx
 refine ⟨rises_len _ _ _ h.1 x.1 (List.mem_map.2 ⟨x,hx,rfl⟩),?_⟩
 have:=List.any_eq_false.1 h.2 x hx
 simpa using this

theorem parse_form {P wd:Nat} {pages:Bool} {n:Nd} (hc:checkE P wd n=0) (ho:NdOk n):parseP P wd pages (formB pages wd n)=some (pgN pages n):=by
 obtain ⟨hr,hs⟩:=checkE_ok hc
 have hr':=rightB_iff.1 hr
 have hP:P≤8192:=by omega
 have hwd:wd≤32:=by omega
 simp only [Int.toNat_natCast] at hs
 have h1:∀ (t:Nat) (l:Bs),t<256→takeP 1 (t.toUInt8::l)=some (t,l):=fun t l ht=>by
  have:=takeP_fix (n:=t) (l:=l) 1 (by omega)
  simpa [fixB,Nat.mod_eq_of_lt ht] using this
 cases hl:leafB n
 ·obtain ⟨e1,e2,e3,e4⟩:=branch_good hs hl
  have hnk:=ho.nk;have hpg:=ho.pg
  obtain ⟨ps,ss,ks⟩:=n
  cases ks with
  | nil=>simp at e2
  | cons k ks=>
   simp only at e1 e2 e3 e4 hnk hpg
   subst e1
   have hT:=kidsB_T pages wd [] k ks ss e2
   unfold formB parseP
   rw [if_neg (by simp [hl])]
   simp only
   rw [hT,show (2:UInt8)=(2:Nat).toUInt8 from rfl,h1 2 _ (by omega)]
   simp only
   have e2':ks.length=ss.length:=by simp at e2;omega
   have hge:=kidsT_ge pages wd ks ss e2'
   have hkB:=kB_len pages k hwd
   have hL:=list_kidsB (P:=P) (m:=(Nat.toUInt8 2::(freeB (k::ks).length++(kB pages wd k++kidsT pages wd ks ss))).length) (pages:=pages) (l:=[]) hP hwd e2' (fun s hs=>(e3 s hs).2) (fun y hy=>⟨e4 y hy,hpg y hy⟩)
    (by simp;omega) (by omega) (by simp;split at hkB <;> omega)
   rw [List.append_nil] at hL
   rw [if_neg (by decide),if_pos trivial,hL]
   simp only [List.map_cons,if_true]
   rw [if_neg (by simp)]
   cases pages <;> simp [pgN,Nd.bare,kdP_true,kdP_false]
 ·have hlg:=leaf_good hs hl
  have hnp:=ho.np
  obtain ⟨e1,e2⟩:=leafB_iff.1 hl
  obtain ⟨ps,ss,ks⟩:=n
  simp only at e1 e2 hlg hnp
  subst e1 e2
  unfold formB parseP
  rw [if_pos hl]
  simp only
  rw [show (1:UInt8)=(1:Nat).toUInt8 from rfl,h1 1 _ (by omega)]
  simp only
  have hge:=pairsB_ge ps
  have hL:=list_pairsB (P:=P) (m:=(Nat.toUInt8 1::(freeB ps.length++pairsB ps)).length) (l:=[]) hP (ps:=ps) (fun x hx=>⟨(hlg x hx).1.2,(hlg x hx).2⟩) (by simp;omega) (by omega)
  rw [List.append_nil] at hL
  rw [if_pos trivial,hL]
  cases pages <;> simp [pgN,Nd.bare]

theorem form_parse {P wd:Nat} {pages:Bool} {n:Nd} {s:Bs} (hwd:wd≤32) (h:parseP P wd pages s=some n):formB pages wd n=s∧(pages=false→∀ k∈n.kids,k.page=0):=by
 unfold parseP at h
 cases ht:takeP 1 s with
 | none=>simp [ht] at h
 | some r=>
  obtain ⟨t,l⟩:=r
  have hs:=fix_takeP ht
  simp only [ht] at h
  split at h
  ·rename_i h1
   subst h1
   cases hp:listP s.length (pairP P) () l with
   | none=>simp [hp] at h
   | some q=>
    obtain ⟨u,ps,l'⟩:=q
    simp only [hp] at h
    split at h
    ·rename_i hn
     subst hn
     simp only [Option.some.injEq] at h
     subst h
     have:=pairsB_list hp
     refine ⟨?_,by simp⟩
     rw [hs,this]
     simp [formB,leafB,fixB]
    ·cases h
  ·split at h
   ·rename_i h1
    subst h1
    cases hp:listP s.length (kidP P wd pages) (true,[]) l with
    | none=>simp [hp] at h
    | some q=>
     obtain ⟨x,ks,l'⟩:=q
     simp only [hp] at h
     split at h
     ·cases h
     ·rename_i hne
      split at h
      ·rename_i hn
       subst hn
       simp only [Option.some.injEq] at h
       subst h
       obtain ⟨k,ks',ss,rfl,rfl,e1,e2,e3⟩:=kidsB_list hwd hp hne
       refine ⟨?_,e3⟩
       have hT:=kidsB_T pages wd [] k ks' ss (by simp;omega)
       rw [hs,e2]
       unfold formB
       rw [if_neg (by simp [leafB])]
       simp only
       rw [hT]
       simp [fixB]
      ·cases h
   ·cases h

theorem leafB_bare (n:Nd):leafB n.bare=leafB n:=by simp [leafB,Nd.bare]
theorem shapedB_bare (P:Nat) (wd:Int) (n:Nd):shapedB P wd n.bare=shapedB P wd n:=by
 unfold shapedB
 rw [leafB_bare]
 simp [Nd.bare,List.any_map,Function.comp_def]
theorem checkE_bare (p wd:Int) (n:Nd):checkE p wd n.bare=checkE p wd n:=by simp [checkE,shapedB_bare]
theorem sizeN_bare (wd:Nat) (n:Nd):sizeN wd n.bare=sizeN wd n:=by
 unfold sizeN;rw [leafB_bare];simp [Nd.bare]
theorem mayE_bare (p wd:Int) (n:Nd):mayE p wd n.bare=mayE p wd n:=by simp [mayE,checkE_bare,sizeN_bare]

theorem read_plain {p wd:Int} {n:Nd} (h:mayE p wd n=0) (ho:NdOk n):readP p wd (plainS p wd n)=some n.bare:=by
 obtain ⟨hc,_⟩:=mayE_ok h
 have hr:=(checkE_ok hc).1
 have hr':=rightB_iff.1 hr
 obtain ⟨P,rfl⟩:=Int.eq_ofNat_of_zero_le (show 0≤p by omega)
 obtain ⟨d,rfl⟩:=Int.eq_ofNat_of_zero_le (show 0≤wd by omega)
 unfold readP plainS
 rw [if_pos hr,if_pos h]
 have:=parse_form (pages:=false) hc ho
 simp only [Int.toNat_natCast] at this ⊢
 rw [this]
 simp only [pgN,Bool.false_eq_true,if_false]
 have h2:=mayE_bare P d n
 simp [Option.filter,h2,h]

theorem kidsT_len {pages:Bool} {wd:Nat} (hwd:wd≤32):∀ (ks:List Kd) (ss:List Bs),ks.length=ss.length→(kidsT pages wd ks ss).length=ks.length*((if pages=true then 4 else 0)+wd)+(ss.map txN).sum
 | [],[],_=>by simp [kidsT]
 | k::ks,s::ss,h=>by
  have ih:=kidsT_len (pages:=pages) hwd ks ss (by simpa using h)
  simp only [kidsT,List.length_append,textB_length,kB_len pages k hwd,ih,List.length_cons,Nat.succ_mul,List.map_cons,List.sum_cons]
  omega
theorem formB_len {P wd:Nat} {pages:Bool} {n:Nd} (hc:checkE P wd n=0):(formB pages wd n).length+(if pages=true then 0 else 4*n.kids.length)=sizeN wd n:=by
 obtain ⟨hr,hs⟩:=checkE_ok hc
 have hr':=rightB_iff.1 hr
 have hwd:wd≤32:=by omega
 simp only [Int.toNat_natCast] at hs
 unfold formB sizeN
 cases hl:leafB n
 ·obtain ⟨e1,e2,e3,e4⟩:=branch_good hs hl
  obtain ⟨ps,ss,ks⟩:=n
  cases ks with
  | nil=>simp at e2
  | cons k ks=>
   simp only at e1 e2
   have e2':ks.length=ss.length:=by simp at e2;omega
   simp only [Bool.false_eq_true,if_false]
   rw [kidsB_T pages wd ps k ks ss e2]
   simp only [List.length_cons,List.length_append,freeB_length,kB_len pages k hwd,kidsT_len hwd ks ss e2',Nat.succ_mul]
   cases pages
   ·simp only [Bool.false_eq_true,if_false,Nat.zero_add]
    simp only [Nat.mul_add];omega
   ·simp only [if_true,Nat.mul_add];omega
 ·obtain ⟨e1,e2⟩:=leafB_iff.1 hl
  simp only [if_true,List.length_cons,List.length_append,freeB_length,pairsB_length,e2,List.length_nil,Nat.mul_zero,ite_self]
  omega

theorem readP_ok {p wd:Int} {s:Bs} {n:Nd} (h:readP p wd s=some n):rightB p wd=true∧mayE p wd n=0∧parseP p.toNat wd.toNat false s=some n:=by
 unfold readP at h
 split at h
 ·rename_i hr
  obtain ⟨h1,h2⟩:=Option.filter_eq_some_iff.1 h
  exact ⟨hr,by simpa using h2,h1⟩
 ·cases h
theorem plain_read {p wd:Int} {s:Bs} {n:Nd} (h:readP p wd s=some n):mayE p wd n=0∧plainS p wd n=s∧checkE p wd n=0∧∀ k∈n.kids,k.page=0:=by
 obtain ⟨hr,he,hp⟩:=readP_ok h
 have hr':=rightB_iff.1 hr
 obtain ⟨h1,h2⟩:=form_parse (by omega) hp
 refine ⟨he,?_,(mayE_ok he).1,h2 rfl⟩
 unfold plainS;rw [if_pos he]
 exact h1

end Go.Proofs.YtcaggadjkccbiaaGreat