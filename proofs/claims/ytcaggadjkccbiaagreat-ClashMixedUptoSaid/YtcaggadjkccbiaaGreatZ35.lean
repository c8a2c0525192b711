/- Plain laws of what is read loosely: a form is read as its node. -/
import Derived.Test.YtcaggadjkccbiaaGreatZ27
import Derived.Test.YtcaggadjkccbiaaGreatZ28
import Derived.Test.YtcaggadjkccbiaaGreatZ26
import Derived.Test.YtcaggadjkccbiaaGreatZ14
import Derived.Test.YtcaggadjkccbiaaGreatZ29
import Derived.Test.YtcaggadjkccbiaaGreatZ31
import Derived.Test.YtcaggadjkccbiaaGreatZ33
namespace Go.Proofs.YtcaggadjkccbiaaGreat
set_option linter.unusedVariables false
set_option linter.unusedSimpArgs false
open Go Go.RowKit

theorem loose_pairs {pg:Bool} {w L:Nat} (hL:L≤140737488351232):∀ (ps:List Pr) (i:Nat) (l:Bs) (n:Nd),(∀ x∈ps,x.1.length≤L∧x.2.length≤L)→looseN 1 pg w L ps.length i (some (pairsB ps++l)) n={ n with pairs:=n.pairs++ps }
 | [],_,_,n,_=>by simp [looseN]
 | x::ps,i,l,n,h=>by
  have h1:=h x (by simp)
  have e1:textP L (pairsB (x::ps)++l)=some (x.1,textB x.2++(pairsB ps++l)):=by
   rw [show pairsB (x::ps)++l=textB x.1++(textB x.2++(pairsB ps++l)) by simp [pairsB,pairB]]
   exact textP_text h1.1 (by omega)
  have e2:textP L (textB x.2++(pairsB ps++l))=some (x.2,pairsB ps++l):=textP_text h1.2 (by omega)
  rw [List.length_cons,looseN_pair rfl,gr_some e1,gv_some e1,gr_some e2,gv_some e2,loose_pairs hL ps (i+1) l _ (fun y hy=>h y (by simp [hy]))]
  simp

theorem loose_one {pg:Bool} {w:Nat} {k:Kd} {l:Bs} (hw:w≤32) (hf:Dg.cut w k.sum=k.sum) (hp:k.page<4294967296) :
  (⟨if pg then gv (takeP 4) 0 (some (kB pg w k++l)) else 0,gv (digP w) Dg.zero (if pg then gr (takeP 4) (some (kB pg w k++l)) else some (kB pg w k++l))⟩:Kd)=kdP pg k∧gr (digP w) (if pg then gr (takeP 4) (some (kB pg w k++l)) else some (kB pg w k++l))=some l:=by
 have hd:digP w (k.sum.l.take w++l)=some (k.sum,l):=dgP_dg hw hf
 cases pg
 ·have e:kB false w k++l=k.sum.l.take w++l:=by simp [kB]
  rw [e]
  simp only [Bool.false_eq_true,if_false,kdP]
  rw [gv_some hd,gr_some hd]
  exact ⟨rfl,rfl⟩
 ·have ht:takeP 4 (kB true w k++l)=some (k.page,k.sum.l.take w++l):=by
   rw [show kB true w k++l=fixB 4 k.page++(k.sum.l.take w++l) by simp [kB]]
   exact takeP_fix 4 (by omega)
  simp only [if_true,kdP]
  rw [gv_some ht,gr_some ht,gv_some hd,gr_some hd]
  exact ⟨rfl,rfl⟩

theorem loose_kids {kind:Nat} (hk:¬ kind=1) {pg:Bool} {w L:Nat} (hw:w≤32) (hL:L≤140737488351232):∀ (ks:List Kd) (ss:List Bs) (i:Nat) (l:Bs) (n:Nd),0<i→ks.length=ss.length→(∀ s∈ss,s.length≤L)→(∀ k∈ks,Dg.cut w k.sum=k.sum∧k.page<4294967296) →
  looseN kind pg w L ks.length i (some (kidsT pg w ks ss++l)) n={ n with seps:=n.seps++ss,kids:=n.kids++ks.map (kdP pg) }
 | [],[],_,_,n,_,_,_,_=>by simp [looseN]
 | k::ks,s::ss,i,l,n,h0,hl,hs,hc=>by
  have h1:=hc k (by simp)
  have e0:kidsT pg w (k::ks) (s::ss)++l=textB s++(kB pg w k++(kidsT pg w ks ss++l)):=by simp [kidsT]
  have e1:textP L (kidsT pg w (k::ks) (s::ss)++l)=some (s,kB pg w k++(kidsT pg w ks ss++l)):=by
   rw [e0];have:=hs s (by simp);exact textP_text this (by omega)
  obtain ⟨o1,o2⟩:=loose_one (pg:=pg) (l:=kidsT pg w ks ss++l) hw h1.1 h1.2
  rw [List.length_cons,looseN_kid hk]
  simp only [h0,if_true]
  rw [gr_some e1,gv_some e1,o1,o2,loose_kids hk hw hL ks ss (i+1) l _ (by omega) (by simpa using hl) (fun y hy=>hs y (by simp [hy])) (fun y hy=>hc y (by simp [hy]))]
  simp

theorem take_one {t:Nat} (ht:t<256) (l:Bs):takeP 1 (t.toUInt8::l)=some (t,l):=by
 have:=takeP_fix (n:=t) (l:=l) 1 (by omega)
 simpa [fixB,Nat.mod_eq_of_lt ht] using this
theorem countP_free {m n:Nat} {l:Bs} (h:n≤m) (h64:n<18446744073709551616) (hl:n≤l.length):countP m (freeB n++l)=some (n,l):=by
 unfold countP;rw [freeP_free h h64];simp [hl]

theorem loose_form {P wd:Nat} {pages:Bool} {n:Nd} (hc:checkE P wd n=0) (ho:NdOk n) (hlen:(formB pages wd n).length≤3909374676453):looseP pages wd (formB pages wd n)=pgN pages n:=by
 obtain ⟨hr,hs⟩:=checkE_ok hc
 have hr':=rightB_iff.1 hr
 have hP:P≤8192:=by omega
 have hwd:wd≤32:=by omega
 simp only [Int.toNat_natCast] at hs
 have hL:(formB pages wd n).length≤140737488351232:=by omega
 cases hl:leafB n
 ·obtain ⟨e1,e2,e3,e4⟩:=branch_good hs hl
  have hnk:=ho.nk;have hpg:=ho.pg
  obtain ⟨ps,ss,ks⟩:=n
  cases ks with
  | nil=>simp at e2
  | cons k ks=>
   simp only at e1 e2 e3 e4 hnk hpg
   subst e1
   have hT:=kidsB_T pages wd [] k ks ss e2
   have e2':ks.length=ss.length:=by simp at e2;omega
   have hge:=kidsT_ge pages wd ks ss e2'
   have hkB:=kB_len pages k hwd
   have hF:formB pages wd ⟨[],ss,k::ks⟩=Nat.toUInt8 2::(freeB (k::ks).length++(kB pages wd k++kidsT pages wd ks ss)):=by
    unfold formB
    rw [if_neg (by simp [hl])]
    simp only
    rw [hT];rfl
   rw [hF] at hL ⊢
   obtain ⟨L,hLL⟩:∃ L,(Nat.toUInt8 2::(freeB (k::ks).length++(kB pages wd k++kidsT pages wd ks ss))).length=L:=⟨_,rfl⟩
   have hLge:(k::ks).length≤L:=by rw [← hLL];simp;omega
   have hss:∀ s∈ss,s.length≤L:=fun s h=>by
    have h1:=(e3 s h).2
    have h2:s.length≤(kidsT pages wd ks ss).length:=by
     clear hT hge hF hLL hLge e3 e4 hpg hnk hkB hL e2 hc hs ho hl hlen h1
     induction ks generalizing ss with
     | nil=>cases ss with
      | nil=>simp at h
      | cons a b=>simp at e2'
     | cons k ks ih=>cases ss with
      | nil=>simp at h
      | cons a b=>
       simp only [kidsT,List.length_append]
       rcases List.mem_cons.1 h with rfl | h
       ·have:(textB s).length=(freeB s.length).length+s.length:=by simp [textB]
        omega
       ·have:=ih b (by simpa using e2') h
        omega
    rw [← hLL];simp;omega
   unfold looseP
   rw [hLL,gv_some (take_one (by omega) _),gr_some (take_one (by omega) _)]
   have hcn:=countP_free (m:=L) (n:=(k::ks).length) (l:=kB pages wd k++kidsT pages wd ks ss) hLge (by omega) (by simp;split at hkB <;> omega)
   rw [gv_some hcn,gr_some hcn]
   have h1:=e4 k (by simp)
   obtain ⟨o1,o2⟩:=loose_one (pg:=pages) (l:=kidsT pages wd ks ss) hwd h1 (hpg k (by simp))
   rw [List.length_cons,looseN_kid (by decide)]
   simp only [Nat.lt_irrefl,if_false]
   rw [o1,o2]
   have:=loose_kids (kind:=2) (by decide) (pg:=pages) hwd (by omega:L≤140737488351232) ks ss 1 [] ⟨[],[],[kdP pages k]⟩ (by omega) e2' hss (fun y hy=>⟨e4 y (by simp [hy]),hpg y (by simp [hy])⟩)
   rw [List.append_nil] at this
   refine this.trans ?_
   cases pages <;> simp [pgN,Nd.bare,kdP_true,kdP_false]
 ·have hlg:=leaf_good hs hl
  have hnp:=ho.np
  obtain ⟨e1,e2⟩:=leafB_iff.1 hl
  obtain ⟨ps,ss,ks⟩:=n
  simp only at e1 e2 hlg hnp
  subst e1 e2
  have hF:formB pages wd ⟨ps,[],[]⟩=Nat.toUInt8 1::(freeB ps.length++pairsB ps):=by
   unfold formB
   rw [if_pos hl];rfl
  rw [hF] at hL ⊢
  have hge:=pairsB_ge ps
  obtain ⟨L,hLL⟩:∃ L,(Nat.toUInt8 1::(freeB ps.length++pairsB ps)).length=L:=⟨_,rfl⟩
  have hLge:ps.length≤L:=by rw [← hLL];simp;omega
  have hss:∀ x∈ps,x.1.length≤L∧x.2.length≤L:=fun x h=>by
   have h2:(pairB x).length≤(pairsB ps).length:=by
    obtain ⟨a,b,rfl⟩:=List.append_of_mem h
    simp [pairsB];omega
   have h3:(pairB x).length=(freeB x.1.length).length+x.1.length+((freeB x.2.length).length+x.2.length):=by simp [pairB,textB];omega
   rw [← hLL];simp;omega
  unfold looseP
  rw [hLL,gv_some (take_one (by omega) _),gr_some (take_one (by omega) _)]
  have hcn:=countP_free (m:=L) (n:=ps.length) (l:=pairsB ps) hLge (by omega) hge
  rw [gv_some hcn,gr_some hcn]
  have:=loose_pairs (pg:=pages) (w:=wd) (by omega:L≤140737488351232) ps 0 [] ⟨[],[],[]⟩ hss
  rw [List.append_nil] at this
  refine this.trans ?_
  cases pages <;> simp [pgN,Nd.bare]

structure NdLen (L m:Nat) (n:Nd):Prop where
 np:n.pairs.length≤m
 ns:n.seps.length≤m
 nk:n.kids.length≤m
 sp:∀ p∈n.pairs,p.1.length≤L∧p.2.length≤L
 ss:∀ p∈n.seps,p.length≤L
 pg:∀ k∈n.kids,k.page<4294967296
theorem textP_le {L:Nat} (o:Option Bs):(gv (textP L) [] o).length≤L:=by
 cases o with
 | none=>simp [gv]
 | some l=>
  cases h:textP L l with
  | none=>rw [gv_none h];simp
  | some r=>
   obtain ⟨x,l'⟩:=r
   rw [gv_some h]
   exact (textP_len h).2
theorem take4_gv (o:Option Bs):gv (takeP 4) 0 o<4294967296:=by
 cases o with
 | none=>simp [gv]
 | some l=>
  cases h:takeP 4 l with
  | none=>rw [gv_none h];omega
  | some r=>
   obtain ⟨x,l'⟩:=r
   rw [gv_some h]
   exact take4_lt h
theorem looseN_len {kind:Nat} {pg:Bool} {w L:Nat}:∀ (f i:Nat) (o:Option Bs) (m:Nat) (n:Nd),NdLen L m n→NdLen L (m+f) (looseN kind pg w L f i o n)
 | 0,_,_,m,n,h=>by unfold looseN;exact h
 | f+1,_,none,m,n,h=>by
  unfold looseN
  exact ⟨by have:=h.np;omega,by have:=h.ns;omega,by have:=h.nk;omega,h.sp,h.ss,h.pg⟩
 | f+1,i,some l,m,n,h=>by
  have np:=h.np;have ns:=h.ns;have nk:=h.nk
  by_cases hk:kind=1
  ·rw [looseN_pair hk,show m+(f+1)=(m+1)+f by omega]
   refine looseN_len f _ _ _ _ ⟨by simp;omega,by simp only;omega,by simp only;omega,?_,h.ss,h.pg⟩
   intro p hp
   rcases List.mem_append.1 hp with hp | hp
   ·exact h.sp p hp
   ·rw [List.mem_singleton] at hp;subst hp;exact ⟨textP_le _,textP_le _⟩
  ·rw [looseN_kid hk,show m+(f+1)=(m+1)+f by omega]
   refine looseN_len f _ _ _ _ ⟨by simp only;omega,?_,by simp;omega,h.sp,?_,?_⟩
   ·simp only;split <;> (try simp only [List.length_append,List.length_singleton]) <;> omega
   ·intro p hp
    simp only at hp
    split at hp
    ·rcases List.mem_append.1 hp with hp | hp
     ·exact h.ss p hp
     ·rw [List.mem_singleton] at hp;subst hp;exact textP_le _
    ·exact h.ss p hp
   ·intro k hp
    rcases List.mem_append.1 hp with hp | hp
    ·exact h.pg k hp
    ·rw [List.mem_singleton] at hp;subst hp
     simp only
     split
     ·exact take4_gv _
     ·omega
theorem looseP_ok {pg:Bool} {w:Nat} {s:Bs} (hs:s.length≤3909374676453):NdOk (looseP pg w s):=by
 have h:=looseN_len (kind:=gv (takeP 1) 0 (some s)) (pg:=pg) (w:=w) (L:=s.length) (gv (countP s.length) 0 (gr (takeP 1) (some s))) 0 (gr (countP s.length) (gr (takeP 1) (some s))) 0 ⟨[],[],[]⟩ ⟨by simp,by simp,by simp,by simp,by simp,by simp⟩
 have hm:gv (countP s.length) 0 (gr (takeP 1) (some s))≤s.length:=by
  cases ho:gr (takeP 1) (some s) with
  | none=>simp [gv]
  | some l=>
   unfold gv countP
   simp only [Option.bind_some]
   cases hf:freeP s.length l with
   | none=>simp
   | some q=>
    obtain ⟨n,l1⟩:=q
    have hn:=(freeP_rest hf).2.2
    simp only
    split <;> simp <;> omega
 have a:=h.np;have b:=h.ns;have c:=h.nk
 exact ⟨by unfold looseP;omega,by unfold looseP;omega,by unfold looseP;omega,fun p hp=>by have:=h.sp p hp;omega,fun p hp=>by have:=h.ss p hp;omega,h.pg⟩

theorem widN_right {p wd:Int} (h:rightB p wd=true):widN wd=wd.toNat:=by
 have:=rightB_iff.1 h
 unfold widN
 rw [if_neg (by omega),if_neg (by omega)]

theorem read_loose {p wd:Int} {s:Bs} (hr:rightB p wd=true) (hs:s.length≤3909374676453) :
  readP p wd s=if mayE p wd (looseP false (widN wd) s)=0∧plainS p wd (looseP false (widN wd) s)=s then some (looseP false (widN wd) s) else none:=by
 cases hu:readP p wd s with
 | some n=>
  obtain ⟨e1,e2,e3,e4⟩:=plain_read hu
  have ho:=parseP_ok hs (readP_ok hu).2.2
  have hr':=rightB_iff.1 hr
  obtain ⟨P,rfl⟩:=Int.eq_ofNat_of_zero_le (show 0≤p by omega)
  obtain ⟨d,rfl⟩:=Int.eq_ofNat_of_zero_le (show 0≤wd by omega)
  have hf:formB false d n=s:=by unfold plainS at e2;rw [if_pos e1] at e2;simpa using e2
  have hl:=loose_form (pages:=false) e3 ho (by rw [hf];exact hs)
  have hb:pgN false n=n:=by
   unfold pgN Nd.bare
   simp only [Bool.false_eq_true,if_false]
   rw [List.map_congr_left (g:=id) (fun k hk=>by have:=e4 k hk;obtain ⟨a,b⟩:=k;simp at this;subst this;rfl),List.map_id]
  rw [hf,hb] at hl
  rw [widN_right hr,Int.toNat_natCast,hl,if_pos ⟨e1,e2⟩]
 | none=>
  rw [if_neg]
  rintro ⟨h1,h2⟩
  have:=read_plain h1 (looseP_ok hs)
  rw [h2,hu] at this
  cases this

theorem sizeN_len {p wd:Int} {n:Nd} (h:mayE p wd n=0) {pages:Bool}:(formB pages wd.toNat n).length≤p.toNat - 32:=by
 obtain ⟨hc,hz⟩:=mayE_ok h
 have hr:=rightB_iff.1 (checkE_ok hc).1
 obtain ⟨P,rfl⟩:=Int.eq_ofNat_of_zero_le (show 0≤p by omega)
 obtain ⟨d,rfl⟩:=Int.eq_ofNat_of_zero_le (show 0≤wd by omega)
 have:=formB_len (pages:=pages) hc
 simp only [Int.toNat_natCast] at hz ⊢
 omega
theorem read_long {p wd:Int} {s:Bs} (hs:p.toNat - 32<s.length):readP p wd s=none:=by
 cases hu:readP p wd s with
 | none=>rfl
 | some n=>
  obtain ⟨e1,e2,e3⟩:=plain_read hu
  have h:=sizeN_len e1 (pages:=false)
  unfold plainS at e2
  rw [if_pos e1] at e2
  rw [e2] at h
  omega
theorem read_arg {p wd:Int} {s:Bs} (h:rightB p wd=false):readP p wd s=none:=by simp [readP,h]

set_option maxHeartbeats 1000000
set_option maxRecDepth 100000

theorem Rets.kp {v:Value} {w:World} {e:Ending} {w':World} (h:Rets v w e w'):e=.returned v∧Kp [] w w':=by
 obtain ⟨h1,bs,n,rfl⟩:=h
 exact ⟨h1,(Kp.refl [] _).ext _ _⟩
theorem RVal.of_int {w:World} {I:Nat→Nat→Prop} {k:IntKind} {n:Int}:RVal w I (.v (.int k n)) (.int k n):=by unfold RVal;exact ⟨rfl,rfl⟩
theorem RVal.of_str {w:World} {I:Nat→Nat→Prop} {s:Bs}:RVal w I (sD s) (.string ⟨s.toArray⟩):=by unfold RVal;exact ⟨rfl,rfl⟩
theorem RVal.of_bool {w:World} {I:Nat→Nat→Prop} {b:Bool}:RVal w I (bD b) (.bool b):=by unfold RVal;exact ⟨rfl,rfl⟩

theorem aRight (p wd:Int) (S:Sto):ACalls Tryz.prog 25 [frD p wd] S (RetQ (bD (rightB p wd)) S):=
 ACalls.liftq (callable Tryz.func25 rfl (by kernel_rfl)) fun w xs hS hx=>by
  obtain ⟨x,ys,rfl,h1,h2⟩:=hx.cons
  obtain rfl:=h2.nil
  obtain rfl:=h1.frame
  exact (rright_any p wd w).mono fun e w' h=>⟨_,h.kp.1,h.kp.2,RVal.of_bool⟩
theorem aMost (P:Nat) (wd:Int) (S:Sto) (h:P≤8192) (h0:1024≤P):ACalls Tryz.prog 113 [frD P wd] S (RetQ (iD ((P - 32:Nat):Int)) S):=
 ACalls.liftq (callable Tryz.func113 rfl (by kernel_rfl)) fun w xs hS hx=>by
  obtain ⟨x,ys,rfl,h1,h2⟩:=hx.cons
  obtain rfl:=h2.nil
  obtain rfl:=h1.frame
  exact (rmost_any P wd w h h0).mono fun e w' h=>⟨_,h.kp.1,h.kp.2,RVal.of_int⟩
theorem aPlain (p wd:Int) (n:Nd) (S:Sto) (ho:NdOk n):ACalls Tryz.prog 115 [frD p wd,ndA n] S (RetQ (.tup [sD (plainS p wd n),iD (mayE p wd n)]) S):=
 ACalls.liftq (callable Tryz.func115 rfl (by kernel_rfl)) fun w xs hS hx=>by
  obtain ⟨x,ys,rfl,h1,h2⟩:=hx.cons
  obtain ⟨y,zs,rfl,h3,h4⟩:=h2.cons
  obtain rfl:=h4.nil
  obtain rfl:=h1.frame
  obtain ⟨pa,sa,ka,pc,sc,kc,rfl,hn⟩:=h3.node
  exact (rplain_any p wd pa sa ka pc sc kc n w hn ho).mono fun e w' h=>⟨_,h.kp.1,h.kp.2,RVal.mk_tup (RVals.mk RVal.of_str (RVals.mk RVal.of_int RVals.mk0))⟩

def okE (o:Option Nd) (c:Int):Int:=if o.isSome then 0 else c

theorem aRead (p wd:Int) (s:Bs) (S:Sto) (hs:s.length≤3909374676453) :
  ACalls Tryz.prog 74 [frD p wd,sD s] S (RetQ (.tup [ndA ((readP p wd s).getD noN),iD (okE (readP p wd s) (unpackE p wd))]) S):=by
 refine acalls_of prg Tryz.func74 rfl (by kernel_rfl) (congrArg Array.toList Tryz.results74) Tryz.ntmps74 (fun B hB=>fA ?_)
 cases hr:rightB p wd
 ·have e1:unpackE p wd=2:=by simp [unpackE,hr]
  rw [read_arg hr,e1]
  have c:=aRight p wd;rw [hr] at c
  refine Wv Y0 ?_
  refine aL fun b4 k_b4 o_b4=>?_
  refine Wv Y0 ?_
  refine cQ (c _) ?_
  refine Wv Y0 ?_
  refine enduq (sR Y0) (by rfl) (Sto.Sub.refl _).cons
 ·have hr':=rightB_iff.1 hr
  obtain ⟨P,rfl⟩:=Int.eq_ofNat_of_zero_le (show 0≤p by omega)
  have e1:unpackE P wd=73:=by simp [unpackE,hr]
  have c:=aRight P wd;rw [hr] at c
  rw [e1]
  by_cases hm:P - 32<s.length
  ·have d1:decide ((s.length:Int) > ((P - 32:Nat):Int))=true:=decide_eq_true (by omega)
   rw [read_long (by simpa using hm)]
   refine Wv Y0 ?_
   refine aL fun b4 k_b4 o_b4=>?_
   refine Wv Y0 ?_
   refine cQ (c _) ?_
   refine Wv Y0 ?_
   refine cQ (aMost P wd _ (by omega) (by omega)) ?_
   refine Wv d1 ?_
   refine enduq (sR Y0) (by rfl) (Sto.Sub.refl _).cons
  ·have d1:decide ((s.length:Int) > ((P - 32:Nat):Int))=false:=decide_eq_false (by omega)
   have hu:=read_loose hr hs
   have ho:=looseP_ok (pg:=false) (w:=widN wd) hs
   obtain ⟨n,hn⟩:∃ n,looseP false (widN wd) s=n:=⟨_,rfl⟩
   have cl:=aLoose P wd s false;rw [hn] at cl
   rw [hn] at hu ho
   rw [hu]
   obtain ⟨t,ht⟩:∃ t,plainS P wd n=t:=⟨_,rfl⟩
   obtain ⟨k,hk⟩:∃ t,mayE P wd n=t:=⟨_,rfl⟩
   have cp:=fun S=>aPlain P wd n S ho
   rw [ht,hk] at cp
   rw [ht,hk]
   refine Wv Y0 ?_
   refine aL fun b4 k_b4 o_b4=>?_
   refine Wv Y0 ?_
   refine cQ (c _) ?_
   refine Wv Y0 ?_
   refine cQ (aMost P wd _ (by omega) (by omega)) ?_
   refine Wv d1 ?_
   refine cX (cl _ hs) ?_
   rintro d S1 ⟨rfl,rfl⟩
   refine Wv Y0 ?_
   refine aL fun b6 k_b6 o_b6=>?_
   have hm46:=nes k_b6.1
   refine Wv (Yy hm46 k_b6) ?_
   refine cQ (cp _) ?_
   by_cases h0:k=0
   ·have b0:(k == 0)=true:=beq_iff_eq.2 h0
    have n0:(k != 0)=false:=by rw [bne,b0];rfl
    by_cases h1:t=s
    ·have b1:(t == s)=true:=beq_iff_eq.2 h1
     rw [if_pos ⟨h0,h1⟩]
     refine Wv (Yy n0 (Yy b0 (Yy b1 (Yy hm46 k_b6)))) ?_
     refine enduq (sR (Yy hm46 k_b6)) (by rfl) (Sto.Sub.refl _).cons.cons
    ·have b1:(t == s)=false:=beq_eq_false_iff_ne.2 h1
     rw [if_neg (fun h=>h1 h.2)]
     refine Wv (Yy n0 (Yy b0 (Yy b1 (Yy hm46 k_b6)))) ?_
     refine enduq (sR (Yy hm46 k_b6)) (by rfl) (Sto.Sub.refl _).cons.cons
   ·have b0:(k == 0)=false:=beq_eq_false_iff_ne.2 h0
    have n0:(k != 0)=true:=by rw [bne,b0];rfl
    rw [if_neg (fun h=>h0 h.1)]
    refine Wv (Yy n0 (Yy b0 (Yy hm46 k_b6))) ?_
    refine enduq (sR (Yy hm46 k_b6)) (by rfl) (Sto.Sub.refl _).cons.cons


section
variable {w : World} {I : Nat → Nat → Prop}
theorem rv_sd (s:Bs) (us:List Value):RV w I (sD s) us ↔ us=csS s:=by
 unfold RV;exact ⟨fun h=>h.1,fun h=>⟨h,rfl⟩⟩
theorem rv_pr (p:Pr) (us:List Value):RV w I (prD p) us ↔ us=csP p:=by
 unfold prD
 constructor
 ·intro h
  unfold RV at h
  obtain ⟨xs,ys,rfl,h1,h2⟩:=RVs.two h
  rw [(rv_sd _ _).1 h1,(rv_sd _ _).1 h2];rfl
 ·rintro rfl
  unfold RV
  exact RVs.mk2 ((rv_sd p.1 _).2 rfl) ((rv_sd p.2 _).2 rfl)
theorem rv_kd (k:Kd) (us:List Value):RV w I (kdD k) us ↔ us=csK k:=by
 unfold kdD
 constructor
 ·intro h
  unfold RV at h
  obtain ⟨xs,ys,rfl,h1,h2⟩:=RVs.two h
  unfold RV at h1 h2
  rw [h1.1,h2];simp [csK,Kd.c]
 ·rintro rfl
  unfold RV
  have e:csK k=[Value.int .u32 (k.page:Nat)]++bC k.sum.l:=by simp [csK,Kd.c]
  rw [e]
  exact RVs.mk2 (by unfold RV;exact ⟨rfl,rfl⟩) (by unfold RV;rfl)
theorem rvs_flat {α:Type} (f:α→D) (g:α→List Value) (h:∀ x us,RV w I (f x) us ↔ us=g x):∀ (l:List α) (us:List Value),RVs w I (l.map f) us ↔ us=l.flatMap g
 | [],us=>by unfold RVs;simp
 | x::l,us=>by
  have ih:=rvs_flat f g h l
  rw [List.map_cons]
  unfold RVs
  constructor
  ·rintro ⟨xs,ys,rfl,h1,h2⟩
   rw [(h x xs).1 h1,(ih ys).1 h2];simp
  ·rintro rfl
   exact ⟨_,_,by simp,(h x _).2 rfl,(ih _).2 rfl⟩
end
end Go.Proofs.YtcaggadjkccbiaaGreat