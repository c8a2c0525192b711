/- This program's frame and node, opened where they come in. -/
import Derived.Test.YtcaggadjkccbiaaGreatZ22
import Derived.Below
import Derived.Test.YtcaggadjkccbiaaGreatZ23
import Derived.Test.YtcaggadjkccbiaaGreatZ25
import Derived.Test.YtcaggadjkccbiaaGreatZ11
namespace Go.Proofs.YtcaggadjkccbiaaGreat
set_option linter.unusedVariables false
set_option linter.unusedSimpArgs false
open Go Go.RowKit Go.ChangeShapes Go.WideShapes Go.Deep Go.Joins

theorem frame_struct:∃ f0 f1,Tryz.prog.underlying 24=some (.struct #[f0,f1])∧f0.type=3∧f1.type=3∧f0.offset=0∧f1.offset=1:=⟨_,_,Tryz.underlying24,rfl,rfl,rfl,rfl⟩

section
variable {H : Type} {enc : TypeId × Value → H} {w : World} {base : Nat} {spare : Nat → Bool} {held : Bool}

end

theorem laidOut:laidOutB Tryz.prog=true:=by kernel_rfl

end Go.Proofs.YtcaggadjkccbiaaGreat
namespace Go.Proofs.YtcaggadjkccbiaaGreat
set_option linter.unusedVariables false
set_option linter.unusedSimpArgs false
open Go Go.RowKit

theorem manyP_inv {α T:Type} {step:α→Bs→Option (α×T×Bs)} {I:α→Bs→Prop} {Q:T→Prop} (hstep:∀ x l x' t l',I x l→step x l=some (x',t,l')→I x' l'∧Q t) :
  ∀ (n:Nat) (x:α) (l:Bs) (r:α×List T×Bs),I x l→manyP step n x l=some r→I r.1 r.2.2∧r.2.1.length=n∧∀ t∈r.2.1,Q t
 | 0,x,l,r,hi,h=>by
  simp only [manyP,Option.some.injEq] at h
  subst h
  exact ⟨hi,rfl,by simp⟩
 | n+1,x,l,r,hi,h=>by
  simp only [manyP] at h
  cases hs:step x l with
  | none=>simp [hs] at h
  | some q=>
   obtain ⟨x',t,l'⟩:=q
   obtain ⟨h1,h2⟩:=hstep _ _ _ _ _ hi hs
   simp only [hs] at h
   cases hm:manyP step n x' l' with
   | none=>simp [hm] at h
   | some q2=>
    obtain ⟨x'',ts,l''⟩:=q2
    obtain ⟨k1,k2,k3⟩:=manyP_inv hstep n x' l' _ h1 hm
    simp only [hm,Option.some.injEq] at h
    subst h
    exact ⟨k1,by simpa using k2,by
     intro u hu
     simp only [List.mem_cons] at hu
     rcases hu with rfl | hu
     ·exact h2
     ·exact k3 u hu⟩
theorem listP_inv {α T:Type} {step:α→Bs→Option (α×T×Bs)} {I:α→Bs→Prop} {Q:T→Prop} (hstep:∀ x l x' t l',I x l→step x l=some (x',t,l')→I x' l'∧Q t) {m:Nat} {x:α} {l:Bs} {r:α×List T×Bs}
  (hi:∀ n l',freeP m l=some (n,l')→I x l') (h:listP m step x l=some r):I r.1 r.2.2∧r.2.1.length≤l.length∧∀ t∈r.2.1,Q t:=by
 unfold listP at h
 cases hf:freeP m l with
 | none=>simp [hf] at h
 | some q=>
  obtain ⟨n,l'⟩:=q
  simp only [hf] at h
  split at h
  ·rename_i hle
   obtain ⟨h1,h2,h3⟩:=manyP_inv hstep n x l' r (hi _ _ hf) h
   have:=(freeP_rest hf).2.1
   exact ⟨h1,by omega,h3⟩
  ·cases h

theorem textP_len {m:Nat} {l t l':Bs} (h:textP m l=some (t,l')):t.length+l'.length<l.length∧t.length≤m:=by
 unfold textP at h
 cases hf:freeP m l with
 | none=>simp [hf] at h
 | some r=>
  obtain ⟨n,l1⟩:=r
  have:=freeP_rest hf
  simp only [hf,rawP] at h
  split at h
  ·simp only [Option.some.injEq,Prod.mk.injEq] at h
   obtain ⟨rfl,rfl⟩:=h
   simp;omega
  ·cases h
theorem take4_lt {l l':Bs} {n:Nat} (h:takeP 4 l=some (n,l')):n<4294967296:=by
 unfold takeP at h
 split at h
 ·rename_i hl
  simp only [Option.some.injEq,Prod.mk.injEq] at h
  have:=be_lt (l.take 4)
  rw [h.1] at this
  have h4:(l.take 4).length=4:=by simp;omega
  rw [h4] at this
  omega
 ·cases h
theorem pairP_ok {P:Nat} {x x':Unit} {t:Pr} {l l':Bs} (h:pairP P x l=some (x',t,l')):t.1.length≤l.length∧t.2.length≤l.length∧l'.length≤l.length:=by
 unfold pairP at h
 cases h1:textP (P / 16) l with
 | none=>simp [h1] at h
 | some r=>
  obtain ⟨k,l1⟩:=r
  simp only [h1] at h
  cases h2:textP (P / 8) l1 with
  | none=>simp [h2] at h
  | some r2=>
   obtain ⟨v,l2⟩:=r2
   have a1:=textP_len h1;have a2:=textP_len h2
   simp only [h2,Option.some.injEq,Prod.mk.injEq] at h
   obtain ⟨_,rfl,rfl⟩:=h
   exact ⟨by simp only;omega,by simp only;omega,by omega⟩
theorem kidP_ok {P wd:Nat} {pages:Bool} {x x':Bool×List Bs} {t:Kd} {l l':Bs} (h:kidP P wd pages x l=some (x',t,l')):t.page<4294967296∧∀ u∈x'.2,u∈x.2∨u.length≤l.length:=by
 unfold kidP at h
 cases hs:sepP P x l with
 | none=>simp [hs] at h
 | some r=>
  obtain ⟨x1,l1⟩:=r
  simp only [hs] at h
  have h0:∀ u∈x1.2,u∈x.2∨u.length≤l.length:=by
   unfold sepP at hs
   split at hs
   ·simp only [Option.some.injEq,Prod.mk.injEq] at hs
    obtain ⟨rfl,rfl⟩:=hs
    intro u hu;exact .inl hu
   ·cases ht:textP (P / 16) l with
    | none=>simp [ht] at hs
    | some r=>
     have:=textP_len (t:=r.1) (l':=r.2) ht
     simp only [ht,Option.map_some,Option.some.injEq,Prod.mk.injEq] at hs
     obtain ⟨rfl,rfl⟩:=hs
     intro u hu
     simp only [List.mem_append,List.mem_singleton] at hu
     rcases hu with hu | rfl
     ·exact .inl hu
     ·exact .inr (by omega)
  have key:∀ (o:Option (Nat×Bs)),(∀ n l2,o=some (n,l2)→n<4294967296)→(match o with | none=>none | some (n,l2)=>match dgP wd l2 with | none=>none | some (d,l3)=>some (x1,(⟨n,d⟩:Kd),l3))=some (x',t,l')→t.page<4294967296∧∀ u∈x'.2,u∈x.2∨u.length≤l.length:=by
   intro o ho h
   cases o with
   | none=>simp at h
   | some r2=>
    obtain ⟨n,l2⟩:=r2
    have h1:=ho n l2 rfl
    simp only at h
    cases hd:dgP wd l2 with
    | none=>simp [hd] at h
    | some r3=>
     simp only [hd,Option.some.injEq,Prod.mk.injEq] at h
     obtain ⟨rfl,rfl,rfl⟩:=h
     exact ⟨h1,h0⟩
  refine key _ ?_ h
  intro n l2 ho
  cases pages
  ·simp at ho;omega
  ·simp only [if_true] at ho;exact take4_lt ho

theorem parseP_ok {P wd:Nat} {pages:Bool} {s:Bs} {n:Nd} (hs:s.length≤3909374676453) (h:parseP P wd pages s=some n):NdOk n:=by
 unfold parseP at h
 cases ht:takeP 1 s with
 | none=>simp [ht] at h
 | some r=>
  obtain ⟨t,l⟩:=r
  have hl:=takeP_len ht
  simp only [ht] at h
  split at h
  ·cases hp:listP s.length (pairP P) () l with
   | none=>simp [hp] at h
   | some q=>
    obtain ⟨u,ps,l'⟩:=q
    simp only [hp] at h
    split at h
    ·simp only [Option.some.injEq] at h
     subst h
     obtain ⟨_,h2,h3⟩:=listP_inv (I:=fun _ l=>l.length≤s.length) (Q:=fun t:Pr=>t.1.length≤s.length∧t.2.length≤s.length) (fun x l x' t l' hi hst=>by
      have:=pairP_ok hst
      exact ⟨by omega,by omega,by omega⟩) (fun n l' hf=>by have:=(freeP_rest hf).2.1;omega) hp
     exact ⟨by simp only at h2 ⊢;omega,by simp,by simp,fun p hp=>by have:=h3 p hp;omega,by simp,by simp⟩
    ·cases h
  ·split at h
   ·cases hp:listP s.length (kidP P wd pages) (true,[]) l with
    | none=>simp [hp] at h
    | some q=>
     obtain ⟨x,ks,l'⟩:=q
     simp only [hp] at h
     split at h
     ·cases h
     ·split at h
      ·simp only [Option.some.injEq] at h
       subst h
       obtain ⟨h1,h2,h3⟩:=listP_inv (I:=fun x l=>x.2.length+l.length≤s.length∧∀ u∈x.2,u.length≤s.length) (Q:=fun t:Kd=>t.page<4294967296) (fun x l x' t l' hi hst=>by
        have h1:=kidP_len hst
        have h2:=kidP_ok hst
        refine ⟨⟨by omega,fun u hu=>?_⟩,h2.1⟩
        rcases h2.2 u hu with h | h
        ·exact hi.2 u h
        ·omega) (fun n l' hf=>by have:=(freeP_rest hf).2.1;simp;omega) hp
       exact ⟨by simp,by have:=h1.1;simp only at this ⊢;omega,by simp only at h2 ⊢;omega,by simp,fun u hu=>by have:=h1.2 u hu;omega,h3⟩
      ·cases h
   ·cases h


@[go_sem] theorem Kd.getE0 (k:Kd) (h:0<k.c.size):k.c[0]'h=.int .u32 (k.page:Int):=by
 have h0:=Kd.get0 k
 rw [Array.getElem?_eq_getElem h] at h0
 exact Option.some.inj h0


def NodePost (w:World) (code:Int) (r:Option Nd) (e:Ending) (w':World):Prop:=
 match r with
 | some n=>∃ pa sa ka pc sc kc,e=.returned (.tuple #[.agg #[.slice pa n.pairs.length pc,.slice sa n.seps.length sc,.slice ka n.kids.length kc],.int .i64 0])∧Own3 w' w.heap.size pa sa ka pc sc kc n∧Kp [] w w'
 | none=>e=.returned (.tuple #[.agg #[.slice none 0 0,.slice none 0 0,.slice none 0 0],.int .i64 code])∧Kp [] w w'

def NodePostW (w:World) (code:Int) (r:Option Nd) (e:Ending) (w':World):Prop:=
 match r with
 | some n=>∃ pa sa ka pc sc kc,e=.returned (.tuple #[.agg #[.slice pa n.pairs.length pc,.slice sa n.seps.length sc,.slice ka n.kids.length kc],.int .i64 0])∧NdAt w' pa sa ka n∧Kp [] w w'∧∀ g∈ab pa++ab sa++ab ka,w.heap.size≤g
 | none=>e=.returned (.tuple #[.agg #[.slice none 0 0,.slice none 0 0,.slice none 0 0],.int .i64 code])∧Kp [] w w'
theorem NodePost.weak {w:World} {code:Int} {r:Option Nd} {e:Ending} {w':World} (h:NodePost w code r e w'):NodePostW w code r e w':=by
 cases r with
 | none=>exact h
 | some n=>
  obtain ⟨pa,sa,ka,pc,sc,kc,he,od,k⟩:=h
  exact ⟨pa,sa,ka,pc,sc,kc,he,od.at,k,od.lo⟩

def unpackE (p wd:Int):Int:=if rightB p wd=true then 73 else 2
def readP (p wd:Int) (s:Bs):Option Nd:=if rightB p wd=true then (parseP p.toNat wd.toNat false s).filter (fun n=>decide (mayE p wd n=0)) else none


theorem byteN (n:Nat) (h:n<256):(n.toUInt8).toNat=n:=by
 rw [Nat.toUInt8,UInt8.toNat_ofNat'];exact Nat.mod_eq_of_lt (by omega)
theorem nByte (b:UInt8):b.toNat.toUInt8=b:=by simp
theorem freeB_pos (n:Nat):1≤(freeB n).length:=by rw [freeB_length];exact cntN_pos n

theorem vrd_free:∀ (n k acc:Nat) (l:Bs),(0<k→0<n)→k≤63→k % 7=0→n*2 ^ k<18446744073709551616→vrd (freeB n++l) k acc=some (acc+n*2 ^ k,l):=by
 intro n
 induction n using Nat.strongRecOn with
 | ind n ih=>
  intro k acc l h0 hk h7 hn
  by_cases h:n<128
  ·rw [freeB_small h]
   simp only [List.singleton_append]
   unfold vrd
   rw [byteN n (by omega),if_neg,if_pos h]
   rintro (⟨h1,h2⟩ | ⟨h1,h2⟩)
   ·subst h1
    have:2*2 ^ 63≤n*2 ^ 63:=Nat.mul_le_mul_right _ h2
    omega
   ·have:=h0 h1;omega
  ·rw [freeB_big h]
   simp only [List.cons_append]
   unfold vrd
   have hk57:k≤56:=by
    rcases Nat.lt_or_ge 56 k with h1 | h1
    ·have hk63:k=63:=by omega
     subst hk63
     have:128*2 ^ 63≤n*2 ^ 63:=Nat.mul_le_mul_right _ (by omega)
     omega
    ·exact h1
   have hm:n % 128+128<256:=by omega
   have hs:n*2 ^ k=n % 128*2 ^ k+n / 128*2 ^ (k+7):=by
    rw [Nat.pow_add,show n / 128*(2 ^ k*2 ^ 7)=(n / 128*128)*2 ^ k by rw [Nat.mul_assoc,Nat.mul_comm (2 ^ k) (2 ^ 7)],← Nat.add_mul]
    congr 1;omega
   rw [byteN _ hm,if_neg (by rintro (⟨h1,h2⟩ | ⟨h1,h2⟩) <;> omega),if_neg (by omega),ih (n / 128) (by omega) (k+7) _ l (fun _=>by omega) (by omega) (by omega) (by omega)]
   rw [show (n % 128+128) % 128=n % 128 by omega,Nat.add_assoc,← hs]

theorem freeP_free {m n:Nat} {l:Bs} (h:n≤m) (h64:n<18446744073709551616):freeP m (freeB n++l)=some (n,l):=by
 unfold freeP
 rw [vrd_free n 0 0 l (by omega) (by omega) (by omega) (by omega)]
 simp [h]

theorem free_vrd:∀ (l:Bs) (k acc m:Nat) (l':Bs),vrd l k acc=some (m,l')→∃ n,l=freeB n++l'∧m=acc+n*2 ^ k∧(0<k→0<n)
 | [],_,_,_,_,h=>by simp [vrd] at h
 | b::l,k,acc,m,l',h=>by
  unfold vrd at h
  split at h
  ·cases h
  ·rename_i hc
   have hb:=b.toNat_lt
   split at h
   ·rename_i hlt
    simp only [Option.some.injEq,Prod.mk.injEq] at h
    obtain ⟨rfl,rfl⟩:=h
    refine ⟨b.toNat,?_,rfl,fun h0=>?_⟩
    ·rw [freeB_small hlt,nByte];rfl
    ·omega
   ·rename_i hge
    obtain ⟨n,rfl,hm,h0⟩:=free_vrd l _ _ _ _ h
    have h0':=h0 (by omega)
    have hb8:128≤b.toNat:=by omega
    refine ⟨b.toNat % 128+128*n,?_,?_,fun _=>by clear hm;omega⟩
    ·rw [freeB_big (n:=b.toNat % 128+128*n) (by omega)]
     have e1:(b.toNat % 128+128*n) % 128+128=b.toNat:=by omega
     have e2:(b.toNat % 128+128*n) / 128=n:=by omega
     rw [e1,e2,nByte];rfl
    ·rw [hm,Nat.pow_add,Nat.add_mul,Nat.add_assoc]
     congr 2
     rw [show n*(2 ^ k*2 ^ 7)=128*n*2 ^ k by rw [Nat.mul_comm (2 ^ k) (2 ^ 7),← Nat.mul_assoc,Nat.mul_comm n (2 ^ 7)]]

theorem free_freeP {m n:Nat} {l l':Bs} (h:freeP m l=some (n,l')):l=freeB n++l':=by
 unfold freeP at h
 cases hv:vrd l 0 0 with
 | none=>simp [hv] at h
 | some r=>
  obtain ⟨n',l''⟩:=r
  simp only [hv] at h
  split at h
  ·simp only [Option.some.injEq,Prod.mk.injEq] at h
   obtain ⟨rfl,rfl⟩:=h
   obtain ⟨n,h1,h2,_⟩:=free_vrd _ _ _ _ _ hv
   simp at h2;subst h2;exact h1
  ·cases h

theorem textP_text {m:Nat} {t l:Bs} (h:t.length≤m) (h64:t.length<18446744073709551616):textP m (textB t++l)=some (t,l):=by
 unfold textP textB
 rw [List.append_assoc,freeP_free h h64]
 simp [rawP]
theorem text_textP {m:Nat} {t l l':Bs} (h:textP m l=some (t,l')):l=textB t++l':=by
 unfold textP at h
 cases hf:freeP m l with
 | none=>simp [hf] at h
 | some r=>
  obtain ⟨n,l1⟩:=r
  simp only [hf,rawP] at h
  split at h
  ·rename_i hle
   simp only [Option.some.injEq,Prod.mk.injEq] at h
   obtain ⟨rfl,rfl⟩:=h
   rw [free_freeP hf,textB,List.length_take,Nat.min_eq_left hle,List.append_assoc,List.take_append_drop]
  ·cases h

theorem be_fix:∀ (k n acc:Nat),be (fixB k n) acc=acc*256 ^ k+n % 256 ^ k
 | 0,n,acc=>by simp [fixB,be,Nat.mod_one]
 | k+1,n,acc=>by
  simp only [fixB,be]
  rw [be_fix k n,byteN _ (by omega),Nat.pow_succ,Nat.add_mul,Nat.mod_mul,Nat.mul_comm (256 ^ k) 256,Nat.mul_assoc,Nat.mul_comm (256 ^ k) (n / 256 ^ k % 256)]
  omega
theorem fix_be:∀ (l:Bs) ,fixB l.length (be l 0)=l:=by
 have key:∀ (l:Bs) (acc:Nat),fixB l.length (be l acc)=l:=by
  intro l
  induction l with
  | nil=>intro acc;rfl
  | cons b l ih=>
   intro acc
   simp only [be,List.length_cons,fixB]
   have h1:be l (acc*256+b.toNat)=(acc*256+b.toNat)*256 ^ l.length+be l 0:=by
    have h2:=be_le' l (acc*256+b.toNat)
    exact h2
   have hlt:=be_lt l
   have hb:=b.toNat_lt
   rw [ih]
   congr 1
   rw [h1,Nat.mul_comm,Nat.mul_add_div (Nat.pow_pos (by omega)),Nat.div_eq_of_lt hlt]
   rw [show (acc*256+b.toNat+0) % 256=b.toNat by omega,nByte]
 exact fun l=>key l 0
where be_le':∀ (l:Bs) (acc:Nat),be l acc=acc*256 ^ l.length+be l 0
 | [],acc=>by simp [be]
 | b::l,acc=>by
  simp only [be,List.length_cons,Nat.zero_mul,Nat.zero_add]
  rw [be_le' l (acc*256+b.toNat),be_le' l b.toNat,Nat.pow_succ,Nat.add_mul]
  rw [Nat.mul_assoc,Nat.mul_comm 256];omega

theorem takeP_fix {n:Nat} {l:Bs} (k:Nat) (h:n<256 ^ k):takeP k (fixB k n++l)=some (n,l):=by
 unfold takeP
 have hl:=fixB_len k n
 rw [if_pos (by simp [hl]),List.take_append_of_le_length (by omega),List.take_of_length_le (by omega),be_fix,List.drop_append_of_le_length (by omega),List.drop_of_length_le (by omega)]
 simp [Nat.mod_eq_of_lt h]
theorem fix_takeP {k n:Nat} {l l':Bs} (h:takeP k l=some (n,l')):l=fixB k n++l':=by
 unfold takeP at h
 split at h
 ·rename_i hk
  simp only [Option.some.injEq,Prod.mk.injEq] at h
  obtain ⟨rfl,rfl⟩:=h
  have:=fix_be (l.take k)
  rw [List.length_take,Nat.min_eq_left hk] at this
  rw [this,List.take_append_drop]
 ·cases h

theorem dgP_dg {wd:Nat} {d:Dg} {l:Bs} (h1:wd≤32) (h:Dg.cut wd d=d):dgP wd (d.l.take wd++l)=some (d,l):=by
 have hd:=d.h
 unfold dgP rawP
 rw [if_pos (by simp;omega)]
 have ht:(d.l.take wd++l).take wd=d.l.take wd:=by rw [List.take_append_of_le_length (by simp;omega),List.take_take,Nat.min_self]
 have hdr:(d.l.take wd++l).drop wd=l:=by rw [List.drop_append_of_le_length (by simp;omega),List.drop_of_length_le (by simp;omega)];rfl
 rw [ht,hdr]
 exact congrArg (fun x=>some (x,l)) h
theorem pad_take {wd:Nat} {l:Bs} (h:wd≤32) (hl:wd≤l.length):(Dg.pad (l.take wd)).l.take wd=l.take wd:=by
 show (padB (l.take wd)).take wd=l.take wd
 unfold padB
 rw [List.take_take,Nat.min_eq_right h,List.take_append_of_le_length (by simp;omega),List.take_take,Nat.min_self]
theorem dg_dgP {wd:Nat} {d:Dg} {l l':Bs} (h1:wd≤32) (h:dgP wd l=some (d,l')):l=d.l.take wd++l':=by
 unfold dgP rawP at h
 split at h
 ·rename_i hk
  simp only [Option.map_some,Option.some.injEq,Prod.mk.injEq] at h
  obtain ⟨rfl,rfl⟩:=h
  rw [pad_take h1 hk,List.take_append_drop]
 ·simp at h

theorem pairP_pair {P:Nat} {x:Pr} {l:Bs} (h1:x.1.length≤P / 16) (h2:x.2.length≤P / 8) (hP:P≤8192):pairP P () (pairB x++l)=some ((),x,l):=by
 unfold pairP pairB
 rw [List.append_assoc,textP_text h1 (by omega)]
 simp only
 rw [textP_text h2 (by omega)]
theorem pair_pairP {P:Nat} {u u':Unit} {x:Pr} {l l':Bs} (h:pairP P u l=some (u',x,l')):l=pairB x++l':=by
 unfold pairP at h
 cases h1:textP (P / 16) l with
 | none=>simp [h1] at h
 | some r=>
  obtain ⟨k,l1⟩:=r
  cases h2:textP (P / 8) l1 with
  | none=>simp [h1,h2] at h
  | some r2=>
   obtain ⟨v,l2⟩:=r2
   simp only [h1,h2,Option.some.injEq,Prod.mk.injEq] at h
   obtain ⟨_,rfl,rfl⟩:=h
   rw [text_textP h1,text_textP h2,pairB,List.append_assoc]

theorem many_pairs {P:Nat} (hP:P≤8192):∀ (ps:List Pr) (l:Bs),(∀ x∈ps,x.1.length≤P / 16∧x.2.length≤P / 8)→manyP (pairP P) ps.length () (pairsB ps++l)=some ((),ps,l)
 | [],l,_=>rfl
 | x::t,l,h=>by
  have hx:=h x (by simp)
  have ih:=many_pairs hP t l (fun y hy=>h y (by simp [hy]))
  show manyP (pairP P) (t.length+1) () ((pairB x++pairsB t)++l)=_
  rw [List.append_assoc]
  unfold manyP
  rw [pairP_pair hx.1 hx.2 hP]
  simp only [ih]
theorem pairs_many {P:Nat}:∀ (n:Nat) (ps:List Pr) (u:Unit) (l l':Bs),manyP (pairP P) n () l=some (u,ps,l')→l=pairsB ps++l'∧ps.length=n
 | 0,ps,u,l,l',h=>by
  simp only [manyP,Option.some.injEq,Prod.mk.injEq] at h
  obtain ⟨_,rfl,rfl⟩:=h;exact ⟨rfl,rfl⟩
 | n+1,ps,u,l,l',h=>by
  unfold manyP at h
  cases h1:pairP P () l with
  | none=>simp [h1] at h
  | some r=>
   obtain ⟨_,x,l1⟩:=r
   cases h2:manyP (pairP P) n () l1 with
   | none=>simp [h1,h2] at h
   | some r2=>
    obtain ⟨_,ts,l2⟩:=r2
    simp only [h1,h2,Option.some.injEq,Prod.mk.injEq] at h
    obtain ⟨_,rfl,rfl⟩:=h
    obtain ⟨e1,e2⟩:=pairs_many n ts _ _ _ h2
    refine ⟨?_,by simp [e2]⟩
    rw [pair_pairP h1,e1,← List.append_assoc];rfl

theorem sum_ge {α:Type} (f:α→Nat) (B:Nat):∀ (l:List α),(∀ x∈l,B≤f x)→l.length*B≤(l.map f).sum
 | [],_=>by simp
 | x::t,h=>by
  have h1:=sum_ge f B t (fun y hy=>h y (by simp [hy]))
  have h2:=h x (by simp)
  simp only [List.map_cons,List.sum_cons,List.length_cons,Nat.succ_mul]
  omega
theorem pairsB_ge (ps:List Pr):ps.length≤(pairsB ps).length:=by
 rw [pairsB_length]
 have:=sum_ge prN 1 ps (fun x _=>by have:=cntN_pos x.1.length;unfold prN txN;omega)
 omega

theorem list_pairsB {P m:Nat} (hP:P≤8192) {ps:List Pr} {l:Bs} (h:∀ x∈ps,x.1.length≤P / 16∧x.2.length≤P / 8) (hm:ps.length≤m) (h64:ps.length<18446744073709551616) :
  listP m (pairP P) () (freeB ps.length++pairsB ps++l)=some ((),ps,l):=by
 unfold listP
 rw [List.append_assoc,freeP_free hm h64]
 simp only
 rw [if_pos (by have:=pairsB_ge ps;simp;omega),many_pairs hP ps l h]
theorem pairsB_list {P m:Nat} {ps:List Pr} {u:Unit} {l l':Bs} (h:listP m (pairP P) () l=some (u,ps,l')):l=freeB ps.length++pairsB ps++l':=by
 unfold listP at h
 cases hf:freeP m l with
 | none=>simp [hf] at h
 | some r=>
  obtain ⟨n,l1⟩:=r
  simp only [hf] at h
  split at h
  ·obtain ⟨e1,e2⟩:=pairs_many n ps u l1 l' h
   rw [free_freeP hf,e1,e2,List.append_assoc]
  ·cases h


def noN:Nd:=⟨[],[],[]⟩
theorem noN_ok:NdOk noN:=⟨by decide,by decide,by decide,by simp [noN],by simp [noN],by simp [noN]⟩

end Go.Proofs.YtcaggadjkccbiaaGreat