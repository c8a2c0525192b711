/- What comes in to the client's laws (values without addresses). -/
import Derived.Test.YtgjaaffheanobaaGreatZ21
import Derived.Test.YtgjaaffheanobaaGreatZ49
namespace Go.Proofs.YtgjaaffheanobaaGreat
set_option linter.unusedVariables false
set_option linter.unusedSimpArgs false
open Go Go.RowKit

def shFr:Sh:=.st [.int .i64,.int .i64]
def shHd:Sh:=.st [.int .u64,.dig]
def shEn:Sh:=.st [.int .u64,.dig,.int .u64,.str]
def shSt:Sh:=.st [.int .i64,shHd,shEn,.int .u64,.sl .dig,.sl .dig,.str,.str,.str]
theorem IsDs.cons {N:Nat} {s:Sh} {l:List Sh} {ds:List D} (h:IsDs N (s::l) ds):∃ x xs,ds=x::xs∧IsD N s x∧IsDs N l xs:=by unfold IsDs at h;exact h
theorem IsDs.nil {N:Nat} {ds:List D} (h:IsDs N [] ds):ds=[]:=by unfold IsDs at h;exact h
theorem IsD.st {N:Nat} {l:List Sh} {d:D} (h:IsD N (.st l) d):∃ ds,d=.agg ds∧IsDs N l ds:=by unfold IsD at h;exact h
theorem IsD.i64 {N:Nat} {d:D} (h:IsD N (.int .i64) d):∃ n:Int,d=iD n ∧ -9223372036854775808≤n∧n≤9223372036854775807:=by
 unfold IsD at h
 obtain ⟨n,rfl,hw⟩:=h
 refine ⟨n,rfl,?_⟩
 simp [Lit.wf,IntKind.min,IntKind.max,IntKind.bits,IntKind.signed] at hw
 exact ⟨hw.1,hw.2⟩
theorem IsD.u64 {N:Nat} {d:D} (h:IsD N (.int .u64) d):∃ n:Nat,d=uD n∧n<18446744073709551616:=by
 unfold IsD at h
 obtain ⟨n,rfl,hw⟩:=h
 simp [Lit.wf,IntKind.min,IntKind.max,IntKind.bits,IntKind.signed] at hw
 refine ⟨n.toNat,?_,by omega⟩
 rw [show ((n.toNat:Nat):Int)=n by omega]
theorem IsD.dig {N:Nat} {d:D} (h:IsD N .dig d):∃ x,d=.dg x:=by unfold IsD at h;exact h
theorem IsD.str {N:Nat} {d:D} (h:IsD N .str d):∃ s,d=sD s∧s.length≤N:=by unfold IsD at h;exact h
theorem IsD.digs {N:Nat} {d:D} (h:IsD N (.sl .dig) d):∃ l:List Dg,d=.sl .none (l.map .dg)∧l.length≤N:=by
 unfold IsD at h
 obtain ⟨es,rfl,hn,he⟩:=h
 have key:∀ es:List D,(∀ x∈es,IsD N .dig x)→∃ l:List Dg,es=l.map .dg:=fun es=>by
  induction es with
  | nil=>intro _;exact ⟨[],rfl⟩
  | cons x es ih=>
   intro he
   obtain ⟨y,rfl⟩:=(he x List.mem_cons_self).dig
   obtain ⟨l,rfl⟩:=ih (fun z hz=>he z (List.mem_cons_of_mem _ hz))
   exact ⟨y::l,rfl⟩
 obtain ⟨l,rfl⟩:=key es he
 exact ⟨l,rfl,by rwa [List.length_map] at hn⟩
theorem IsD.frame {N:Nat} {d:D} (h0:IsD N shFr d):∃ p w:Int,d=frD p w:=by
 obtain ⟨ds,rfl,h⟩:=h0.st
 obtain ⟨x,xs,rfl,h1,h⟩:=h.cons
 obtain ⟨y,ys,rfl,h2,h⟩:=h.cons
 obtain rfl:=h.nil
 obtain ⟨p,rfl,_⟩:=h1.i64
 obtain ⟨w,rfl,_⟩:=h2.i64
 exact ⟨p,w,rfl⟩
theorem IsD.head {N:Nat} {d:D} (h0:IsD N shHd d):∃ x:Hd,d=hdD x∧x.size<18446744073709551616:=by
 obtain ⟨ds,rfl,h⟩:=h0.st
 obtain ⟨x,xs,rfl,h1,h⟩:=h.cons
 obtain ⟨y,ys,rfl,h2,h⟩:=h.cons
 obtain rfl:=h.nil
 obtain ⟨n,rfl,hn⟩:=h1.u64
 obtain ⟨g,rfl⟩:=h2.dig
 exact ⟨⟨n,g⟩,rfl,hn⟩
theorem IsD.entry {N:Nat} {d:D} (hN:N≤140737488355328) (h0:IsD N shEn d):∃ x:En,d=enD x∧x.Ok:=by
 obtain ⟨ds,rfl,h⟩:=h0.st
 obtain ⟨x,xs,rfl,h1,h⟩:=h.cons
 obtain ⟨y,ys,rfl,h2,h⟩:=h.cons
 obtain ⟨z,zs,rfl,h3,h⟩:=h.cons
 obtain ⟨u,us,rfl,h4,h⟩:=h.cons
 obtain rfl:=h.nil
 obtain ⟨n,rfl,hn⟩:=h1.u64
 obtain ⟨g,rfl⟩:=h2.dig
 obtain ⟨m,rfl,hm⟩:=h3.u64
 obtain ⟨s,rfl,hs⟩:=h4.str
 exact ⟨⟨n,g,m,s⟩,rfl,⟨hn,hm,Nat.le_trans hs hN⟩⟩
structure Stp where
 what:Int
 head:Hd
 entry:En
 num:Nat
 trail:List Dg
 since:List Dg
 key:Bs
 to:Bs
 proof:Bs
@[go_sem] def stpD (s:Stp):D:=.agg [iD s.what,hdD s.head,enD s.entry,uD s.num,.sl .none (s.trail.map .dg),.sl .none (s.since.map .dg),sD s.key,sD s.to,sD s.proof]
structure Stp.Ok (N:Nat) (s:Stp):Prop where
 hh:s.head.size<18446744073709551616
 he:s.entry.Ok
 hn:s.num<18446744073709551616
 ht:s.trail.length≤N
 hs:s.since.length≤N
 hk:s.key.length≤N
 ho:s.to.length≤N
 hp:s.proof.length≤N
theorem IsD.step {N:Nat} {d:D} (hN:N≤140737488355328) (h0:IsD N shSt d):∃ s:Stp,d=stpD s∧s.Ok N:=by
 obtain ⟨ds,rfl,h⟩:=h0.st
 obtain ⟨x1,xs,rfl,h1,h⟩:=h.cons
 obtain ⟨x2,xs,rfl,h2,h⟩:=h.cons
 obtain ⟨x3,xs,rfl,h3,h⟩:=h.cons
 obtain ⟨x4,xs,rfl,h4,h⟩:=h.cons
 obtain ⟨x5,xs,rfl,h5,h⟩:=h.cons
 obtain ⟨x6,xs,rfl,h6,h⟩:=h.cons
 obtain ⟨x7,xs,rfl,h7,h⟩:=h.cons
 obtain ⟨x8,xs,rfl,h8,h⟩:=h.cons
 obtain ⟨x9,xs,rfl,h9,h⟩:=h.cons
 obtain rfl:=h.nil
 obtain ⟨a,rfl,_⟩:=h1.i64
 obtain ⟨b,rfl,q2⟩:=h2.head
 obtain ⟨c,rfl,q3⟩:=h3.entry hN
 obtain ⟨e,rfl,q4⟩:=h4.u64
 obtain ⟨f,rfl,q5⟩:=h5.digs
 obtain ⟨g,rfl,q6⟩:=h6.digs
 obtain ⟨i,rfl,q7⟩:=h7.str
 obtain ⟨j,rfl,q8⟩:=h8.str
 obtain ⟨k,rfl,q9⟩:=h9.str
 exact ⟨⟨a,b,c,e,f,g,i,j,k⟩,rfl,⟨q2,q3,q4,q5,q6,q7,q8,q9⟩⟩
theorem IsD.steps {N:Nat} {d:D} (hN:N≤140737488355328) (h:IsD N (.sl shSt) d):∃ l:List Stp,d=.sl .none (l.map stpD)∧l.length≤N∧∀ s∈l,s.Ok N:=by
 unfold IsD at h
 obtain ⟨es,rfl,hn,he⟩:=h
 have key:∀ es:List D,(∀ x∈es,IsD N shSt x)→∃ l:List Stp,es=l.map stpD∧∀ s∈l,s.Ok N:=fun es=>by
  induction es with
  | nil=>intro _;exact ⟨[],rfl,fun s h=>by cases h⟩
  | cons x es ih=>
   intro he
   obtain ⟨y,rfl,hy⟩:=(he x List.mem_cons_self).step hN
   obtain ⟨l,rfl,hl⟩:=ih (fun z hz=>he z (List.mem_cons_of_mem _ hz))
   exact ⟨y::l,rfl,fun s hs=>by rcases List.mem_cons.1 hs with rfl | hs;exact hy;exact hl s hs⟩
 obtain ⟨l,rfl,hl⟩:=key es he
 exact ⟨l,rfl,by rwa [List.length_map] at hn,hl⟩

end Go.Proofs.YtgjaaffheanobaaGreat