/- A law's arguments opened: a frame, a node, a text. -/
import Derived.Test.YtgjaaffheanobaaGreatZ9
import Derived.Deep.Slices
import Derived.ChangeArms
import Derived.ShutString
import Derived.ChangeOld
import Derived.SizedLaws
import Derived.Lib.SmallJoins
namespace Go.Proofs.YtgjaaffheanobaaGreat
set_option linter.unusedVariables false
set_option linter.unusedSimpArgs false
open Go Go.RowKit Go.ChangeShapes Go.WideShapes Go.Deep

section
variable {H : Type} {enc : TypeId × Value → H} {P : Program} {w : World} {base : Nat} {spare : Nat → Bool} {held : Bool}

theorem spot_none {w:World} {a:Addr} {v:Value} (h:w.cell? a=some v):a=⟨a.block,a.off,none⟩∧a.block<w.heap.size:=by
 refine ⟨?_,World.block_lt_of_cell? w a h⟩
 obtain ⟨b,o,sp⟩:=a
 unfold World.cell? at h
 split at h
 ·cases sp with
  | none=>rfl
  | some x=>simp at h
 ·cases h

theorem row_of_cells {w:World} {b o n:Nat} {cs:List Value} (hn:0<n) (hl:cs.length=n) (h:∀ i,i<n→w.cell? ⟨b,o+i,none⟩=cs[i]?):rowAt? w ⟨b,o,none⟩ n=some cs.toArray:=by
 have h0:=h (n - 1) (by omega)
 rw [List.getElem?_eq_getElem (by omega)] at h0
 unfold rowAt?
 unfold World.cell? at h0
 split at h0
 ·rename_i c e f hb
  simp only at hb
  have hsz:o+(n - 1)<c.size:=by
   rcases Nat.lt_or_ge (o+(n - 1)) c.size with h1 | h1
   ·exact h1
   ·simp [Array.getElem?_eq_none h1] at h0
  simp only [hb,Option.isSome_none,Bool.false_eq_true,if_false]
  rw [if_pos (by omega)]
  congr 1
  apply Array.ext_getElem?
  intro i
  simp only [Array.getElem?_extract,List.getElem?_toArray]
  by_cases hi:i<n
  ·have h1:=h i hi
   simp only [World.cell?,hb,Option.isSome_none,Bool.false_eq_true,if_false] at h1
   rw [if_pos (by omega),h1]
  ·rw [if_neg (by omega),List.getElem?_eq_none (by omega)]
 ·cases h0

theorem weightsAll_mem {e:TypeId}:∀ {ds:List (DataW H)} {d:DataW H},d∈ds→∀ n∈d.weights P e,n∈DataW.weightsAll P e ds
 | x::r,d,hd,n,hn=>by
  simp only [DataW.weightsAll,List.mem_append]
  rcases List.mem_cons.1 hd with rfl | h
  ·exact .inl hn
  ·exact .inr (weightsAll_mem h n hn)

theorem cells_at {w:World} {base:Nat} {a:Addr} {k:Nat} {cs:List Value} (h:w.cells? base a k=some cs) (hk:0<k):a=⟨a.block,a.off,none⟩∧a.block<w.heap.size∧cs.length=k∧∀ i,i<k→w.cell? ⟨a.block,a.off+i,none⟩=cs[i]?:=by
 obtain ⟨_,hl,hc⟩:=World.cells?_some h
 have h0:=hc 0 hk
 rw [List.getElem?_eq_getElem (by omega)] at h0
 have ha:a.add 0=a:=by simp [Addr.add]
 rw [ha] at h0
 obtain ⟨h1,h2⟩:=spot_none h0
 refine ⟨h1,h2,hl,fun i hi=>?_⟩
 rw [← hc i hi]
 rw [h1,Addr.add_lit]

theorem elem_bytes {t e:TypeId} {k:Nat} (ht:P.underlying t=some (.array k e)) (he:P.underlying e=some (.int .u8)) (hc:P.cellsOf e=1) (hck:P.cellsOf t=k)
  {n:Nat} {cs:List Value} {y:DataW H×List MemPlace} (h:DataW.trod enc P w base spare held n t cs=some y) :
  ∃ l:Bs,l.length=k∧cs=bC l:=by
 obtain ⟨xs,m,_,_,hl,hlx,hel⟩:=DataW.trod_array ht h
 rw [hck] at hl
 have each:∀ i,i<k→∃ b:UInt8,cs[i]?=some (.int .u8 (b.toNat:Int)):=by
  intro i hi
  have h1:=hel i hi
  rw [List.getElem?_eq_getElem (by omega)] at h1
  obtain ⟨z,hz,_,hwf⟩:=DataW.trod_int he h1
  rw [hc] at hz
  have h2:((cs.drop (i*1)).take 1)[0]?=some (.int .u8 z):=by rw [hz];rfl
  simp at h2
  have hr:0≤z∧z<256:=by
   simp [Lit.wf,IntKind.min,IntKind.max,IntKind.bits,IntKind.signed] at hwf
   omega
  refine ⟨UInt8.ofNat z.toNat,?_⟩
  rw [h2]
  congr 2
  rw [UInt8.toNat_ofNat_of_lt' (by simp [UInt8.size];omega)]
  omega
 obtain ⟨f,hf⟩:=choose_lt each
 refine ⟨(List.range k).map f,by simp,?_⟩
 apply List.ext_getElem?
 intro i
 by_cases hi:i<k
 ·rw [hf i hi]
  simp [bC,hi]
 ·rw [List.getElem?_eq_none (by omega),List.getElem?_eq_none (by simp [bC];omega)]

instance:Inhabited Kd:=⟨Kd.zero⟩

end

end Go.Proofs.YtgjaaffheanobaaGreat