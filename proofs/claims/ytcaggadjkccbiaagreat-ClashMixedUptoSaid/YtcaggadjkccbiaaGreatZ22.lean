/- A law's arguments opened: a frame, a node, a text. -/
import Derived.Test.YtcaggadjkccbiaaGreatZ11
import Derived.Deep.Slices
import Derived.ChangeArms
import Derived.ShutString
import Derived.ChangeOld
import Derived.SizedLaws
import Derived.Lib.SmallJoins
import Derived.Test.YtcaggadjkccbiaaGreatZ20
import Derived.Test.YtcaggadjkccbiaaGreatZ18
import Derived.Test.YtcaggadjkccbiaaGreatZ19
import Derived.Laws.Cover3
namespace Go.Proofs.YtcaggadjkccbiaaGreat
set_option linter.unusedVariables false
set_option linter.unusedSimpArgs false
open Go Go.RowKit Go.ChangeShapes Go.WideShapes Go.Deep

section
variable {H : Type} {enc : TypeId × Value → H} {P : Program} {w : World} {base : Nat} {spare : Nat → Bool} {held : Bool}

theorem spot_none {w:World} {a:Addr} {v:Value} (h:w.cell? a=some v):a=⟨a.block,a.off,none⟩∧a.block<w.heap.size:=by
 refine ⟨?_,World.block_lt_of_cell? w a h⟩
 obtain ⟨b,o,sp⟩:=a
 unfold World.cell? at h
 split at h
 ·cases sp with
  | none=>rfl
  | some x=>simp at h
 ·cases h

theorem row_of_cells {w:World} {b o n:Nat} {cs:List Value} (hn:0<n) (hl:cs.length=n) (h:∀ i,i<n→w.cell? ⟨b,o+i,none⟩=cs[i]?):rowAt? w ⟨b,o,none⟩ n=some cs.toArray:=by
 have h0:=h (n - 1) (by omega)
 rw [List.getElem?_eq_getElem (by omega)] at h0
 unfold rowAt?
 unfold World.cell? at h0
 split at h0
 ·rename_i c e f hb
  simp only at hb
  have hsz:o+(n - 1)<c.size:=by
   rcases Nat.lt_or_ge (o+(n - 1)) c.size with h1 | h1
   ·exact h1
   ·simp [Array.getElem?_eq_none h1] at h0
  simp only [hb,Option.isSome_none,Bool.false_eq_true,if_false]
  rw [if_pos (by omega)]
  congr 1
  apply Array.ext_getElem?
  intro i
  simp only [Array.getElem?_extract,List.getElem?_toArray]
  by_cases hi:i<n
  ·have h1:=h i hi
   simp only [World.cell?,hb,Option.isSome_none,Bool.false_eq_true,if_false] at h1
   rw [if_pos (by omega),h1]
  ·rw [if_neg (by omega),List.getElem?_eq_none (by omega)]
 ·cases h0

theorem cells1 {w:World} {base:Nat} {a:Addr} {v:Value} (h:w.cells? base a 1=some [v]):w.cell? a=some v:=by
 have:=(World.cells?_some h).2.2 0 (by omega)
 simpa [Addr.add] using this

instance:Inhabited Kd:=⟨Kd.zero⟩

end

end Go.Proofs.YtcaggadjkccbiaaGreat
namespace Go.Proofs.YtcaggadjkccbiaaGreat
set_option maxHeartbeats 1000000
set_option maxRecDepth 100000
set_option linter.unusedVariables false
set_option linter.unusedSimpArgs false
open Go Go.RowKit

theorem open_any (s:Bs) (w:World):Calls Tryz.prog 85 #[.string ⟨s.toArray⟩] w fun e w'=>e=.returned (.pointer (some ⟨w.heap.size,0,none⟩))∧w'=w.alloc (.cells #[.bool true,.string ⟨s.toArray⟩,.int .i64 0,.int .i64 0] 179):=by
 go_enter Tryz.func85,Tryz.ntmps85
 go_wp2
 go_ret
 exact ⟨rfl,rfl⟩
theorem open_st (s:Bs) (w:World):RdOk (w.alloc (.cells #[.bool true,.string ⟨s.toArray⟩,.int .i64 0,.int .i64 0] 179)) w.heap.size s s:=
 ⟨0,by simp,by simp,Blk.new w _ _⟩

theorem fault_none (b:Nat) (s l:Bs) (w:World) (h:RdOk w b s l):Calls Tryz.prog 127 #[.pointer (some ⟨b,0,none⟩)] w fun e w'=>e=.returned (.pointer none)∧w=w':=by
 obtain ⟨p,hp,hl,h⟩:=h
 obtain ⟨c0,c1,c2,c3⟩:=h.cells
 clear h hl
 go_enter Tryz.func127,Tryz.ntmps127
 go_wp2
 go_ret
 exact ⟨rfl,rfl⟩

theorem fault_some (b:Nat) (s:Bs) (w:World) (h:RdBad w b s):Calls Tryz.prog 127 #[.pointer (some ⟨b,0,none⟩)] w fun e w'=>∃ g,e=.returned (.pointer (some ⟨g,0,none⟩))∧Kp [] w w':=by
 obtain ⟨p,f,hf,hp,h⟩:=h
 obtain ⟨c0,c1,c2,c3⟩:=h.cells
 have hf':(f == 0)=false:=by simpa using hf
 have hl:=h.lt
 clear h hf
 go_enter Tryz.func127,Tryz.ntmps127
 go_wp2
 have sk:=Lib.hid (show ∀ (W:World),Kp [] w W→(W.cell? ⟨b,2,none⟩=some (.int .i64 p)∧W.cell? ⟨b,3,none⟩=some (.int .i64 f)) from fun W k=>⟨k.cell c2 (by simp),k.cell c3 (by simp)⟩)
 go_region_held3 (fun W=>W.cell? ⟨b,2,none⟩=some (.int .i64 p)∧W.cell? ⟨b,3,none⟩=some (.int .i64 f)) (first | exact sk.out _ ((Kp.refl [] w).drew) | exact sk.out _ (((Kp.refl [] w).drew).alloc _)) (fail)
 go_wp2
 go_ret
 exact ⟨_,rfl,((Kp.refl [] w).drew).alloc _⟩

theorem end_ok (b:Nat) (s:Bs) (w:World) (hs:s.length≤140737488351232) (h:RdOk w b s []):Calls Tryz.prog 89 #[.pointer (some ⟨b,0,none⟩)] w fun e w'=>e=.returned .nilIface∧Kp [] w w':=by
 have HO:=Lib.hid h
 obtain ⟨p,hp,hl,h⟩:=h
 obtain ⟨c0,c1,c2,c3⟩:=h.cells
 have H:=Lib.hid h
 clear h hl
 simp only [List.length_nil,Nat.add_zero] at hp
 subst hp
 go_enter Tryz.func89,Tryz.ntmps89
 go_wp2_with (first | (go_at_call 127;refine (fault_none _ _ _ _ HO.out).mono ?_;rintro e w' ⟨rfl,rfl⟩) | (go_at_call 124;refine (rd_left _ _ _ _ _ H.out hs (Nat.le_refl _)).mono ?_;rintro e w' ⟨rfl,nq,rfl⟩))
 go_ret
 exact ⟨rfl,(Kp.refl [] w).drewN _⟩

def EndBad (w:World) (e:Ending) (w':World):Prop:=∃ g,e=.returned (.iface 180 (.pointer (some ⟨g,0,none⟩)))∧Kp [] w w'

theorem end_rest (b:Nat) (s l:Bs) (w:World) (hs:s.length≤140737488351232) (h:RdOk w b s l) (hne:l≠[]):Calls Tryz.prog 89 #[.pointer (some ⟨b,0,none⟩)] w (EndBad w):=by
 have HO:=Lib.hid h
 obtain ⟨p,hp,hl,h⟩:=h
 obtain ⟨c0,c1,c2,c3⟩:=h.cells
 have H:=Lib.hid h
 have hll:1≤l.length:=by cases l;exact absurd rfl hne;simp
 have hp':p≤s.length:=by omega
 clear h hl hne
 go_enter Tryz.func89,Tryz.ntmps89
 go_wp2_with (first | (go_at_call 127;refine (fault_none _ _ _ _ HO.out).mono ?_;rintro e w' ⟨rfl,rfl⟩) | (go_at_call 124;refine (rd_left _ _ _ _ _ H.out hs hp').mono ?_;rintro e w' ⟨rfl,nq,rfl⟩))
 go_ret
 exact ⟨_,rfl,((Kp.refl [] w).drewN _).alloc _⟩

theorem end_bad (b:Nat) (s:Bs) (w:World) (h:RdBad w b s):Calls Tryz.prog 89 #[.pointer (some ⟨b,0,none⟩)] w (EndBad w):=by
 have HO:=Lib.hid h
 obtain ⟨p,f,hf,hp,h⟩:=h
 obtain ⟨c0,c1,c2,c3⟩:=h.cells
 clear h hf
 go_enter Tryz.func89,Tryz.ntmps89
 go_wp2_with (first | (go_at_call 127;refine (fault_some _ _ _ HO.out).mono ?_;rintro e w' ⟨g,rfl,k1⟩))
 go_ret
 exact ⟨_,rfl,k1⟩


theorem rowAt?_sub {w:World} {b o n:Nat} {cs:Array Value} (h:rowAt? w ⟨b,o,none⟩ n=some cs) (i m:Nat) (hm:i+m≤n):rowAt? w ⟨b,o+i,none⟩ m=some (cs.extract i (i+m)):=by
 unfold rowAt? at *
 split at h
 ·rename_i c e f hb
  rw [hb]
  simp only [Option.isSome_none,Bool.false_eq_true,if_false] at h ⊢
  split at h
  ·rename_i hle
   simp only [Option.some.injEq] at h
   subst h
   rw [if_pos (by omega),Array.extract_extract]
   congr 1
   rw [Nat.add_assoc,Nat.min_eq_left (by omega)]
  ·cases h
 ·cases h


abbrev csS (t:Bs):List Value:=[.string ⟨t.toArray⟩]
theorem csS_map (l:List Bs):l.flatMap csS=l.map fun t=>.string ⟨t.toArray⟩:=by
 induction l with
 | nil=>rfl
 | cons x t ih=>simp [List.flatMap_cons,ih]

theorem run_eql_nilsl {P:Program} {w:World} (t e:TypeId) (a:Option Addr) (n c:Nat) (h:P.underlying t=some (.slice e)):(binOp .eql t (.slice a n c) (.slice none 0 0)).run P w=.ok (.bool a.isNone) w:=by
 simp only [binOp,Sem.run_bind,run_equal_slice_nil w t e a n c h,Result.andThen_ok,Sem.run_pure]
@[go_sem] theorem eql_nil_ps (a:Option Addr) (n c:Nat) (w:World):(binOp .eql 46 (.slice a n c) (.slice none 0 0)).run Tryz.prog w=.ok (.bool a.isNone) w:=run_eql_nilsl _ _ a n c Tryz.underlying46
@[go_sem] theorem eql_nil_ss (a:Option Addr) (n c:Nat) (w:World):(binOp .eql 53 (.slice a n c) (.slice none 0 0)).run Tryz.prog w=.ok (.bool a.isNone) w:=run_eql_nilsl _ _ a n c Tryz.underlying53
@[go_sem] theorem eql_nil_ks (a:Option Addr) (n c:Nat) (w:World):(binOp .eql 85 (.slice a n c) (.slice none 0 0)).run Tryz.prog w=.ok (.bool a.isNone) w:=run_eql_nilsl _ _ a n c Tryz.underlying85

end Go.Proofs.YtcaggadjkccbiaaGreat