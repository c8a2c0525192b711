/- Digests are cut; they fit a width. -/
import Derived.Test.YtgjaaffheanobaaGreatZ4
import Derived.Test.YtgjaaffheanobaaGreatZ6
import Derived.Laws.ResultCell
namespace Go.Proofs.YtgjaaffheanobaaGreat
set_option maxHeartbeats 1000000
set_option maxRecDepth 100000
set_option linter.unusedVariables false
set_option linter.unusedSimpArgs false
open Go Go.RowKit

theorem dg_ret2 {fn:Func} {R:Ending→World→Prop} {a:Act} {w:World} {p u:Tmp} {g:Nat} {d:Dg} {v:Value} (hr:fn.results=#[.cell p 26,.tmp u]) (hp:a.tmps.getD p undef=.pointer (some ⟨g,0,none⟩)) (hv:a.tmps.getD u undef=v) (hg:rowAt? w ⟨g,0,none⟩ 32=some d.c) (hd:a.defers=[]) (hR:R (.returned (.tuple #[.agg d.c,v])) w) :
  bodyPost Tryz.prog fn R .ret a w:=by
 refine bodyPost_ret (v:=.tuple #[.agg d.c,v]) ?_ hd hR
 rw [results_cell_tmp hr,hp,hv]
 have h1:=run_loadVar_big Tryz.prog 26 32 _ Tryz.underlying26 rfl (by kernel_rfl) ⟨g,0,none⟩ w
 rw [hg] at h1
 simp [asAddr,h1,Result.andThen]

def Dg.cut (n:Nat) (d:Dg):Dg:=Dg.pad (d.l.take n)

theorem cut_bad (n:Int) (d:Dg) (w:World) (h:¬ (1≤n∧n≤32)):Calls Tryz.prog 71 #[.int .i64 n,.agg d.c] w (Rets (.tuple #[.agg Dg.zero.c,.int .i64 2]) w):=by
 have hb:decide (1≤n∧n≤32)=false:=decide_eq_false h
 clear h
 go_enter Tryz.func71,Tryz.ntmps71
 go_wp2_with (go_at_call 81;refine (wide_any _ _).mono ?_;rintro e w' ⟨rfl,rfl⟩)
 refine dg_ret2 rfl rfl rfl (d:=Dg.zero) ?_ rfl ?_
 ·simp [go_sem]
 ·exact ⟨rfl,by (try simp only [alloc_ext,drew_ext,drewN_ext,ext_ext]);exact ⟨_,_,rfl⟩⟩

@[go_sem] theorem extract_take (d:Dg) (n:Nat):d.c.extract 0 n=(bC (d.l.take n)).toArray:=by
 apply Array.ext'
 simp [Dg.c,bC,List.extract_eq_take_drop]
@[go_sem] theorem take32 (d:Dg):d.l.take 32=d.l:=List.take_of_length_le (by rw [d.h];omega)
@[go_sem] theorem bC_l (d:Dg):(bC d.l).toArray=d.c:=rfl
@[go_sem] theorem okCells_bC (l:Bs):okCells (bC l).toArray=true:=okCells_of (by simpa using bC_one l)
@[go_sem] theorem spl_cut (d:Dg) (n:Nat) (h:n≤32):spl Dg.zero.c 0 (bC (d.l.take n)).toArray=(Dg.cut n d).c:=by
 have:=spl_pad (d.l.take n)
 rw [List.take_of_length_le (by simp;omega)] at this
 exact this

theorem cut_any (n:Nat) (d:Dg) (w:World) (h1:1≤n) (h2:n≤32):Calls Tryz.prog 71 #[.int .i64 n,.agg d.c] w (Rets (.tuple #[.agg (Dg.cut n d).c,.int .i64 0]) w):=by
 have hb:decide ((1:Int)≤n∧(n:Int)≤32)=true:=decide_eq_true (by omega)
 go_enter Tryz.func71,Tryz.ntmps71
 go_wp2_with (go_at_call 81;refine (wide_any _ _).mono ?_;rintro e w' ⟨rfl,rfl⟩)
 go_region_held3 (fun _=>True) (trivial) (fail)
 go_wp2
 refine dg_ret2 rfl rfl rfl (d:=Dg.cut n d) ?_ rfl ?_
 ·simp [go_sem]
 ·exact ⟨rfl,by (try simp only [alloc_ext,drew_ext,drewN_ext,ext_ext]);exact ⟨_,_,rfl⟩⟩


def fitB (n:Int) (d:Dg):Bool:=decide (1≤n∧n≤32) && decide (Dg.cut n.toNat d=d)

theorem fits_any (n:Int) (d:Dg) (w:World):Calls Tryz.prog 34 #[.int .i64 n,.agg d.c] w (Rets (.bool (fitB n d)) w):=by
 by_cases h:1≤n∧n≤32
 ·obtain ⟨m,rfl⟩:=Int.eq_ofNat_of_zero_le (show 0≤n by omega)
  have hf:Hid (fitB m d=decide (Dg.cut m d=d)):=by show _=_;unfold fitB;rw [decide_eq_true h];rfl
  obtain ⟨h1,h2⟩:=h
  have h1':1≤m:=by omega
  have h2':m≤32:=by omega
  go_enter Tryz.func34,Tryz.ntmps34
  go_wp2_with (go_at_call 71;refine (cut_any _ _ _ h1' h2').mono ?_;rintro e w' ⟨rfl,bs,nn,rfl⟩)
  go_ret
  rw [hf.out]
  exact ⟨rfl,by (try simp only [alloc_ext,drew_ext,drewN_ext,ext_ext]);exact ⟨_,_,rfl⟩⟩
 ·have hf:Hid (fitB n d=false):=by show _=_;unfold fitB;rw [decide_eq_false h];rfl
  have H:=Lib.hid h;clear h
  go_enter Tryz.func34,Tryz.ntmps34
  go_wp2_with (go_at_call 71;refine (cut_bad _ _ _ H.out).mono ?_;rintro e w' ⟨rfl,bs,nn,rfl⟩)
  go_ret
  rw [hf.out]
  exact ⟨rfl,by (try simp only [alloc_ext,drew_ext,drewN_ext,ext_ext]);exact ⟨_,_,rfl⟩⟩

/-! The frame. -/
def IndexPost (xs : List Int) (v : Int) (w : World) (e : Ending) (w' : World) : Prop := (∃ r : Int, e = .returned (.int .i64 r) ∧ (0 ≤ r ↔ v ∈ xs)) ∧ w = w'

theorem index_any (b:Nat) (xs:List Int) (v:Int) (w:World) (hl:xs.length≤1000) (hc:∀ i x,xs[i]?=some x→w.cell? ⟨b,i,none⟩=some (.int .i64 x)) :
  Calls Tryz.prog 93 #[.slice (some ⟨b,0,none⟩) xs.length xs.length,.int .i64 v] w (IndexPost xs v w):=by
 have HC:=Lib.hid hc;clear hc
 go_enter Tryz.func93,Tryz.ntmps93
 go_wp2
 go_loop [5,8] (fun _ i=>∃ k:Nat,k≤xs.length∧i=.int .i64 k∧Hid (v ∉ xs.take k)) (fun _ i=>xs.length - (intOf i).toNat)
 case atStart=>exact ⟨0,by omega,rfl,by simp [Hid]⟩
 case round=>
  obtain ⟨k,hk,rfl,HN⟩:=hrel
  by_cases hlt:k<xs.length
  ·obtain ⟨x,hx⟩:∃ x,xs[k]?=some x:=⟨_,List.getElem?_eq_getElem hlt⟩
   have hc:=HC.out k x hx
   have HX:=Lib.hid hx;clear hx
   by_cases he:v=x
   ·have hb:(v == x)=true:=by simpa using he
    have HE:=Lib.hid he;clear he
    go_wp2
    go_ret
    exact ⟨⟨k,rfl,⟨fun _=>by rw [HE.out];exact List.mem_of_getElem? HX.out,fun _=>by omega⟩⟩,rfl⟩
   ·have hb:(v == x)=false:=by simpa using he
    have HE:=Lib.hid he;clear he
    go_wp2
    go_round
    case rel=>exact ⟨k+1,by omega,by go_num,by show ¬ _;rw [List.take_add_one,HX.out];simp;exact ⟨HN.out,HE.out⟩⟩
    case measure=>simp [intOf];omega
  ·go_wp2
   go_ret
   exact ⟨⟨-1,rfl,⟨fun h=>absurd h (by omega),fun h=>absurd h (by have:=HN.out;rwa [List.take_of_length_le (by omega)] at this)⟩⟩,rfl⟩

def memB (v:Int) (xs:List Int):Bool:=decide (v∈xs)

theorem contains_any (b:Nat) (xs:List Int) (v:Int) (w:World) (hl:xs.length≤1000) (hc:∀ i x,xs[i]?=some x→w.cell? ⟨b,i,none⟩=some (.int .i64 x)) :
  Calls Tryz.prog 70 #[.slice (some ⟨b,0,none⟩) xs.length xs.length,.int .i64 v] w fun e w'=>e=.returned (.bool (memB v xs))∧w=w':=by
 have HC:=Lib.hid hc;clear hc
 go_enter Tryz.func70,Tryz.ntmps70
 go_wp2_with fail
 refine (index_any _ _ _ _ hl HC.out).mono ?_
 rintro e w' ⟨⟨r,rfl,hr⟩,rfl⟩
 have HR:=Lib.hid hr;clear hr
 go_wp2_with fail
 go_ret
 exact ⟨ret_bool (by have:=HR.out;rw [Bool.eq_iff_iff];simpa [memB] using this),rfl⟩

def rightB (p wd:Int):Bool:=(decide (p=1024) || decide (p=2048) || decide (p=4096) || decide (p=8192)) && decide (1≤wd) && decide (wd≤32)
theorem rightB_iff {p wd:Int}:rightB p wd=true ↔ (p=1024∨p=2048∨p=4096∨p=8192)∧1≤wd∧wd≤32:=by
 simp [rightB,and_assoc,or_assoc]

theorem right_any (p wd:Int) (w:World):Calls Tryz.prog 33 #[.agg #[.int .i64 p,.int .i64 wd]] w (Rets (.bool (rightB p wd)) w):=by
 obtain ⟨m,hm⟩:∃ m,memB p [1024,2048,4096,8192]=m:=⟨_,rfl⟩
 have hr:rightB p wd=(m && decide (1≤wd) && decide (wd≤32)):=by
  rw [← hm,Bool.eq_iff_iff,rightB_iff];simp [memB,and_assoc]
 have HM:=Lib.hid hm;have HR:=Lib.hid hr;clear hm hr
 have hl:([1024,2048,4096,8192]:List Int).length≤1000:=by decide
 cases m
 ·go_enter Tryz.func33,Tryz.ntmps33
  go_wp2_with fail
  refine (contains_any _ [1024,2048,4096,8192] _ _ hl (by intro i x hx;match i,hx with | 0,hx=>(simp at hx;subst hx;simp [go_sem]) | 1,hx=>(simp at hx;subst hx;simp [go_sem]) | 2,hx=>(simp at hx;subst hx;simp [go_sem]) | 3,hx=>(simp at hx;subst hx;simp [go_sem]) | i+4,hx=>simp at hx)).mono ?_
  rintro e w' ⟨rfl,rfl⟩
  rw [HM.out]
  go_wp2_with fail
  go_ret
  rw [HR.out]
  exact ⟨rfl,by (try simp only [alloc_ext,drew_ext,drewN_ext,ext_ext]);exact ⟨_,_,rfl⟩⟩
 ·go_enter Tryz.func33,Tryz.ntmps33
  go_wp2_with fail
  refine (contains_any _ [1024,2048,4096,8192] _ _ hl (by intro i x hx;match i,hx with | 0,hx=>(simp at hx;subst hx;simp [go_sem]) | 1,hx=>(simp at hx;subst hx;simp [go_sem]) | 2,hx=>(simp at hx;subst hx;simp [go_sem]) | 3,hx=>(simp at hx;subst hx;simp [go_sem]) | i+4,hx=>simp at hx)).mono ?_
  rintro e w' ⟨rfl,rfl⟩
  rw [HM.out]
  go_wp2_with fail
  all_goals
   go_ret
   rw [HR.out]
   exact ⟨ret_bool (by rw [Bool.eq_iff_iff];simp;omega),(by (try simp only [alloc_ext,drew_ext,drewN_ext,ext_ext]);exact ⟨_,_,rfl⟩)⟩

end Go.Proofs.YtgjaaffheanobaaGreat