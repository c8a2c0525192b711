/- The types of this seat. -/
import Derived.Test.YtcaggadjkccbiaaGreatZ12
namespace Go.Proofs.YtcaggadjkccbiaaGreat
set_option linter.unusedVariables false
set_option linter.unusedSimpArgs false
open Go Go.RowKit

def tysL : List (TypeId × Ty):=[
 (1,.fn),
 (2,.int .i64),
 (3,.int .i64),
 (4,.bool),
 (5,.int .u8),
 (6,.int .u8),
 (8,.struct [.v (.int .i64 0),.v (.int .i64 0),.v (.bool false),.v (.int .u8 0)]),
 (9,.str),
 (10,.str),
 (11,.str),
 (12,.int .u64),
 (14,.struct [.v (.string ⟨#[]⟩),.v (.int .u64 0)]),
 (20,.iface),
 (24,.struct [.v (.int .i64 0),.v (.int .i64 0)]),
 (26,.struct [.v (.string ⟨#[]⟩),.v (.string ⟨#[]⟩)]),
 (29,.slice 5),
 (31,.struct [.agg [.v (.int .i64 0),.v (.int .i64 0)],.sl .nil [],.v (.string ⟨#[]⟩),.v (.string ⟨#[]⟩),.v (.string ⟨#[]⟩),.v (.string ⟨#[]⟩),.v (.string ⟨#[]⟩)]),
 (32,.int .i64),
 (36,.dig),
 (42,.struct [.v (.bool false),.v (.string ⟨#[]⟩)]),
 (46,.slice 73),
 (53,.slice 9),
 (54,.slice 3),
 (60,.fn),
 (62,.struct [.v (.string ⟨#[]⟩),.v .nilFunc]),
 (64,.fn),
 (67,.struct [.agg [.v (.bool false),.v (.string ⟨#[]⟩)],.sl .nil [],.sl .nil []]),
 (73,.struct [.v (.string ⟨#[]⟩),.v (.string ⟨#[]⟩)]),
 (74,.fn),
 (77,.ptr),
 (79,.struct [.agg [.v (.int .i64 0),.v (.int .i64 0)],.sl .nil [],.v (.string ⟨#[]⟩),.v (.string ⟨#[]⟩)]),
 (85,.slice 150),
 (87,.struct [.sl .nil [],.sl .nil [],.sl .nil []]),
 (89,.ptr),
 (91,.struct [.agg [.v (.int .i64 0),.v (.int .i64 0)],.v (.string ⟨#[]⟩),.dg Dg.zero,.v (.pointer none),.v (.pointer none),.agg [.v (.bool false),.v (.string ⟨#[]⟩)],.sl .nil []]),
 (97,.iface),
 (101,.struct []),
 (103,.ptr),
 (105,.struct [.agg [.v (.int .i64 0),.v (.int .i64 0)],.sl .nil [],.v (.string ⟨#[]⟩),.v (.string ⟨#[]⟩),.sl .nil []]),
 (122,.ptr),
 (124,.struct [.agg [.v (.int .i64 0),.v (.int .i64 0)],.sl .nil [],.v (.string ⟨#[]⟩),.v (.string ⟨#[]⟩),.sl .nil []]),
 (126,.int .u32),
 (128,.struct [.sl .nil [],.v (.int .u32 0),.dg Dg.zero,.v (.string ⟨#[]⟩),.v (.string ⟨#[]⟩),.v (.bool false),.v (.bool false)]),
 (129,.ptr),
 (131,.struct [.v (.string ⟨#[]⟩),.v (.int .i64 0),.v (.int .i64 0)]),
 (137,.struct []),
 (142,.ptr),
 (145,.fn),
 (150,.struct [.v (.int .u32 0),.dg Dg.zero]),
 (151,.int .u64),
 (157,.struct [.v (.string ⟨#[]⟩),.v (.string ⟨#[]⟩),.v (.bool false),.v (.bool false)]),
 (163,.int .u64),
 (171,.ptr),
 (179,.struct [.v (.bool false),.v (.string ⟨#[]⟩),.v (.int .i64 0),.v (.int .i64 0)]),
 (180,.ptr),
 (183,.struct [.v (.int .i64 0),.v (.int .i64 0)]),
 (191,.fn),
 (195,.fn)]
def tysAt : List (TypeId × Ty) → TypeId → Ty
 | [],_=>.other
 | p :: l,t=>if Nat.beq p.1 t = true then p.2 else tysAt l t
def tys (t : TypeId) : Ty:=tysAt tysL t

theorem tysAt_mem : ∀ (l : List (TypeId × Ty)) (t : TypeId),tysAt l t ≠ .other → (t,tysAt l t) ∈ l
 | [],_,h=>absurd rfl h
 | p :: l,t,h=>by
  unfold tysAt at h ⊢
  split
  ·rename_i e;have : p.1 = t:=Nat.eq_of_beq_eq_true e;subst this;exact List.mem_cons_self
  ·rename_i e;rw [if_neg e] at h;exact List.mem_cons_of_mem _ (tysAt_mem l t h)

@[go_sem] theorem tys_1 : tys 1 = .fn:=by kernel_rfl
@[go_sem] theorem tys_2 : tys 2 = .int .i64:=by kernel_rfl
@[go_sem] theorem tys_3 : tys 3 = .int .i64:=by kernel_rfl
@[go_sem] theorem tys_4 : tys 4 = .bool:=by kernel_rfl
@[go_sem] theorem tys_5 : tys 5 = .int .u8:=by kernel_rfl
@[go_sem] theorem tys_6 : tys 6 = .int .u8:=by kernel_rfl
@[go_sem] theorem tys_8 : tys 8 = .struct [.v (.int .i64 0),.v (.int .i64 0),.v (.bool false),.v (.int .u8 0)]:=by kernel_rfl
@[go_sem] theorem tys_9 : tys 9 = .str:=by kernel_rfl
@[go_sem] theorem tys_10 : tys 10 = .str:=by kernel_rfl
@[go_sem] theorem tys_11 : tys 11 = .str:=by kernel_rfl
@[go_sem] theorem tys_12 : tys 12 = .int .u64:=by kernel_rfl
@[go_sem] theorem tys_14 : tys 14 = .struct [.v (.string ⟨#[]⟩),.v (.int .u64 0)]:=by kernel_rfl
@[go_sem] theorem tys_20 : tys 20 = .iface:=by kernel_rfl
@[go_sem] theorem tys_24 : tys 24 = .struct [.v (.int .i64 0),.v (.int .i64 0)]:=by kernel_rfl
@[go_sem] theorem tys_26 : tys 26 = .struct [.v (.string ⟨#[]⟩),.v (.string ⟨#[]⟩)]:=by kernel_rfl
@[go_sem] theorem tys_29 : tys 29 = .slice 5:=by kernel_rfl
@[go_sem] theorem tys_31 : tys 31 = .struct [.agg [.v (.int .i64 0),.v (.int .i64 0)],.sl .nil [],.v (.string ⟨#[]⟩),.v (.string ⟨#[]⟩),.v (.string ⟨#[]⟩),.v (.string ⟨#[]⟩),.v (.string ⟨#[]⟩)]:=by kernel_rfl
@[go_sem] theorem tys_32 : tys 32 = .int .i64:=by kernel_rfl
@[go_sem] theorem tys_36 : tys 36 = .dig:=by kernel_rfl
@[go_sem] theorem tys_42 : tys 42 = .struct [.v (.bool false),.v (.string ⟨#[]⟩)]:=by kernel_rfl
@[go_sem] theorem tys_46 : tys 46 = .slice 73:=by kernel_rfl
@[go_sem] theorem tys_53 : tys 53 = .slice 9:=by kernel_rfl
@[go_sem] theorem tys_54 : tys 54 = .slice 3:=by kernel_rfl
@[go_sem] theorem tys_60 : tys 60 = .fn:=by kernel_rfl
@[go_sem] theorem tys_62 : tys 62 = .struct [.v (.string ⟨#[]⟩),.v .nilFunc]:=by kernel_rfl
@[go_sem] theorem tys_64 : tys 64 = .fn:=by kernel_rfl
@[go_sem] theorem tys_67 : tys 67 = .struct [.agg [.v (.bool false),.v (.string ⟨#[]⟩)],.sl .nil [],.sl .nil []]:=by kernel_rfl
@[go_sem] theorem tys_73 : tys 73 = .struct [.v (.string ⟨#[]⟩),.v (.string ⟨#[]⟩)]:=by kernel_rfl
@[go_sem] theorem tys_74 : tys 74 = .fn:=by kernel_rfl
@[go_sem] theorem tys_77 : tys 77 = .ptr:=by kernel_rfl
@[go_sem] theorem tys_79 : tys 79 = .struct [.agg [.v (.int .i64 0),.v (.int .i64 0)],.sl .nil [],.v (.string ⟨#[]⟩),.v (.string ⟨#[]⟩)]:=by kernel_rfl
@[go_sem] theorem tys_85 : tys 85 = .slice 150:=by kernel_rfl
@[go_sem] theorem tys_87 : tys 87 = .struct [.sl .nil [],.sl .nil [],.sl .nil []]:=by kernel_rfl
@[go_sem] theorem tys_89 : tys 89 = .ptr:=by kernel_rfl
@[go_sem] theorem tys_91 : tys 91 = .struct [.agg [.v (.int .i64 0),.v (.int .i64 0)],.v (.string ⟨#[]⟩),.dg Dg.zero,.v (.pointer none),.v (.pointer none),.agg [.v (.bool false),.v (.string ⟨#[]⟩)],.sl .nil []]:=by kernel_rfl
@[go_sem] theorem tys_97 : tys 97 = .iface:=by kernel_rfl
@[go_sem] theorem tys_101 : tys 101 = .struct []:=by kernel_rfl
@[go_sem] theorem tys_103 : tys 103 = .ptr:=by kernel_rfl
@[go_sem] theorem tys_105 : tys 105 = .struct [.agg [.v (.int .i64 0),.v (.int .i64 0)],.sl .nil [],.v (.string ⟨#[]⟩),.v (.string ⟨#[]⟩),.sl .nil []]:=by kernel_rfl
@[go_sem] theorem tys_122 : tys 122 = .ptr:=by kernel_rfl
@[go_sem] theorem tys_124 : tys 124 = .struct [.agg [.v (.int .i64 0),.v (.int .i64 0)],.sl .nil [],.v (.string ⟨#[]⟩),.v (.string ⟨#[]⟩),.sl .nil []]:=by kernel_rfl
@[go_sem] theorem tys_126 : tys 126 = .int .u32:=by kernel_rfl
@[go_sem] theorem tys_128 : tys 128 = .struct [.sl .nil [],.v (.int .u32 0),.dg Dg.zero,.v (.string ⟨#[]⟩),.v (.string ⟨#[]⟩),.v (.bool false),.v (.bool false)]:=by kernel_rfl
@[go_sem] theorem tys_129 : tys 129 = .ptr:=by kernel_rfl
@[go_sem] theorem tys_131 : tys 131 = .struct [.v (.string ⟨#[]⟩),.v (.int .i64 0),.v (.int .i64 0)]:=by kernel_rfl
@[go_sem] theorem tys_137 : tys 137 = .struct []:=by kernel_rfl
@[go_sem] theorem tys_142 : tys 142 = .ptr:=by kernel_rfl
@[go_sem] theorem tys_145 : tys 145 = .fn:=by kernel_rfl
@[go_sem] theorem tys_150 : tys 150 = .struct [.v (.int .u32 0),.dg Dg.zero]:=by kernel_rfl
@[go_sem] theorem tys_151 : tys 151 = .int .u64:=by kernel_rfl
@[go_sem] theorem tys_157 : tys 157 = .struct [.v (.string ⟨#[]⟩),.v (.string ⟨#[]⟩),.v (.bool false),.v (.bool false)]:=by kernel_rfl
@[go_sem] theorem tys_163 : tys 163 = .int .u64:=by kernel_rfl
@[go_sem] theorem tys_171 : tys 171 = .ptr:=by kernel_rfl
@[go_sem] theorem tys_179 : tys 179 = .struct [.v (.bool false),.v (.string ⟨#[]⟩),.v (.int .i64 0),.v (.int .i64 0)]:=by kernel_rfl
@[go_sem] theorem tys_180 : tys 180 = .ptr:=by kernel_rfl
@[go_sem] theorem tys_183 : tys 183 = .struct [.v (.int .i64 0),.v (.int .i64 0)]:=by kernel_rfl
@[go_sem] theorem tys_191 : tys 191 = .fn:=by kernel_rfl
@[go_sem] theorem tys_195 : tys 195 = .fn:=by kernel_rfl

theorem tk {t : TypeId} {ty : Ty} {d : TypeDesc} {l : List (TypeId × Ty)} (hu : Tryz.prog.underlying t = some d) (hd : ty.isDesc Tryz.prog d) (k : ∀ p ∈ l,TyOk Tryz.prog p.1 p.2) (h1 : zlike ty.zero = true:=by kernel_rfl) (h2 : (Tryz.prog.info? t).map (fun i=>(i.size,i.zero)) = some (ty.zero.size,some (ofCells ty.zero.isAgg (zcells ty.zero))):=by kernel_rfl) : ∀ p ∈ (t,ty) :: l,TyOk Tryz.prog p.1 p.2:=List.forall_mem_cons.2 ⟨tyOk_mk hu hd h1 h2,k⟩

set_option maxRecDepth 100000 in
theorem tysL_ok : ∀ p ∈ tysL,TyOk Tryz.prog p.1 p.2:=by
 unfold tysL
 refine tk Tryz.underlying1 (⟨_,_,_,rfl⟩) ?_
 refine tk Tryz.underlying2 (rfl) ?_
 refine tk Tryz.underlying3 (rfl) ?_
 refine tk Tryz.underlying4 (rfl) ?_
 refine tk Tryz.underlying5 (rfl) ?_
 refine tk Tryz.underlying6 (rfl) ?_
 refine tk Tryz.underlying8 (isDesc_struct (by kernel_rfl)) ?_
 refine tk Tryz.underlying9 (rfl) ?_
 refine tk Tryz.underlying10 (rfl) ?_
 refine tk Tryz.underlying11 (rfl) ?_
 refine tk Tryz.underlying12 (rfl) ?_
 refine tk Tryz.underlying14 (isDesc_struct (by kernel_rfl)) ?_
 refine tk Tryz.underlying20 (⟨_,rfl⟩) ?_
 refine tk Tryz.underlying24 (isDesc_struct (by kernel_rfl)) ?_
 refine tk Tryz.underlying26 (isDesc_struct (by kernel_rfl)) ?_
 refine tk Tryz.underlying29 (rfl) ?_
 refine tk Tryz.underlying31 (isDesc_struct (by kernel_rfl)) ?_
 refine tk Tryz.underlying32 (rfl) ?_
 refine tk Tryz.underlying36 (isDesc_dig Tryz.underlying5 (by kernel_rfl)) ?_
 refine tk Tryz.underlying42 (isDesc_struct (by kernel_rfl)) ?_
 refine tk Tryz.underlying46 (rfl) ?_
 refine tk Tryz.underlying53 (rfl) ?_
 refine tk Tryz.underlying54 (rfl) ?_
 refine tk Tryz.underlying60 (⟨_,_,_,rfl⟩) ?_
 refine tk Tryz.underlying62 (isDesc_struct (by kernel_rfl)) ?_
 refine tk Tryz.underlying64 (⟨_,_,_,rfl⟩) ?_
 refine tk Tryz.underlying67 (isDesc_struct (by kernel_rfl)) ?_
 refine tk Tryz.underlying73 (isDesc_struct (by kernel_rfl)) ?_
 refine tk Tryz.underlying74 (⟨_,_,_,rfl⟩) ?_
 refine tk Tryz.underlying77 (⟨_,rfl⟩) ?_
 refine tk Tryz.underlying79 (isDesc_struct (by kernel_rfl)) ?_
 refine tk Tryz.underlying85 (rfl) ?_
 refine tk Tryz.underlying87 (isDesc_struct (by kernel_rfl)) ?_
 refine tk Tryz.underlying89 (⟨_,rfl⟩) ?_
 refine tk Tryz.underlying91 (isDesc_struct (by kernel_rfl)) ?_
 refine tk Tryz.underlying97 (⟨_,rfl⟩) ?_
 refine tk Tryz.underlying101 (isDesc_struct (by kernel_rfl)) ?_
 refine tk Tryz.underlying103 (⟨_,rfl⟩) ?_
 refine tk Tryz.underlying105 (isDesc_struct (by kernel_rfl)) ?_
 refine tk Tryz.underlying122 (⟨_,rfl⟩) ?_
 refine tk Tryz.underlying124 (isDesc_struct (by kernel_rfl)) ?_
 refine tk Tryz.underlying126 (rfl) ?_
 refine tk Tryz.underlying128 (isDesc_struct (by kernel_rfl)) ?_
 refine tk Tryz.underlying129 (⟨_,rfl⟩) ?_
 refine tk Tryz.underlying131 (isDesc_struct (by kernel_rfl)) ?_
 refine tk Tryz.underlying137 (isDesc_struct (by kernel_rfl)) ?_
 refine tk Tryz.underlying142 (⟨_,rfl⟩) ?_
 refine tk Tryz.underlying145 (⟨_,_,_,rfl⟩) ?_
 refine tk Tryz.underlying150 (isDesc_struct (by kernel_rfl)) ?_
 refine tk Tryz.underlying151 (rfl) ?_
 refine tk Tryz.underlying157 (isDesc_struct (by kernel_rfl)) ?_
 refine tk Tryz.underlying163 (rfl) ?_
 refine tk Tryz.underlying171 (⟨_,rfl⟩) ?_
 refine tk Tryz.underlying179 (isDesc_struct (by kernel_rfl)) ?_
 refine tk Tryz.underlying180 (⟨_,rfl⟩) ?_
 refine tk Tryz.underlying183 (isDesc_struct (by kernel_rfl)) ?_
 refine tk Tryz.underlying191 (⟨_,_,_,rfl⟩) ?_
 refine tk Tryz.underlying195 (⟨_,_,_,rfl⟩) ?_
 exact fun p h=>(by cases h)

theorem tys_ok : TysOk Tryz.prog tys:=fun t ht=>tysL_ok _ (tysAt_mem tysL t ht)

theorem tysL_dig : ∀ p ∈ tysL,p.2 = .dig → Tryz.prog.eqGuardType Tryz.prog.depth p.1 = false:=by
 have h : (tysL.all fun p=>(match p.2 with | .dig=>!(Tryz.prog.eqGuardType Tryz.prog.depth p.1) | _=>true)) = true:=by kernel_rfl
 intro p hp hd
 have:=List.all_eq_true.1 h p hp
 rw [hd] at this
 simpa using this

theorem cmp_ok : ∀ t ks,cmpTys t = some ks → CmpOk Tryz.prog t ks:=by
 intro t ks h
 unfold cmpTys at h
 split at h <;> first | (cases h;done) | skip
 ·simp only [Option.some.injEq] at h;subst h;exact ⟨by kernel_rfl,by kernel_rfl,by kernel_rfl,by kernel_rfl⟩
 ·simp only [Option.some.injEq] at h;subst h;exact ⟨by kernel_rfl,by kernel_rfl,by kernel_rfl,by kernel_rfl⟩
 ·simp only [Option.some.injEq] at h;subst h;exact ⟨by kernel_rfl,by kernel_rfl,by kernel_rfl,by kernel_rfl⟩
 ·simp only [Option.some.injEq] at h;subst h;exact ⟨by kernel_rfl,by kernel_rfl,by kernel_rfl,by kernel_rfl⟩
 ·simp only [Option.some.injEq] at h;subst h;exact ⟨by kernel_rfl,by kernel_rfl,by kernel_rfl,by kernel_rfl⟩
 ·simp only [Option.some.injEq] at h;subst h;exact ⟨by kernel_rfl,by kernel_rfl,by kernel_rfl,by kernel_rfl⟩
 ·simp only [Option.some.injEq] at h;subst h;exact ⟨by kernel_rfl,by kernel_rfl,by kernel_rfl,by kernel_rfl⟩
 ·simp only [Option.some.injEq] at h;subst h;exact ⟨by kernel_rfl,by kernel_rfl,by kernel_rfl,by kernel_rfl⟩
 ·simp only [Option.some.injEq] at h;subst h;exact ⟨by kernel_rfl,by kernel_rfl,by kernel_rfl,by kernel_rfl⟩

theorem prg : Prg Tryz.prog tys:=⟨tys_ok,fun t ht=>tysL_dig (t,tys t) (tysAt_mem tysL t (fun h=>nomatch ht.symm.trans h)) ht,by kernel_rfl,cmp_ok⟩

end Go.Proofs.YtcaggadjkccbiaaGreat