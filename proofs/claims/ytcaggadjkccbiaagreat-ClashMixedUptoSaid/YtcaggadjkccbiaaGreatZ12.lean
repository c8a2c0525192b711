/- The types of this seat. -/
import Derived.Test.YtcaggadjkccbiaaGreatZ7
import Derived.Test.YtcaggadjkccbiaaGreatZ8
import Derived.Test.YtcaggadjkccbiaaGreatZ11
namespace Go.Proofs.YtcaggadjkccbiaaGreat
set_option linter.unusedVariables false
set_option linter.unusedSimpArgs false
open Go Go.RowKit

def tysL:List (TypeId×Ty):=[
 (1,.fn),
 (2,.int .i64),
 (3,.int .i64),
 (4,.bool),
 (5,.int .u8),
 (6,.int .u8),
 (8,.struct [.v (.int .i64 0),.v (.int .i64 0),.v (.bool false),.v (.int .u8 0)]),
 (9,.str),
 (10,.str),
 (11,.str),
 (12,.int .u64),
 (14,.struct [.v (.string ⟨#[]⟩),.v (.int .u64 0)]),
 (20,.iface),
 (24,.struct [.v (.int .i64 0),.v (.int .i64 0)]),
 (26,.struct [.v (.string ⟨#[]⟩),.v (.string ⟨#[]⟩)]),
 (29,.slice 5),
 (31,.struct [.agg [.v (.int .i64 0),.v (.int .i64 0)],.sl .nil [],.v (.string ⟨#[]⟩),.v (.string ⟨#[]⟩),.v (.string ⟨#[]⟩),.v (.string ⟨#[]⟩),.v (.string ⟨#[]⟩)]),
 (32,.int .i64),
 (36,.dig),
 (42,.struct [.v (.bool false),.v (.string ⟨#[]⟩)]),
 (46,.slice 73),
 (53,.slice 9),
 (54,.slice 3),
 (60,.fn),
 (62,.struct [.v (.string ⟨#[]⟩),.v .nilFunc]),
 (64,.fn),
 (67,.struct [.agg [.v (.bool false),.v (.string ⟨#[]⟩)],.sl .nil [],.sl .nil []]),
 (73,.struct [.v (.string ⟨#[]⟩),.v (.string ⟨#[]⟩)]),
 (74,.fn),
 (77,.ptr),
 (79,.struct [.agg [.v (.int .i64 0),.v (.int .i64 0)],.sl .nil [],.v (.string ⟨#[]⟩),.v (.string ⟨#[]⟩)]),
 (85,.slice 150),
 (87,.struct [.sl .nil [],.sl .nil [],.sl .nil []]),
 (89,.ptr),
 (91,.struct [.agg [.v (.int .i64 0),.v (.int .i64 0)],.v (.string ⟨#[]⟩),.dg Dg.zero,.v (.pointer none),.v (.pointer none),.agg [.v (.bool false),.v (.string ⟨#[]⟩)],.sl .nil []]),
 (97,.iface),
 (101,.struct []),
 (103,.ptr),
 (105,.struct [.agg [.v (.int .i64 0),.v (.int .i64 0)],.sl .nil [],.v (.string ⟨#[]⟩),.v (.string ⟨#[]⟩),.sl .nil []]),
 (122,.ptr),
 (124,.struct [.agg [.v (.int .i64 0),.v (.int .i64 0)],.sl .nil [],.v (.string ⟨#[]⟩),.v (.string ⟨#[]⟩),.sl .nil []]),
 (126,.int .u32),
 (128,.struct [.sl .nil [],.v (.int .u32 0),.dg Dg.zero,.v (.string ⟨#[]⟩),.v (.string ⟨#[]⟩),.v (.bool false),.v (.bool false)]),
 (129,.ptr),
 (131,.struct [.v (.string ⟨#[]⟩),.v (.int .i64 0),.v (.int .i64 0)]),
 (137,.struct []),
 (142,.ptr),
 (145,.fn),
 (150,.struct [.v (.int .u32 0),.dg Dg.zero]),
 (151,.int .u64),
 (157,.struct [.v (.string ⟨#[]⟩),.v (.string ⟨#[]⟩),.v (.bool false),.v (.bool false)]),
 (163,.int .u64),
 (171,.ptr),
 (179,.struct [.v (.bool false),.v (.string ⟨#[]⟩),.v (.int .i64 0),.v (.int .i64 0)]),
 (180,.ptr),
 (183,.struct [.v (.int .i64 0),.v (.int .i64 0)]),
 (191,.fn),
 (195,.fn)]
def tysAt:List (TypeId×Ty)→TypeId→Ty
 | [],_=>.other
 | p::l,t=>if Nat.beq p.1 t=true then p.2 else tysAt l t
def tys (t:TypeId):Ty:=tysAt tysL t

theorem tysAt_mem:∀ (l:List (TypeId×Ty)) (t:TypeId),tysAt l t≠.other→(t,tysAt l t)∈l
 | [],_,h=>absurd rfl h
 | p::l,t,h=>by
  unfold tysAt at h ⊢
  split
  ·rename_i e;have:p.1=t:=Nat.eq_of_beq_eq_true e;subst this;exact List.mem_cons_self
  ·rename_i e;rw [if_neg e] at h;exact List.mem_cons_of_mem _ (tysAt_mem l t h)

@[go_sem] theorem tys_1:tys 1=.fn:=by kernel_rfl
@[go_sem] theorem tys_2:tys 2=.int .i64:=by kernel_rfl
@[go_sem] theorem tys_3:tys 3=.int .i64:=by kernel_rfl
@[go_sem] theorem tys_4:tys 4=.bool:=by kernel_rfl
@[go_sem] theorem tys_5:tys 5=.int .u8:=by kernel_rfl
@[go_sem] theorem tys_6:tys 6=.int .u8:=by kernel_rfl
@[go_sem] theorem tys_8:tys 8=.struct [.v (.int .i64 0),.v (.int .i64 0),.v (.bool false),.v (.int .u8 0)]:=by kernel_rfl
@[go_sem] theorem tys_9:tys 9=.str:=by kernel_rfl
@[go_sem] theorem tys_10:tys 10=.str:=by kernel_rfl
@[go_sem] theorem tys_11:tys 11=.str:=by kernel_rfl
@[go_sem] theorem tys_12:tys 12=.int .u64:=by kernel_rfl
@[go_sem] theorem tys_14:tys 14=.struct [.v (.string ⟨#[]⟩),.v (.int .u64 0)]:=by kernel_rfl
@[go_sem] theorem tys_20:tys 20=.iface:=by kernel_rfl
@[go_sem] theorem tys_24:tys 24=.struct [.v (.int .i64 0),.v (.int .i64 0)]:=by kernel_rfl
@[go_sem] theorem tys_26:tys 26=.struct [.v (.string ⟨#[]⟩),.v (.string ⟨#[]⟩)]:=by kernel_rfl
@[go_sem] theorem tys_29:tys 29=.slice 5:=by kernel_rfl
@[go_sem] theorem tys_31:tys 31=.struct [.agg [.v (.int .i64 0),.v (.int .i64 0)],.sl .nil [],.v (.string ⟨#[]⟩),.v (.string ⟨#[]⟩),.v (.string ⟨#[]⟩),.v (.string ⟨#[]⟩),.v (.string ⟨#[]⟩)]:=by kernel_rfl
@[go_sem] theorem tys_32:tys 32=.int .i64:=by kernel_rfl
@[go_sem] theorem tys_36:tys 36=.dig:=by kernel_rfl
@[go_sem] theorem tys_42:tys 42=.struct [.v (.bool false),.v (.string ⟨#[]⟩)]:=by kernel_rfl
@[go_sem] theorem tys_46:tys 46=.slice 73:=by kernel_rfl
@[go_sem] theorem tys_53:tys 53=.slice 9:=by kernel_rfl
@[go_sem] theorem tys_54:tys 54=.slice 3:=by kernel_rfl
@[go_sem] theorem tys_60:tys 60=.fn:=by kernel_rfl
@[go_sem] theorem tys_62:tys 62=.struct [.v (.string ⟨#[]⟩),.v .nilFunc]:=by kernel_rfl
@[go_sem] theorem tys_64:tys 64=.fn:=by kernel_rfl
@[go_sem] theorem tys_67:tys 67=.struct [.agg [.v (.bool false),.v (.string ⟨#[]⟩)],.sl .nil [],.sl .nil []]:=by kernel_rfl
@[go_sem] theorem tys_73:tys 73=.struct [.v (.string ⟨#[]⟩),.v (.string ⟨#[]⟩)]:=by kernel_rfl
@[go_sem] theorem tys_74:tys 74=.fn:=by kernel_rfl
@[go_sem] theorem tys_77:tys 77=.ptr:=by kernel_rfl
@[go_sem] theorem tys_79:tys 79=.struct [.agg [.v (.int .i64 0),.v (.int .i64 0)],.sl .nil [],.v (.string ⟨#[]⟩),.v (.string ⟨#[]⟩)]:=by kernel_rfl
@[go_sem] theorem tys_85:tys 85=.slice 150:=by kernel_rfl
@[go_sem] theorem tys_87:tys 87=.struct [.sl .nil [],.sl .nil [],.sl .nil []]:=by kernel_rfl
@[go_sem] theorem tys_89:tys 89=.ptr:=by kernel_rfl
@[go_sem] theorem tys_91:tys 91=.struct [.agg [.v (.int .i64 0),.v (.int .i64 0)],.v (.string ⟨#[]⟩),.dg Dg.zero,.v (.pointer none),.v (.pointer none),.agg [.v (.bool false),.v (.string ⟨#[]⟩)],.sl .nil []]:=by kernel_rfl
@[go_sem] theorem tys_97:tys 97=.iface:=by kernel_rfl
@[go_sem] theorem tys_101:tys 101=.struct []:=by kernel_rfl
@[go_sem] theorem tys_103:tys 103=.ptr:=by kernel_rfl
@[go_sem] theorem tys_105:tys 105=.struct [.agg [.v (.int .i64 0),.v (.int .i64 0)],.sl .nil [],.v (.string ⟨#[]⟩),.v (.string ⟨#[]⟩),.sl .nil []]:=by kernel_rfl
@[go_sem] theorem tys_122:tys 122=.ptr:=by kernel_rfl
@[go_sem] theorem tys_124:tys 124=.struct [.agg [.v (.int .i64 0),.v (.int .i64 0)],.sl .nil [],.v (.string ⟨#[]⟩),.v (.string ⟨#[]⟩),.sl .nil []]:=by kernel_rfl
@[go_sem] theorem tys_126:tys 126=.int .u32:=by kernel_rfl
@[go_sem] theorem tys_128:tys 128=.struct [.sl .nil [],.v (.int .u32 0),.dg Dg.zero,.v (.string ⟨#[]⟩),.v (.string ⟨#[]⟩),.v (.bool false),.v (.bool false)]:=by kernel_rfl
@[go_sem] theorem tys_129:tys 129=.ptr:=by kernel_rfl
@[go_sem] theorem tys_131:tys 131=.struct [.v (.string ⟨#[]⟩),.v (.int .i64 0),.v (.int .i64 0)]:=by kernel_rfl
@[go_sem] theorem tys_137:tys 137=.struct []:=by kernel_rfl
@[go_sem] theorem tys_142:tys 142=.ptr:=by kernel_rfl
@[go_sem] theorem tys_145:tys 145=.fn:=by kernel_rfl
@[go_sem] theorem tys_150:tys 150=.struct [.v (.int .u32 0),.dg Dg.zero]:=by kernel_rfl
@[go_sem] theorem tys_151:tys 151=.int .u64:=by kernel_rfl
@[go_sem] theorem tys_157:tys 157=.struct [.v (.string ⟨#[]⟩),.v (.string ⟨#[]⟩),.v (.bool false),.v (.bool false)]:=by kernel_rfl
@[go_sem] theorem tys_163:tys 163=.int .u64:=by kernel_rfl
@[go_sem] theorem tys_171:tys 171=.ptr:=by kernel_rfl
@[go_sem] theorem tys_179:tys 179=.struct [.v (.bool false),.v (.string ⟨#[]⟩),.v (.int .i64 0),.v (.int .i64 0)]:=by kernel_rfl
@[go_sem] theorem tys_180:tys 180=.ptr:=by kernel_rfl
@[go_sem] theorem tys_183:tys 183=.struct [.v (.int .i64 0),.v (.int .i64 0)]:=by kernel_rfl
@[go_sem] theorem tys_191:tys 191=.fn:=by kernel_rfl
@[go_sem] theorem tys_195:tys 195=.fn:=by kernel_rfl

theorem tk {t:TypeId} {ty:Ty} {d:TypeDesc} {l:List (TypeId×Ty)} (hu:Tryz.prog.underlying t=some d) (hd:ty.isDesc Tryz.prog d) (k:∀ p∈l,TyOk Tryz.prog p.1 p.2) (h1:zlike ty.zero=true:=by kernel_rfl) (h2:(Tryz.prog.info? t).map (fun i=>(i.size,i.zero))=some (ty.zero.size,some (ofCells ty.zero.isAgg (zcells ty.zero))):=by kernel_rfl):∀ p∈(t,ty)::l,TyOk Tryz.prog p.1 p.2:=List.forall_mem_cons.2 ⟨tyOk_mk hu hd h1 h2,k⟩

set_option maxRecDepth 100000 in
theorem tysL_ok:∀ p∈tysL,TyOk Tryz.prog p.1 p.2:=by
 unfold tysL
 refine tk Tryz.underlying1 (⟨_,_,_,rfl⟩) ?_
 refine tk Tryz.underlying2 (rfl) ?_
 refine tk Tryz.underlying3 (rfl) ?_
 refine tk Tryz.underlying4 (rfl) ?_
 refine tk Tryz.underlying5 (rfl) ?_
 refine tk Tryz.underlying6 (rfl) ?_
 refine tk Tryz.underlying8 (isDesc_struct (by kernel_rfl)) ?_
 refine tk Tryz.underlying9 (rfl) ?_
 refine tk Tryz.underlying10 (rfl) ?_
 refine tk Tryz.underlying11 (rfl) ?_
 refine tk Tryz.underlying12 (rfl) ?_
 refine tk Tryz.underlying14 (isDesc_struct (by kernel_rfl)) ?_
 refine tk Tryz.underlying20 (⟨_,rfl⟩) ?_
 refine tk Tryz.underlying24 (isDesc_struct (by kernel_rfl)) ?_
 refine tk Tryz.underlying26 (isDesc_struct (by kernel_rfl)) ?_
 refine tk Tryz.underlying29 (rfl) ?_
 refine tk Tryz.underlying31 (isDesc_struct (by kernel_rfl)) ?_
 refine tk Tryz.underlying32 (rfl) ?_
 refine tk Tryz.underlying36 (isDesc_dig Tryz.underlying5 (by kernel_rfl)) ?_
 refine tk Tryz.underlying42 (isDesc_struct (by kernel_rfl)) ?_
 refine tk Tryz.underlying46 (rfl) ?_
 refine tk Tryz.underlying53 (rfl) ?_
 refine tk Tryz.underlying54 (rfl) ?_
 refine tk Tryz.underlying60 (⟨_,_,_,rfl⟩) ?_
 refine tk Tryz.underlying62 (isDesc_struct (by kernel_rfl)) ?_
 refine tk Tryz.underlying64 (⟨_,_,_,rfl⟩) ?_
 refine tk Tryz.underlying67 (isDesc_struct (by kernel_rfl)) ?_
 refine tk Tryz.underlying73 (isDesc_struct (by kernel_rfl)) ?_
 refine tk Tryz.underlying74 (⟨_,_,_,rfl⟩) ?_
 refine tk Tryz.underlying77 (⟨_,rfl⟩) ?_
 refine tk Tryz.underlying79 (isDesc_struct (by kernel_rfl)) ?_
 refine tk Tryz.underlying85 (rfl) ?_
 refine tk Tryz.underlying87 (isDesc_struct (by kernel_rfl)) ?_
 refine tk Tryz.underlying89 (⟨_,rfl⟩) ?_
 refine tk Tryz.underlying91 (isDesc_struct (by kernel_rfl)) ?_
 refine tk Tryz.underlying97 (⟨_,rfl⟩) ?_
 refine tk Tryz.underlying101 (isDesc_struct (by kernel_rfl)) ?_
 refine tk Tryz.underlying103 (⟨_,rfl⟩) ?_
 refine tk Tryz.underlying105 (isDesc_struct (by kernel_rfl)) ?_
 refine tk Tryz.underlying122 (⟨_,rfl⟩) ?_
 refine tk Tryz.underlying124 (isDesc_struct (by kernel_rfl)) ?_
 refine tk Tryz.underlying126 (rfl) ?_
 refine tk Tryz.underlying128 (isDesc_struct (by kernel_rfl)) ?_
 refine tk Tryz.underlying129 (⟨_,rfl⟩) ?_
 refine tk Tryz.underlying131 (isDesc_struct (by kernel_rfl)) ?_
 refine tk Tryz.underlying137 (isDesc_struct (by kernel_rfl)) ?_
 refine tk Tryz.underlying142 (⟨_,rfl⟩) ?_
 refine tk Tryz.underlying145 (⟨_,_,_,rfl⟩) ?_
 refine tk Tryz.underlying150 (isDesc_struct (by kernel_rfl)) ?_
 refine tk Tryz.underlying151 (rfl) ?_
 refine tk Tryz.underlying157 (isDesc_struct (by kernel_rfl)) ?_
 refine tk Tryz.underlying163 (rfl) ?_
 refine tk Tryz.underlying171 (⟨_,rfl⟩) ?_
 refine tk Tryz.underlying179 (isDesc_struct (by kernel_rfl)) ?_
 refine tk Tryz.underlying180 (⟨_,rfl⟩) ?_
 refine tk Tryz.underlying183 (isDesc_struct (by kernel_rfl)) ?_
 refine tk Tryz.underlying191 (⟨_,_,_,rfl⟩) ?_
 refine tk Tryz.underlying195 (⟨_,_,_,rfl⟩) ?_
 exact fun p h=>(by cases h)

theorem tys_ok:TysOk Tryz.prog tys:=fun t ht=>tysL_ok _ (tysAt_mem tysL t ht)

theorem tysL_dig:∀ p∈tysL,p.2=.dig→Tryz.prog.eqGuardType Tryz.prog.depth p.1=false:=by
 have h:(tysL.all fun p=>(match p.2 with | .dig=>!(Tryz.prog.eqGuardType Tryz.prog.depth p.1) | _=>true))=true:=by kernel_rfl
 intro p hp hd
 have:=List.all_eq_true.1 h p hp
 rw [hd] at this
 simpa using this

theorem cmp_ok:∀ t ks,cmpTys t=some ks→CmpOk Tryz.prog t ks:=by
 intro t ks h
 unfold cmpTys at h
 split at h <;> first | (cases h;done) | skip
 ·simp only [Option.some.injEq] at h;subst h;exact ⟨by kernel_rfl,by kernel_rfl,by kernel_rfl,by kernel_rfl⟩
 ·simp only [Option.some.injEq] at h;subst h;exact ⟨by kernel_rfl,by kernel_rfl,by kernel_rfl,by kernel_rfl⟩
 ·simp only [Option.some.injEq] at h;subst h;exact ⟨by kernel_rfl,by kernel_rfl,by kernel_rfl,by kernel_rfl⟩
 ·simp only [Option.some.injEq] at h;subst h;exact ⟨by kernel_rfl,by kernel_rfl,by kernel_rfl,by kernel_rfl⟩
 ·simp only [Option.some.injEq] at h;subst h;exact ⟨by kernel_rfl,by kernel_rfl,by kernel_rfl,by kernel_rfl⟩
 ·simp only [Option.some.injEq] at h;subst h;exact ⟨by kernel_rfl,by kernel_rfl,by kernel_rfl,by kernel_rfl⟩
 ·simp only [Option.some.injEq] at h;subst h;exact ⟨by kernel_rfl,by kernel_rfl,by kernel_rfl,by kernel_rfl⟩
 ·simp only [Option.some.injEq] at h;subst h;exact ⟨by kernel_rfl,by kernel_rfl,by kernel_rfl,by kernel_rfl⟩
 ·simp only [Option.some.injEq] at h;subst h;exact ⟨by kernel_rfl,by kernel_rfl,by kernel_rfl,by kernel_rfl⟩

theorem prg:Prg Tryz.prog tys:=⟨tys_ok,fun t ht=>tysL_dig (t,tys t) (tysAt_mem tysL t (fun h=>nomatch ht.symm.trans h)) ht,by kernel_rfl,cmp_ok⟩


@[go_sem] def prD (p:Pr):D:=.agg [sD p.1,sD p.2]
@[go_sem] def kdD (k:Kd):D:=.agg [.v (.int .u32 (k.page:Nat)),.dg k.sum]
@[go_sem] def ndT (tp ts tk:Tag) (n:Nd):D:=.agg [.sl tp (n.pairs.map prD),.sl ts (n.seps.map sD),.sl tk (n.kids.map kdD)]
@[go_sem] def ndA (n:Nd):D:=ndT .none .none .none n
@[go_sem] def frD (p w:Int):D:=.agg [iD p,iD w]

theorem StAt.kp {w w':World} {S:Sto} (h:StAt w S) (k:Kp [] w w'):StAt w' S:=by
 have e:Evo w S.I w' S.I:=k.evo (fun _ _ _ _=>by simp) (fun _ _ _ h=>h)
 exact ⟨h.nd,fun b t d hm=>by obtain ⟨us,h1,h2⟩:=h.mutAt b t d hm;exact ⟨us,h1.kp k (by simp),h2.evo e _ _⟩,fun b L hm=>by
  obtain ⟨t,cur,h1,h2⟩:=h.ownAt b L hm
  exact ⟨t,cur,k.blk h1 (by simp),h2⟩⟩
theorem Kp.evo0 {w w':World} (k:Kp [] w w') (I:Nat→Nat→Prop):Evo w I w' I:=k.evo (fun _ _ _ _=>by simp) (fun _ _ _ h=>h)

section
variable {P : Program} {f : FuncId} {ds : List D} {S : Sto}
theorem ACalls.lift (hc:Callable P f) (R:D→Prop) (h:∀ w xs,StAt w S→RVals w S.I ds xs→Calls P f xs.toArray w (fun e w'=>∃ v d,e=.returned v∧Kp [] w w'∧RVal w' S.I d v∧R d)):ACalls P f ds S (fun e S'=>∃ d,e=.ret d∧R d∧S'=S):=
 ⟨hc,fun w xs hS hx=>(h w xs hS hx).mono fun e w' ⟨v,d,he,hk,hv,hr⟩=>by
  subst he
  exact ⟨d,S,hS.kp hk,hk.evo0 _,hv,d,rfl,hr,rfl⟩⟩
theorem ACalls.liftq (hc:Callable P f) {d:D} (h:∀ w xs,StAt w S→RVals w S.I ds xs→Calls P f xs.toArray w (fun e w'=>∃ v,e=.returned v∧Kp [] w w'∧RVal w' S.I d v)):ACalls P f ds S (RetQ d S):=
 ⟨hc,fun w xs hS hx=>(h w xs hS hx).mono fun e w' ⟨v,he,hk,hv⟩=>by
  subst he
  exact ⟨d,S,hS.kp hk,hk.evo0 _,hv,rfl,rfl⟩⟩
def noS:Sto:=⟨[],[]⟩
theorem noS_at (w:World):StAt w noS:=⟨List.nodup_nil,fun b t d h=>by simp [noS] at h,fun b L h=>by simp [noS] at h⟩
theorem noS_I (b e:Nat):noS.I b e:=⟨by simp [noS],fun L h=>by simp [noS] at h⟩
theorem Evo.kp {w w':World} {I I':Nat→Nat→Prop} (h:Evo w I w' I') (hI:∀ b e,I b e):Kp [] w w':=⟨h.os,h.tape,h.output,h.size,fun b hb _=>h.whole b hb (hI b),h.drawn⟩
theorem ACalls.lowerq {d:D} (h:ACalls P f ds noS (RetQ d noS)) {w:World} {xs:List Value} (hx:RVals w noS.I ds xs):Calls P f xs.toArray w (fun e w'=>∃ v,e=.returned v∧Kp [] w w'∧RVal w' noS.I d v):=
 (h.2 w xs (noS_at w) hx).mono fun e w' hp=>by
  cases e with
  | returned v=>
   obtain ⟨d',S',h1,h2,h3,e1,rfl⟩:=hp
   simp only [AEnd.ret.injEq] at e1
   subst e1
   exact ⟨v,rfl,h2.kp noS_I,h3⟩
  | panicked ch=>obtain ⟨d,v,S',_,_,_,_,e1,_⟩:=hp;cases e1
  | outgrown=>exact hp.elim
end

section
variable {w : World} {I : Nat → Nat → Prop}
theorem RVal.str {s:Bs} {x:Value} (h:RVal w I (sD s) x):x=.string ⟨s.toArray⟩:=by unfold RVal at h;exact h.1
theorem RVal.int {k:IntKind} {n:Int} {x:Value} (h:RVal w I (.v (.int k n)) x):x=.int k n:=by unfold RVal at h;exact h.1
theorem RVal.bool {b:Bool} {x:Value} (h:RVal w I (bD b) x):x=.bool b:=by unfold RVal at h;exact h.1
theorem RVal.dig {d:Dg} {x:Value} (h:RVal w I (.dg d) x):x=.agg d.c:=by unfold RVal at h;exact h
theorem RVals.cons {d:D} {ds:List D} {xs:List Value} (h:RVals w I (d::ds) xs):∃ y ys,xs=y::ys∧RVal w I d y∧RVals w I ds ys:=by unfold RVals at h;exact h
theorem RVals.nil {xs:List Value} (h:RVals w I [] xs):xs=[]:=by unfold RVals at h;exact h
theorem RVal.frame {p wd:Int} {x:Value} (h:RVal w I (frD p wd) x):x=.agg #[.int .i64 p,.int .i64 wd]:=by
 unfold frD RVal at h
 obtain ⟨us,rfl,h⟩:=h
 unfold RVs at h
 obtain ⟨a,b,rfl,h1,h2⟩:=h
 unfold RVs at h2
 obtain ⟨c,d,rfl,h3,h4⟩:=h2
 unfold RV at h1 h3
 unfold RVs at h4
 rw [h1.1,h3.1,h4];rfl
theorem RVals.mk1 {d:D} {x:Value} (h:RVal w I d x):RVals w I [d] [x]:=by unfold RVals;exact ⟨x,[],rfl,h,by unfold RVals;rfl⟩
theorem RVals.mk {d:D} {ds:List D} {x:Value} {xs:List Value} (h:RVal w I d x) (k:RVals w I ds xs):RVals w I (d::ds) (x::xs):=by unfold RVals;exact ⟨x,xs,rfl,h,k⟩
theorem RVals.mk0:RVals w I [] []:=by unfold RVals;rfl
theorem RVal.mk_tup {ds:List D} {xs:List Value} (h:RVals w I ds xs):RVal w I (.tup ds) (.tuple xs.toArray):=by unfold RVal;exact ⟨xs,rfl,h⟩

theorem RVs.two {a b:D} {us:List Value} (h:RVs w I [a,b] us):∃ xs ys,us=xs++ys∧RV w I a xs∧RV w I b ys:=by
 unfold RVs at h
 obtain ⟨xs,r,rfl,h1,h2⟩:=h
 unfold RVs at h2
 obtain ⟨ys,r,rfl,h3,h4⟩:=h2
 unfold RVs at h4
 subst h4
 exact ⟨xs,ys,by simp,h1,h3⟩
theorem RVs.mk2 {a b:D} {xs ys:List Value} (h1:RV w I a xs) (h2:RV w I b ys):RVs w I [a,b] (xs++ys):=by
 unfold RVs;exact ⟨xs,ys,rfl,h1,by unfold RVs;exact ⟨ys,[],by simp,h2,by unfold RVs;rfl⟩⟩
theorem RVs.three {a b c:D} {us:List Value} (h:RVs w I [a,b,c] us):∃ xs ys zs,us=xs++ys++zs∧RV w I a xs∧RV w I b ys∧RV w I c zs:=by
 unfold RVs at h
 obtain ⟨xs,r,rfl,h1,h2⟩:=h
 obtain ⟨ys,zs,rfl,h3,h4⟩:=RVs.two h2
 exact ⟨xs,ys,zs,by simp,h1,h3,h4⟩
theorem RVs.mk3 {a b c:D} {xs ys zs:List Value} (h1:RV w I a xs) (h2:RV w I b ys) (h3:RV w I c zs):RVs w I [a,b,c] (xs++(ys++zs)):=by
 unfold RVs;exact ⟨xs,ys++zs,rfl,h1,RVs.mk2 h2 h3⟩

theorem rowAt?_of {b o:Nat} {us:List Value} (h:CellsAt w b o us) (hn:us≠[]):rowAt? w ⟨b,o,none⟩ us.length=some us.toArray:=by
 have hp:0<us.length:=List.length_pos_iff.2 hn
 have hl:=h (us.length - 1) (us[us.length - 1]) (List.getElem?_eq_getElem (by omega))
 unfold World.cell? at hl
 unfold rowAt?
 split at hl
 ·rename_i c e f hb
  simp only at hl hb
  have hlt:o+(us.length - 1)<c.size:=(Array.getElem?_eq_some_iff.1 (by simpa using hl)).1
  rw [hb]
  simp only [Option.isSome_none,Bool.false_eq_true,if_false]
  rw [if_pos (by omega)]
  congr 1
  apply Array.ext_getElem?
  intro j
  rw [Array.getElem?_extract]
  split
  ·rename_i hj
   have hj':j<us.length:=by omega
   have h1:=h j us[j] (List.getElem?_eq_getElem hj')
   unfold World.cell? at h1
   simp only [hb,Option.isSome_none,Bool.false_eq_true,if_false] at h1
   rw [h1]
   simp [hj']
  ·rename_i hj
   have:us.length≤j:=by omega
   simp [this]
 ·cases hl

theorem RV.list {t:Tag} {es:List D} {us:List Value} (h:RV w I (.sl t es) us):∃ a c,us=[.slice a es.length c]∧es.length≤c∧TagOk w a c es t∧∀ (i:Nat) (e:D),es[i]?=some e→∃ b o vs,a=some ⟨b,o,none⟩∧b<w.heap.size∧RV w I e vs∧CellsAt w b (o+i*e.size) vs:=by
 unfold RV at h
 obtain ⟨a,n,c,rfl,rfl,hc,ht,h⟩:=h
 refine ⟨a,c,rfl,hc,ht,fun i e hi=>?_⟩
 rcases h with ⟨_,rfl,_⟩ | ⟨b,o,rfl,hb,_,⟨z,hz⟩,hr⟩
 ·simp at hi
 ·obtain ⟨vs,h1,h2⟩:=REs.get o es z hz hr i e hi
  exact ⟨b,o,vs,rfl,hb,h1,by rw [hz e (List.mem_of_getElem? hi)];exact h2⟩

theorem RVal.node {n:Nd} {x:Value} (h:RVal w I (ndA n) x):∃ (pa sa ka:Option Addr) (pc sc kc:Nat),x=.agg #[.slice pa n.pairs.length pc,.slice sa n.seps.length sc,.slice ka n.kids.length kc]∧NdAt w pa sa ka n:=by
 unfold ndA ndT RVal at h
 obtain ⟨us,rfl,h⟩:=h
 obtain ⟨xs,ys,zs,rfl,h1,h2,h3⟩:=RVs.three h
 obtain ⟨pa,pc,rfl,_,_,hp⟩:=h1.list
 obtain ⟨sa,sc,rfl,_,_,hs⟩:=h2.list
 obtain ⟨ka,kc,rfl,_,_,hk⟩:=h3.list
 refine ⟨pa,sa,ka,pc,sc,kc,by simp,fun i p hi=>?_,fun i p hi=>?_,fun i k hi=>?_⟩
 ·obtain ⟨b,o,vs,ha,hb,hr,hc⟩:=hp i (prD p) (by simp [hi])
  unfold prD RV at hr
  obtain ⟨a1,a2,rfl,r1,r2⟩:=RVs.two hr
  unfold RV at r1 r2
  obtain ⟨rfl,-⟩:=r1
  obtain ⟨rfl,-⟩:=r2
  exact ⟨b,o,ha,hb,hc 0 _ rfl,hc 1 _ rfl⟩
 ·obtain ⟨b,o,vs,ha,hb,hr,hc⟩:=hs i (sD p) (by simp [hi])
  unfold RV at hr
  obtain ⟨rfl,-⟩:=hr
  have:=hc 0 _ rfl
  exact ⟨b,o,ha,hb,by simpa [D.size] using this⟩
 ·obtain ⟨b,o,vs,ha,hb,hr,hc⟩:=hk i (kdD k) (by simp [hi])
  unfold kdD RV at hr
  obtain ⟨a1,a2,rfl,r1,r2⟩:=RVs.two hr
  unfold RV at r1 r2
  obtain ⟨rfl,-⟩:=r1
  subst r2
  have:=rowAt?_of hc (by simp)
  have hl:([Value.int .u32 (k.page:Nat)]++bC k.sum.l).length=33:=by simp [bC_length,k.sum.h]
  rw [hl] at this
  exact ⟨b,o,ha,hb,this⟩

theorem REs.mk {b:Nat}:∀ (es:List D) (o z:Nat),(∀ e∈es,e.size=z)→(∀ (i:Nat) (e:D),es[i]?=some e→∃ us,RV w I e us∧CellsAt w b (o+i*z) us)→REs w I b o es
 | [],_,_,_,_=>by unfold REs;trivial
 | d::ds,o,z,hz,h=>by
  unfold REs
  obtain ⟨us,h1,h2⟩:=h 0 d rfl
  refine ⟨us,h1,by simpa using h2,?_⟩
  rw [hz d List.mem_cons_self]
  refine REs.mk ds (o+z) z (fun e he=>hz e (List.mem_cons_of_mem _ he)) (fun i e hi=>?_)
  obtain ⟨vs,h3,h4⟩:=h (i+1) e (by simpa using hi)
  exact ⟨vs,h3,by rw [show o+z+i*z=o+(i+1)*z by rw [Nat.add_mul];omega];exact h4⟩
theorem RV.mk_list {es:List D} {a:Option Addr} {c z:Nat} (hz:∀ e∈es,e.size=z) (hc:es.length≤c) (h0:a=none→es=[]∧c=0) (hsp:∀ x,a=some x→x.spot=none∧x.block<w.heap.size∧I x.block (x.off+es.length*z))
  (h:∀ (i:Nat) (e:D),es[i]?=some e→∃ b o us,a=some ⟨b,o,none⟩∧RV w I e us∧CellsAt w b (o+i*z) us):RV w I (.sl .none es) [.slice a es.length c]:=by
 unfold RV
 refine ⟨a,_,c,rfl,rfl,hc,trivial,?_⟩
 cases a with
 | none=>obtain ⟨h1,h2⟩:=h0 rfl;exact .inl ⟨rfl,h1,h2⟩
 | some x=>
  obtain ⟨b,o,sp⟩:=x
  obtain ⟨h1,h2,h3⟩:=hsp _ rfl
  simp only at h1 h2 h3
  subst h1
  refine .inr ⟨b,o,rfl,h2,by rw [sizes_const es z hz];exact h3,⟨z,hz⟩,REs.mk es o z hz (fun i e hi=>?_)⟩
  obtain ⟨b',o',us,ha,hr,hcl⟩:=h i e hi
  simp only [Option.some.injEq,Addr.mk.injEq,and_true] at ha
  obtain ⟨rfl,rfl⟩:=ha
  exact ⟨us,hr,hcl⟩
end

end Go.Proofs.YtcaggadjkccbiaaGreat