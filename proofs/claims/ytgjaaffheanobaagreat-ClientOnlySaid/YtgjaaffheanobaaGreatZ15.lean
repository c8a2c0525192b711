/- The types of this seat. -/
import Derived.Test.YtgjaaffheanobaaGreatZ14
namespace Go.Proofs.YtgjaaffheanobaaGreat
set_option linter.unusedVariables false
set_option linter.unusedSimpArgs false
open Go Go.RowKit

def tysL:List (TypeId×Ty):=[
 (1,.fn),
 (2,.int .i64),
 (3,.int .i64),
 (4,.bool),
 (5,.int .u8),
 (6,.int .u8),
 (7,.struct [.v (.int .i64 0),.v (.int .i64 0),.v (.bool false),.v (.int .u8 0)]),
 (8,.struct [.v (.int .i64 0),.v (.int .i64 0),.v (.bool false),.v (.int .u8 0)]),
 (9,.str),
 (10,.str),
 (11,.str),
 (12,.int .u64),
 (13,.struct [.v (.string ⟨#[]⟩),.v (.int .u64 0)]),
 (20,.iface),
 (23,.struct [.v (.int .i64 0),.v (.int .i64 0)]),
 (24,.int .u64),
 (26,.dig),
 (28,.struct [.v (.int .u64 0),.dg Dg.zero]),
 (30,.struct [.agg [.v (.int .u64 0),.dg Dg.zero],.agg [.v (.int .u64 0),.dg Dg.zero]]),
 (33,.slice 42),
 (34,.ptr),
 (35,.int .i64),
 (39,.struct [.v (.int .u64 0),.dg Dg.zero,.v (.int .u64 0),.v (.string ⟨#[]⟩)]),
 (40,.slice 26),
 (42,.struct [.v (.int .i64 0),.agg [.v (.int .u64 0),.dg Dg.zero],.agg [.v (.int .u64 0),.dg Dg.zero,.v (.int .u64 0),.v (.string ⟨#[]⟩)],.v (.int .u64 0),.sl .nil [],.sl .nil [],.v (.string ⟨#[]⟩),.v (.string ⟨#[]⟩),.v (.string ⟨#[]⟩)]),
 (49,.slice 39),
 (50,.slice 3),
 (51,.ptr),
 (57,.slice 9),
 (58,.ptr),
 (60,.struct [.agg [.v (.int .i64 0),.v (.int .i64 0)],.sl .nil [],.sl .nil [],.v (.pointer none)]),
 (73,.ptr),
 (79,.struct [.v (.bool false),.v (.string ⟨#[]⟩)]),
 (82,.slice 129),
 (92,.struct [.agg [.v (.int .i64 0),.v (.int .i64 0)],.agg [.v (.int .u64 0),.dg Dg.zero],.agg [.v (.int .u64 0),.dg Dg.zero,.v (.int .u64 0),.v (.string ⟨#[]⟩)],.v (.bool false),.agg [.agg [.v (.int .u64 0),.dg Dg.zero],.agg [.v (.int .u64 0),.dg Dg.zero]],.v (.bool false)]),
 (102,.fn),
 (104,.fn),
 (106,.ptr),
 (114,.slice 5),
 (115,.int .u32),
 (116,.int .u64),
 (117,.slice 120),
 (120,.arr 26 [.dg Dg.zero,.dg Dg.zero]),
 (124,.struct [.agg [.v (.int .i64 0),.v (.int .i64 0)],.v (.bool false),.agg [.v (.int .u64 0),.dg Dg.zero],.agg [.v (.int .u64 0),.dg Dg.zero,.v (.int .u64 0),.v (.string ⟨#[]⟩)],.v (.bool false),.agg [.agg [.v (.int .u64 0),.dg Dg.zero],.agg [.v (.int .u64 0),.dg Dg.zero]]]),
 (129,.struct [.v (.string ⟨#[]⟩),.v (.string ⟨#[]⟩)]),
 (136,.fn),
 (138,.ptr),
 (139,.ptr),
 (142,.map 147 26),
 (144,.struct [.v (.int .i64 0),.sl .nil [],.v (.map none)]),
 (146,.fn),
 (147,.arr 3 [.v (.int .i64 0),.v (.int .i64 0)]),
 (149,.struct [.v (.bool false),.sl .nil []]),
 (155,.struct [.agg [.v (.bool false),.v (.string ⟨#[]⟩)],.sl .nil [],.sl .nil []]),
 (158,.ptr),
 (160,.struct [.agg [.v (.int .i64 0),.v (.int .i64 0)],.v (.string ⟨#[]⟩),.dg Dg.zero,.v (.pointer none),.v (.pointer none),.agg [.v (.bool false),.v (.string ⟨#[]⟩)],.sl .nil []]),
 (164,.iface),
 (168,.struct []),
 (170,.ptr),
 (172,.struct [.agg [.v (.int .i64 0),.v (.int .i64 0)],.sl .nil [],.v (.string ⟨#[]⟩),.v (.string ⟨#[]⟩),.sl .nil []]),
 (181,.slice 229),
 (189,.ptr),
 (191,.struct [.agg [.v (.int .i64 0),.v (.int .i64 0)],.sl .nil [],.v (.string ⟨#[]⟩),.v (.string ⟨#[]⟩),.sl .nil []]),
 (194,.struct [.sl .nil [],.v (.int .u32 0),.dg Dg.zero,.v (.string ⟨#[]⟩),.v (.string ⟨#[]⟩),.v (.bool false),.v (.bool false)]),
 (195,.struct []),
 (198,.ptr),
 (202,.fn),
 (204,.slice 213),
 (206,.struct [.sl .nil [],.sl .nil [],.sl .nil []]),
 (213,.struct [.v (.int .u32 0),.dg Dg.zero]),
 (229,.struct [.dg Dg.zero,.dg Dg.zero]),
 (230,.ptr),
 (232,.struct [.v (.string ⟨#[]⟩),.v (.int .i64 0),.v (.int .i64 0)]),
 (236,.struct [.v (.string ⟨#[]⟩),.v (.string ⟨#[]⟩),.v (.bool false),.v (.bool false)]),
 (241,.ptr),
 (246,.struct [.v (.bool false),.v (.string ⟨#[]⟩),.v (.int .i64 0),.v (.int .i64 0)]),
 (249,.ptr),
 (252,.struct [.v (.int .i64 0),.v (.int .i64 0)]),
 (270,.fn),
 (273,.fn),
 (276,.fn)]
def tysAt:List (TypeId×Ty)→TypeId→Ty
 | [],_=>.other
 | p::l,t=>if Nat.beq p.1 t=true then p.2 else tysAt l t
def tys (t:TypeId):Ty:=tysAt tysL t

theorem tysAt_mem:∀ (l:List (TypeId×Ty)) (t:TypeId),tysAt l t≠.other→(t,tysAt l t)∈l
 | [],_,h=>absurd rfl h
 | p::l,t,h=>by
  unfold tysAt at h ⊢
  split
  ·rename_i e;have:p.1=t:=Nat.eq_of_beq_eq_true e;subst this;exact List.mem_cons_self
  ·rename_i e;rw [if_neg e] at h;exact List.mem_cons_of_mem _ (tysAt_mem l t h)

@[go_sem] theorem tys_1:tys 1=.fn:=by kernel_rfl
@[go_sem] theorem tys_2:tys 2=.int .i64:=by kernel_rfl
@[go_sem] theorem tys_3:tys 3=.int .i64:=by kernel_rfl
@[go_sem] theorem tys_4:tys 4=.bool:=by kernel_rfl
@[go_sem] theorem tys_5:tys 5=.int .u8:=by kernel_rfl
@[go_sem] theorem tys_6:tys 6=.int .u8:=by kernel_rfl
@[go_sem] theorem tys_7:tys 7=.struct [.v (.int .i64 0),.v (.int .i64 0),.v (.bool false),.v (.int .u8 0)]:=by kernel_rfl
@[go_sem] theorem tys_8:tys 8=.struct [.v (.int .i64 0),.v (.int .i64 0),.v (.bool false),.v (.int .u8 0)]:=by kernel_rfl
@[go_sem] theorem tys_9:tys 9=.str:=by kernel_rfl
@[go_sem] theorem tys_10:tys 10=.str:=by kernel_rfl
@[go_sem] theorem tys_11:tys 11=.str:=by kernel_rfl
@[go_sem] theorem tys_12:tys 12=.int .u64:=by kernel_rfl
@[go_sem] theorem tys_13:tys 13=.struct [.v (.string ⟨#[]⟩),.v (.int .u64 0)]:=by kernel_rfl
@[go_sem] theorem tys_20:tys 20=.iface:=by kernel_rfl
@[go_sem] theorem tys_23:tys 23=.struct [.v (.int .i64 0),.v (.int .i64 0)]:=by kernel_rfl
@[go_sem] theorem tys_24:tys 24=.int .u64:=by kernel_rfl
@[go_sem] theorem tys_26:tys 26=.dig:=by kernel_rfl
@[go_sem] theorem tys_28:tys 28=.struct [.v (.int .u64 0),.dg Dg.zero]:=by kernel_rfl
@[go_sem] theorem tys_30:tys 30=.struct [.agg [.v (.int .u64 0),.dg Dg.zero],.agg [.v (.int .u64 0),.dg Dg.zero]]:=by kernel_rfl
@[go_sem] theorem tys_33:tys 33=.slice 42:=by kernel_rfl
@[go_sem] theorem tys_34:tys 34=.ptr:=by kernel_rfl
@[go_sem] theorem tys_35:tys 35=.int .i64:=by kernel_rfl
@[go_sem] theorem tys_39:tys 39=.struct [.v (.int .u64 0),.dg Dg.zero,.v (.int .u64 0),.v (.string ⟨#[]⟩)]:=by kernel_rfl
@[go_sem] theorem tys_40:tys 40=.slice 26:=by kernel_rfl
@[go_sem] theorem tys_42:tys 42=.struct [.v (.int .i64 0),.agg [.v (.int .u64 0),.dg Dg.zero],.agg [.v (.int .u64 0),.dg Dg.zero,.v (.int .u64 0),.v (.string ⟨#[]⟩)],.v (.int .u64 0),.sl .nil [],.sl .nil [],.v (.string ⟨#[]⟩),.v (.string ⟨#[]⟩),.v (.string ⟨#[]⟩)]:=by kernel_rfl
@[go_sem] theorem tys_49:tys 49=.slice 39:=by kernel_rfl
@[go_sem] theorem tys_50:tys 50=.slice 3:=by kernel_rfl
@[go_sem] theorem tys_51:tys 51=.ptr:=by kernel_rfl
@[go_sem] theorem tys_57:tys 57=.slice 9:=by kernel_rfl
@[go_sem] theorem tys_58:tys 58=.ptr:=by kernel_rfl
@[go_sem] theorem tys_60:tys 60=.struct [.agg [.v (.int .i64 0),.v (.int .i64 0)],.sl .nil [],.sl .nil [],.v (.pointer none)]:=by kernel_rfl
@[go_sem] theorem tys_73:tys 73=.ptr:=by kernel_rfl
@[go_sem] theorem tys_79:tys 79=.struct [.v (.bool false),.v (.string ⟨#[]⟩)]:=by kernel_rfl
@[go_sem] theorem tys_82:tys 82=.slice 129:=by kernel_rfl
@[go_sem] theorem tys_92:tys 92=.struct [.agg [.v (.int .i64 0),.v (.int .i64 0)],.agg [.v (.int .u64 0),.dg Dg.zero],.agg [.v (.int .u64 0),.dg Dg.zero,.v (.int .u64 0),.v (.string ⟨#[]⟩)],.v (.bool false),.agg [.agg [.v (.int .u64 0),.dg Dg.zero],.agg [.v (.int .u64 0),.dg Dg.zero]],.v (.bool false)]:=by kernel_rfl
@[go_sem] theorem tys_102:tys 102=.fn:=by kernel_rfl
@[go_sem] theorem tys_104:tys 104=.fn:=by kernel_rfl
@[go_sem] theorem tys_106:tys 106=.ptr:=by kernel_rfl
@[go_sem] theorem tys_114:tys 114=.slice 5:=by kernel_rfl
@[go_sem] theorem tys_115:tys 115=.int .u32:=by kernel_rfl
@[go_sem] theorem tys_116:tys 116=.int .u64:=by kernel_rfl
@[go_sem] theorem tys_117:tys 117=.slice 120:=by kernel_rfl
@[go_sem] theorem tys_120:tys 120=.arr 26 [.dg Dg.zero,.dg Dg.zero]:=by kernel_rfl
@[go_sem] theorem tys_124:tys 124=.struct [.agg [.v (.int .i64 0),.v (.int .i64 0)],.v (.bool false),.agg [.v (.int .u64 0),.dg Dg.zero],.agg [.v (.int .u64 0),.dg Dg.zero,.v (.int .u64 0),.v (.string ⟨#[]⟩)],.v (.bool false),.agg [.agg [.v (.int .u64 0),.dg Dg.zero],.agg [.v (.int .u64 0),.dg Dg.zero]]]:=by kernel_rfl
@[go_sem] theorem tys_129:tys 129=.struct [.v (.string ⟨#[]⟩),.v (.string ⟨#[]⟩)]:=by kernel_rfl
@[go_sem] theorem tys_136:tys 136=.fn:=by kernel_rfl
@[go_sem] theorem tys_138:tys 138=.ptr:=by kernel_rfl
@[go_sem] theorem tys_139:tys 139=.ptr:=by kernel_rfl
@[go_sem] theorem tys_142:tys 142=.map 147 26:=by kernel_rfl
@[go_sem] theorem tys_144:tys 144=.struct [.v (.int .i64 0),.sl .nil [],.v (.map none)]:=by kernel_rfl
@[go_sem] theorem tys_146:tys 146=.fn:=by kernel_rfl
@[go_sem] theorem tys_147:tys 147=.arr 3 [.v (.int .i64 0),.v (.int .i64 0)]:=by kernel_rfl
@[go_sem] theorem tys_149:tys 149=.struct [.v (.bool false),.sl .nil []]:=by kernel_rfl
@[go_sem] theorem tys_155:tys 155=.struct [.agg [.v (.bool false),.v (.string ⟨#[]⟩)],.sl .nil [],.sl .nil []]:=by kernel_rfl
@[go_sem] theorem tys_158:tys 158=.ptr:=by kernel_rfl
@[go_sem] theorem tys_160:tys 160=.struct [.agg [.v (.int .i64 0),.v (.int .i64 0)],.v (.string ⟨#[]⟩),.dg Dg.zero,.v (.pointer none),.v (.pointer none),.agg [.v (.bool false),.v (.string ⟨#[]⟩)],.sl .nil []]:=by kernel_rfl
@[go_sem] theorem tys_164:tys 164=.iface:=by kernel_rfl
@[go_sem] theorem tys_168:tys 168=.struct []:=by kernel_rfl
@[go_sem] theorem tys_170:tys 170=.ptr:=by kernel_rfl
@[go_sem] theorem tys_172:tys 172=.struct [.agg [.v (.int .i64 0),.v (.int .i64 0)],.sl .nil [],.v (.string ⟨#[]⟩),.v (.string ⟨#[]⟩),.sl .nil []]:=by kernel_rfl
@[go_sem] theorem tys_181:tys 181=.slice 229:=by kernel_rfl
@[go_sem] theorem tys_189:tys 189=.ptr:=by kernel_rfl
@[go_sem] theorem tys_191:tys 191=.struct [.agg [.v (.int .i64 0),.v (.int .i64 0)],.sl .nil [],.v (.string ⟨#[]⟩),.v (.string ⟨#[]⟩),.sl .nil []]:=by kernel_rfl
@[go_sem] theorem tys_194:tys 194=.struct [.sl .nil [],.v (.int .u32 0),.dg Dg.zero,.v (.string ⟨#[]⟩),.v (.string ⟨#[]⟩),.v (.bool false),.v (.bool false)]:=by kernel_rfl
@[go_sem] theorem tys_195:tys 195=.struct []:=by kernel_rfl
@[go_sem] theorem tys_198:tys 198=.ptr:=by kernel_rfl
@[go_sem] theorem tys_202:tys 202=.fn:=by kernel_rfl
@[go_sem] theorem tys_204:tys 204=.slice 213:=by kernel_rfl
@[go_sem] theorem tys_206:tys 206=.struct [.sl .nil [],.sl .nil [],.sl .nil []]:=by kernel_rfl
@[go_sem] theorem tys_213:tys 213=.struct [.v (.int .u32 0),.dg Dg.zero]:=by kernel_rfl
@[go_sem] theorem tys_229:tys 229=.struct [.dg Dg.zero,.dg Dg.zero]:=by kernel_rfl
@[go_sem] theorem tys_230:tys 230=.ptr:=by kernel_rfl
@[go_sem] theorem tys_232:tys 232=.struct [.v (.string ⟨#[]⟩),.v (.int .i64 0),.v (.int .i64 0)]:=by kernel_rfl
@[go_sem] theorem tys_236:tys 236=.struct [.v (.string ⟨#[]⟩),.v (.string ⟨#[]⟩),.v (.bool false),.v (.bool false)]:=by kernel_rfl
@[go_sem] theorem tys_241:tys 241=.ptr:=by kernel_rfl
@[go_sem] theorem tys_246:tys 246=.struct [.v (.bool false),.v (.string ⟨#[]⟩),.v (.int .i64 0),.v (.int .i64 0)]:=by kernel_rfl
@[go_sem] theorem tys_249:tys 249=.ptr:=by kernel_rfl
@[go_sem] theorem tys_252:tys 252=.struct [.v (.int .i64 0),.v (.int .i64 0)]:=by kernel_rfl
@[go_sem] theorem tys_270:tys 270=.fn:=by kernel_rfl
@[go_sem] theorem tys_273:tys 273=.fn:=by kernel_rfl
@[go_sem] theorem tys_276:tys 276=.fn:=by kernel_rfl

theorem tk {t:TypeId} {ty:Ty} {d:TypeDesc} {l:List (TypeId×Ty)} (hu:Tryz.prog.underlying t=some d) (hd:ty.isDesc Tryz.prog d) (k:∀ p∈l,TyOk Tryz.prog p.1 p.2) (h1:zlike ty.zero=true:=by kernel_rfl) (h2:(Tryz.prog.info? t).map (fun i=>(i.size,i.zero))=some (ty.zero.size,some (ofCells ty.zero.isAgg (zcells ty.zero))):=by kernel_rfl):∀ p∈(t,ty)::l,TyOk Tryz.prog p.1 p.2:=List.forall_mem_cons.2 ⟨tyOk_mk hu hd h1 h2,k⟩

set_option maxRecDepth 100000 in
theorem tysL_ok:∀ p∈tysL,TyOk Tryz.prog p.1 p.2:=by
 unfold tysL
 refine tk Tryz.underlying1 (⟨_,_,_,rfl⟩) ?_
 refine tk Tryz.underlying2 (rfl) ?_
 refine tk Tryz.underlying3 (rfl) ?_
 refine tk Tryz.underlying4 (rfl) ?_
 refine tk Tryz.underlying5 (rfl) ?_
 refine tk Tryz.underlying6 (rfl) ?_
 refine tk Tryz.underlying7 (isDesc_struct (by kernel_rfl)) ?_
 refine tk Tryz.underlying8 (isDesc_struct (by kernel_rfl)) ?_
 refine tk Tryz.underlying9 (rfl) ?_
 refine tk Tryz.underlying10 (rfl) ?_
 refine tk Tryz.underlying11 (rfl) ?_
 refine tk Tryz.underlying12 (rfl) ?_
 refine tk Tryz.underlying13 (isDesc_struct (by kernel_rfl)) ?_
 refine tk Tryz.underlying20 (⟨_,rfl⟩) ?_
 refine tk Tryz.underlying23 (isDesc_struct (by kernel_rfl)) ?_
 refine tk Tryz.underlying24 (rfl) ?_
 refine tk Tryz.underlying26 (isDesc_dig Tryz.underlying5 (by kernel_rfl)) ?_
 refine tk Tryz.underlying28 (isDesc_struct (by kernel_rfl)) ?_
 refine tk Tryz.underlying30 (isDesc_struct (by kernel_rfl)) ?_
 refine tk Tryz.underlying33 (rfl) ?_
 refine tk Tryz.underlying34 (⟨_,rfl⟩) ?_
 refine tk Tryz.underlying35 (rfl) ?_
 refine tk Tryz.underlying39 (isDesc_struct (by kernel_rfl)) ?_
 refine tk Tryz.underlying40 (rfl) ?_
 refine tk Tryz.underlying42 (isDesc_struct (by kernel_rfl)) ?_
 refine tk Tryz.underlying49 (rfl) ?_
 refine tk Tryz.underlying50 (rfl) ?_
 refine tk Tryz.underlying51 (⟨_,rfl⟩) ?_
 refine tk Tryz.underlying57 (rfl) ?_
 refine tk Tryz.underlying58 (⟨_,rfl⟩) ?_
 refine tk Tryz.underlying60 (isDesc_struct (by kernel_rfl)) ?_
 refine tk Tryz.underlying73 (⟨_,rfl⟩) ?_
 refine tk Tryz.underlying79 (isDesc_struct (by kernel_rfl)) ?_
 refine tk Tryz.underlying82 (rfl) ?_
 refine tk Tryz.underlying92 (isDesc_struct (by kernel_rfl)) ?_
 refine tk Tryz.underlying102 (⟨_,_,_,rfl⟩) ?_
 refine tk Tryz.underlying104 (⟨_,_,_,rfl⟩) ?_
 refine tk Tryz.underlying106 (⟨_,rfl⟩) ?_
 refine tk Tryz.underlying114 (rfl) ?_
 refine tk Tryz.underlying115 (rfl) ?_
 refine tk Tryz.underlying116 (rfl) ?_
 refine tk Tryz.underlying117 (rfl) ?_
 refine tk Tryz.underlying120 (isDesc_arr (by kernel_rfl) Tryz.underlying26 (by kernel_rfl)) ?_
 refine tk Tryz.underlying124 (isDesc_struct (by kernel_rfl)) ?_
 refine tk Tryz.underlying129 (isDesc_struct (by kernel_rfl)) ?_
 refine tk Tryz.underlying136 (⟨_,_,_,rfl⟩) ?_
 refine tk Tryz.underlying138 (⟨_,rfl⟩) ?_
 refine tk Tryz.underlying139 (⟨_,rfl⟩) ?_
 refine tk Tryz.underlying142 (rfl) ?_
 refine tk Tryz.underlying144 (isDesc_struct (by kernel_rfl)) ?_
 refine tk Tryz.underlying146 (⟨_,_,_,rfl⟩) ?_
 refine tk Tryz.underlying147 (isDesc_arr (by kernel_rfl) Tryz.underlying3 (by kernel_rfl)) ?_
 refine tk Tryz.underlying149 (isDesc_struct (by kernel_rfl)) ?_
 refine tk Tryz.underlying155 (isDesc_struct (by kernel_rfl)) ?_
 refine tk Tryz.underlying158 (⟨_,rfl⟩) ?_
 refine tk Tryz.underlying160 (isDesc_struct (by kernel_rfl)) ?_
 refine tk Tryz.underlying164 (⟨_,rfl⟩) ?_
 refine tk Tryz.underlying168 (isDesc_struct (by kernel_rfl)) ?_
 refine tk Tryz.underlying170 (⟨_,rfl⟩) ?_
 refine tk Tryz.underlying172 (isDesc_struct (by kernel_rfl)) ?_
 refine tk Tryz.underlying181 (rfl) ?_
 refine tk Tryz.underlying189 (⟨_,rfl⟩) ?_
 refine tk Tryz.underlying191 (isDesc_struct (by kernel_rfl)) ?_
 refine tk Tryz.underlying194 (isDesc_struct (by kernel_rfl)) ?_
 refine tk Tryz.underlying195 (isDesc_struct (by kernel_rfl)) ?_
 refine tk Tryz.underlying198 (⟨_,rfl⟩) ?_
 refine tk Tryz.underlying202 (⟨_,_,_,rfl⟩) ?_
 refine tk Tryz.underlying204 (rfl) ?_
 refine tk Tryz.underlying206 (isDesc_struct (by kernel_rfl)) ?_
 refine tk Tryz.underlying213 (isDesc_struct (by kernel_rfl)) ?_
 refine tk Tryz.underlying229 (isDesc_struct (by kernel_rfl)) ?_
 refine tk Tryz.underlying230 (⟨_,rfl⟩) ?_
 refine tk Tryz.underlying232 (isDesc_struct (by kernel_rfl)) ?_
 refine tk Tryz.underlying236 (isDesc_struct (by kernel_rfl)) ?_
 refine tk Tryz.underlying241 (⟨_,rfl⟩) ?_
 refine tk Tryz.underlying246 (isDesc_struct (by kernel_rfl)) ?_
 refine tk Tryz.underlying249 (⟨_,rfl⟩) ?_
 refine tk Tryz.underlying252 (isDesc_struct (by kernel_rfl)) ?_
 refine tk Tryz.underlying270 (⟨_,_,_,rfl⟩) ?_
 refine tk Tryz.underlying273 (⟨_,_,_,rfl⟩) ?_
 refine tk Tryz.underlying276 (⟨_,_,_,rfl⟩) ?_
 exact fun p h=>(by cases h)

theorem tys_ok:TysOk Tryz.prog tys:=fun t ht=>tysL_ok _ (tysAt_mem tysL t ht)

theorem tysL_dig:∀ p∈tysL,p.2=.dig→Tryz.prog.eqGuardType Tryz.prog.depth p.1=false:=by
 have h:(tysL.all fun p=>(match p.2 with | .dig=>!(Tryz.prog.eqGuardType Tryz.prog.depth p.1) | _=>true))=true:=by kernel_rfl
 intro p hp hd
 have:=List.all_eq_true.1 h p hp
 rw [hd] at this
 simpa using this

theorem cmp_ok:∀ t ks,cmpTys t=some ks→CmpOk Tryz.prog t ks:=by
 intro t ks h
 unfold cmpTys at h
 split at h <;> first | (cases h;done) | skip
 ·simp only [Option.some.injEq] at h;subst h;exact ⟨by kernel_rfl,by decide,by kernel_rfl⟩
 ·simp only [Option.some.injEq] at h;subst h;exact ⟨by kernel_rfl,by decide,by kernel_rfl⟩
 ·simp only [Option.some.injEq] at h;subst h;exact ⟨by kernel_rfl,by decide,by kernel_rfl⟩
 ·simp only [Option.some.injEq] at h;subst h;exact ⟨by kernel_rfl,by decide,by kernel_rfl⟩
 ·simp only [Option.some.injEq] at h;subst h;exact ⟨by kernel_rfl,by decide,by kernel_rfl⟩
 ·simp only [Option.some.injEq] at h;subst h;exact ⟨by kernel_rfl,by decide,by kernel_rfl⟩
 ·simp only [Option.some.injEq] at h;subst h;exact ⟨by kernel_rfl,by decide,by kernel_rfl⟩
 ·simp only [Option.some.injEq] at h;subst h;exact ⟨by kernel_rfl,by decide,by kernel_rfl⟩
 ·simp only [Option.some.injEq] at h;subst h;exact ⟨by kernel_rfl,by decide,by kernel_rfl⟩
 ·simp only [Option.some.injEq] at h;subst h;exact ⟨by kernel_rfl,by decide,by kernel_rfl⟩
 ·simp only [Option.some.injEq] at h;subst h;exact ⟨by kernel_rfl,by decide,by kernel_rfl⟩
 ·simp only [Option.some.injEq] at h;subst h;exact ⟨by kernel_rfl,by decide,by kernel_rfl⟩
 ·simp only [Option.some.injEq] at h;subst h;exact ⟨by kernel_rfl,by decide,by kernel_rfl⟩
 ·simp only [Option.some.injEq] at h;subst h;exact ⟨by kernel_rfl,by decide,by kernel_rfl⟩
 ·simp only [Option.some.injEq] at h;subst h;exact ⟨by kernel_rfl,by decide,by kernel_rfl⟩
 ·simp only [Option.some.injEq] at h;subst h;exact ⟨by kernel_rfl,by decide,by kernel_rfl⟩

theorem prg:Prg Tryz.prog tys:=⟨tys_ok,fun t ht=>tysL_dig (t,tys t) (tysAt_mem tysL t (fun h=>nomatch ht.symm.trans h)) ht,by kernel_rfl,cmp_ok⟩

end Go.Proofs.YtgjaaffheanobaaGreat