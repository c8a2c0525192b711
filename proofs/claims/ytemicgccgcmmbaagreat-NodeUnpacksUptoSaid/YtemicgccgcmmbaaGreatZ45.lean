/- The types of this seat. -/
import Derived.Test.YtemicgccgcmmbaaGreatZ44
namespace Go.Proofs.YtemicgccgcmmbaaGreat
set_option linter.unusedVariables false
set_option linter.unusedSimpArgs false
open Go Go.RowKit

/-- What is known of each type. -/
def tys : TypeId → Ty
  | 1 => .fn
  | 2 => .int .i64
  | 3 => .int .i64
  | 4 => .bool
  | 5 => .int .u8
  | 6 => .int .u8
  | 7 => .struct [.v (.int .i64 0), .v (.int .i64 0), .v (.bool false), .v (.int .u8 0)]
  | 8 => .struct [.v (.int .i64 0), .v (.int .i64 0), .v (.bool false), .v (.int .u8 0)]
  | 9 => .str
  | 10 => .str
  | 11 => .str
  | 12 => .int .u64
  | 13 => .struct [.v (.string ⟨#[]⟩), .v (.int .u64 0)]
  | 14 => .struct [.v (.string ⟨#[]⟩), .v (.int .u64 0)]
  | 15 => .ptr
  | 16 => .ptr
  | 17 => .ptr
  | 18 => .struct [.v (.pointer none)]
  | 19 => .struct [.v (.pointer none)]
  | 20 => .iface
  | 21 => .int .i32
  | 22 => .struct [.v (.int .i64 0), .v (.int .i64 0)]
  | 23 => .struct [.v (.int .i64 0), .v (.int .i64 0)]
  | 24 => .slice 56
  | 25 => .slice 9
  | 26 => .slice 59
  | 27 => .struct [.sl .nil [], .sl .nil [], .sl .nil []]
  | 28 => .struct [.sl .nil [], .sl .nil [], .sl .nil []]
  | 29 => .int .i64
  | 31 => .fn
  | 32 => .fn
  | 33 => .fn
  | 34 => .fn
  | 35 => .dig
  | 36 => .dig
  | 38 => .fn
  | 39 => .fn
  | 40 => .fn
  | 42 => .fn
  | 43 => .fn
  | 44 => .fn
  | 45 => .fn
  | 46 => .fn
  | 47 => .fn
  | 48 => .fn
  | 49 => .fn
  | 50 => .fn
  | 52 => .fn
  | 53 => .fn
  | 54 => .fn
  | 55 => .struct [.v (.string ⟨#[]⟩), .v (.string ⟨#[]⟩)]
  | 56 => .struct [.v (.string ⟨#[]⟩), .v (.string ⟨#[]⟩)]
  | 57 => .int .u32
  | 58 => .struct [.v (.int .u32 0), .dg Dg.zero]
  | 59 => .struct [.v (.int .u32 0), .dg Dg.zero]
  | 60 => .fn
  | 61 => .fn
  | 62 => .fn
  | 63 => .fn
  | 64 => .fn
  | 65 => .fn
  | 66 => .slice 5
  | 67 => .int .u64
  | 68 => .fn
  | 69 => .fn
  | 70 => .fn
  | 71 => .slice 3
  | 72 => .fn
  | 73 => .fn
  | 74 => .fn
  | 75 => .fn
  | 76 => .fn
  | 77 => .fn
  | 78 => .fn
  | 79 => .fn
  | 80 => .fn
  | 81 => .fn
  | 82 => .fn
  | 83 => .int .u64
  | 84 => .ptr
  | 85 => .fn
  | 86 => .fn
  | 87 => .fn
  | 88 => .fn
  | 89 => .fn
  | 90 => .fn
  | 91 => .fn
  | 92 => .fn
  | 93 => .fn
  | 94 => .iface
  | 95 => .iface
  | 96 => .fn
  | 97 => .ptr
  | 98 => .struct [.v (.string ⟨#[]⟩), .v (.int .i64 0), .v (.int .i64 0)]
  | 99 => .struct [.v (.string ⟨#[]⟩), .v (.int .i64 0), .v (.int .i64 0)]
  | 100 => .fn
  | 101 => .fn
  | 102 => .fn
  | 103 => .fn
  | 104 => .fn
  | 105 => .ptr
  | 106 => .fn
  | 107 => .fn
  | 108 => .fn
  | 109 => .fn
  | 110 => .fn
  | 111 => .fn
  | 112 => .fn
  | 113 => .fn
  | 114 => .fn
  | 115 => .fn
  | 116 => .fn
  | 117 => .fn
  | 118 => .fn
  | 119 => .fn
  | 120 => .fn
  | 121 => .fn
  | 122 => .fn
  | 123 => .fn
  | 124 => .struct [.v (.bool false), .v (.string ⟨#[]⟩), .v (.int .i64 0), .v (.int .i64 0)]
  | 125 => .struct [.v (.bool false), .v (.string ⟨#[]⟩), .v (.int .i64 0), .v (.int .i64 0)]
  | 126 => .fn
  | 127 => .fn
  | 128 => .ptr
  | 129 => .fn
  | 130 => .struct [.v (.int .i64 0), .v (.int .i64 0)]
  | 131 => .struct [.v (.int .i64 0), .v (.int .i64 0)]
  | 132 => .struct [.v (.bool false), .sl .nil []]
  | 133 => .struct [.v (.bool false), .sl .nil []]
  | 134 => .fn
  | 135 => .fn
  | 136 => .fn
  | 137 => .slice 57
  | 138 => .struct [.sl .nil [], .sl .nil []]
  | 139 => .struct [.sl .nil [], .sl .nil []]
  | 140 => .fn
  | 141 => .ptr
  | 142 => .fn
  | 143 => .fn
  | 144 => .fn
  | 145 => .fn
  | 148 => .fn
  | 151 => .fn
  | 153 => .fn
  | 154 => .ptr
  | 156 => .fn
  | 157 => .ptr
  | 158 => .struct [.v (.pointer none), .v (.pointer none), .v (.pointer none), .v (.string ⟨#[]⟩)]
  | 159 => .struct [.v (.pointer none), .v (.pointer none), .v (.pointer none), .v (.string ⟨#[]⟩)]
  | 163 => .int .u8
  | 164 => .int .u8
  | 165 => .fn
  | 166 => .ptr
  | 167 => .int .i32
  | 168 => .int .i32
  | 169 => .struct [.v (.int .u64 0), .v (.int .u64 0), .v (.int .u32 0), .v (.int .u8 0), .v (.int .u8 0), .v (.int .u8 0), .v (.int .u8 0), .v .nilFunc, .v (.pointer none), .v (.int .i32 0), .v (.int .i32 0)]
  | 170 => .struct [.v (.int .u64 0), .v (.int .u64 0), .v (.int .u32 0), .v (.int .u8 0), .v (.int .u8 0), .v (.int .u8 0), .v (.int .u8 0), .v .nilFunc, .v (.pointer none), .v (.int .i32 0), .v (.int .i32 0)]
  | _ => .other

@[go_sem] theorem tys_1 : tys 1 = .fn := rfl
@[go_sem] theorem tys_2 : tys 2 = .int .i64 := rfl
@[go_sem] theorem tys_3 : tys 3 = .int .i64 := rfl
@[go_sem] theorem tys_4 : tys 4 = .bool := rfl
@[go_sem] theorem tys_5 : tys 5 = .int .u8 := rfl
@[go_sem] theorem tys_6 : tys 6 = .int .u8 := rfl
@[go_sem] theorem tys_7 : tys 7 = .struct [.v (.int .i64 0), .v (.int .i64 0), .v (.bool false), .v (.int .u8 0)] := rfl
@[go_sem] theorem tys_8 : tys 8 = .struct [.v (.int .i64 0), .v (.int .i64 0), .v (.bool false), .v (.int .u8 0)] := rfl
@[go_sem] theorem tys_9 : tys 9 = .str := rfl
@[go_sem] theorem tys_10 : tys 10 = .str := rfl
@[go_sem] theorem tys_11 : tys 11 = .str := rfl
@[go_sem] theorem tys_12 : tys 12 = .int .u64 := rfl
@[go_sem] theorem tys_13 : tys 13 = .struct [.v (.string ⟨#[]⟩), .v (.int .u64 0)] := rfl
@[go_sem] theorem tys_14 : tys 14 = .struct [.v (.string ⟨#[]⟩), .v (.int .u64 0)] := rfl
@[go_sem] theorem tys_15 : tys 15 = .ptr := rfl
@[go_sem] theorem tys_16 : tys 16 = .ptr := rfl
@[go_sem] theorem tys_17 : tys 17 = .ptr := rfl
@[go_sem] theorem tys_18 : tys 18 = .struct [.v (.pointer none)] := rfl
@[go_sem] theorem tys_19 : tys 19 = .struct [.v (.pointer none)] := rfl
@[go_sem] theorem tys_20 : tys 20 = .iface := rfl
@[go_sem] theorem tys_21 : tys 21 = .int .i32 := rfl
@[go_sem] theorem tys_22 : tys 22 = .struct [.v (.int .i64 0), .v (.int .i64 0)] := rfl
@[go_sem] theorem tys_23 : tys 23 = .struct [.v (.int .i64 0), .v (.int .i64 0)] := rfl
@[go_sem] theorem tys_24 : tys 24 = .slice 56 := rfl
@[go_sem] theorem tys_25 : tys 25 = .slice 9 := rfl
@[go_sem] theorem tys_26 : tys 26 = .slice 59 := rfl
@[go_sem] theorem tys_27 : tys 27 = .struct [.sl .nil [], .sl .nil [], .sl .nil []] := rfl
@[go_sem] theorem tys_28 : tys 28 = .struct [.sl .nil [], .sl .nil [], .sl .nil []] := rfl
@[go_sem] theorem tys_29 : tys 29 = .int .i64 := rfl
@[go_sem] theorem tys_31 : tys 31 = .fn := rfl
@[go_sem] theorem tys_32 : tys 32 = .fn := rfl
@[go_sem] theorem tys_33 : tys 33 = .fn := rfl
@[go_sem] theorem tys_34 : tys 34 = .fn := rfl
@[go_sem] theorem tys_35 : tys 35 = .dig := rfl
@[go_sem] theorem tys_36 : tys 36 = .dig := rfl
@[go_sem] theorem tys_38 : tys 38 = .fn := rfl
@[go_sem] theorem tys_39 : tys 39 = .fn := rfl
@[go_sem] theorem tys_40 : tys 40 = .fn := rfl
@[go_sem] theorem tys_42 : tys 42 = .fn := rfl
@[go_sem] theorem tys_43 : tys 43 = .fn := rfl
@[go_sem] theorem tys_44 : tys 44 = .fn := rfl
@[go_sem] theorem tys_45 : tys 45 = .fn := rfl
@[go_sem] theorem tys_46 : tys 46 = .fn := rfl
@[go_sem] theorem tys_47 : tys 47 = .fn := rfl
@[go_sem] theorem tys_48 : tys 48 = .fn := rfl
@[go_sem] theorem tys_49 : tys 49 = .fn := rfl
@[go_sem] theorem tys_50 : tys 50 = .fn := rfl
@[go_sem] theorem tys_52 : tys 52 = .fn := rfl
@[go_sem] theorem tys_53 : tys 53 = .fn := rfl
@[go_sem] theorem tys_54 : tys 54 = .fn := rfl
@[go_sem] theorem tys_55 : tys 55 = .struct [.v (.string ⟨#[]⟩), .v (.string ⟨#[]⟩)] := rfl
@[go_sem] theorem tys_56 : tys 56 = .struct [.v (.string ⟨#[]⟩), .v (.string ⟨#[]⟩)] := rfl
@[go_sem] theorem tys_57 : tys 57 = .int .u32 := rfl
@[go_sem] theorem tys_58 : tys 58 = .struct [.v (.int .u32 0), .dg Dg.zero] := rfl
@[go_sem] theorem tys_59 : tys 59 = .struct [.v (.int .u32 0), .dg Dg.zero] := rfl
@[go_sem] theorem tys_60 : tys 60 = .fn := rfl
@[go_sem] theorem tys_61 : tys 61 = .fn := rfl
@[go_sem] theorem tys_62 : tys 62 = .fn := rfl
@[go_sem] theorem tys_63 : tys 63 = .fn := rfl
@[go_sem] theorem tys_64 : tys 64 = .fn := rfl
@[go_sem] theorem tys_65 : tys 65 = .fn := rfl
@[go_sem] theorem tys_66 : tys 66 = .slice 5 := rfl
@[go_sem] theorem tys_67 : tys 67 = .int .u64 := rfl
@[go_sem] theorem tys_68 : tys 68 = .fn := rfl
@[go_sem] theorem tys_69 : tys 69 = .fn := rfl
@[go_sem] theorem tys_70 : tys 70 = .fn := rfl
@[go_sem] theorem tys_71 : tys 71 = .slice 3 := rfl
@[go_sem] theorem tys_72 : tys 72 = .fn := rfl
@[go_sem] theorem tys_73 : tys 73 = .fn := rfl
@[go_sem] theorem tys_74 : tys 74 = .fn := rfl
@[go_sem] theorem tys_75 : tys 75 = .fn := rfl
@[go_sem] theorem tys_76 : tys 76 = .fn := rfl
@[go_sem] theorem tys_77 : tys 77 = .fn := rfl
@[go_sem] theorem tys_78 : tys 78 = .fn := rfl
@[go_sem] theorem tys_79 : tys 79 = .fn := rfl
@[go_sem] theorem tys_80 : tys 80 = .fn := rfl
@[go_sem] theorem tys_81 : tys 81 = .fn := rfl
@[go_sem] theorem tys_82 : tys 82 = .fn := rfl
@[go_sem] theorem tys_83 : tys 83 = .int .u64 := rfl
@[go_sem] theorem tys_84 : tys 84 = .ptr := rfl
@[go_sem] theorem tys_85 : tys 85 = .fn := rfl
@[go_sem] theorem tys_86 : tys 86 = .fn := rfl
@[go_sem] theorem tys_87 : tys 87 = .fn := rfl
@[go_sem] theorem tys_88 : tys 88 = .fn := rfl
@[go_sem] theorem tys_89 : tys 89 = .fn := rfl
@[go_sem] theorem tys_90 : tys 90 = .fn := rfl
@[go_sem] theorem tys_91 : tys 91 = .fn := rfl
@[go_sem] theorem tys_92 : tys 92 = .fn := rfl
@[go_sem] theorem tys_93 : tys 93 = .fn := rfl
@[go_sem] theorem tys_94 : tys 94 = .iface := rfl
@[go_sem] theorem tys_95 : tys 95 = .iface := rfl
@[go_sem] theorem tys_96 : tys 96 = .fn := rfl
@[go_sem] theorem tys_97 : tys 97 = .ptr := rfl
@[go_sem] theorem tys_98 : tys 98 = .struct [.v (.string ⟨#[]⟩), .v (.int .i64 0), .v (.int .i64 0)] := rfl
@[go_sem] theorem tys_99 : tys 99 = .struct [.v (.string ⟨#[]⟩), .v (.int .i64 0), .v (.int .i64 0)] := rfl
@[go_sem] theorem tys_100 : tys 100 = .fn := rfl
@[go_sem] theorem tys_101 : tys 101 = .fn := rfl
@[go_sem] theorem tys_102 : tys 102 = .fn := rfl
@[go_sem] theorem tys_103 : tys 103 = .fn := rfl
@[go_sem] theorem tys_104 : tys 104 = .fn := rfl
@[go_sem] theorem tys_105 : tys 105 = .ptr := rfl
@[go_sem] theorem tys_106 : tys 106 = .fn := rfl
@[go_sem] theorem tys_107 : tys 107 = .fn := rfl
@[go_sem] theorem tys_108 : tys 108 = .fn := rfl
@[go_sem] theorem tys_109 : tys 109 = .fn := rfl
@[go_sem] theorem tys_110 : tys 110 = .fn := rfl
@[go_sem] theorem tys_111 : tys 111 = .fn := rfl
@[go_sem] theorem tys_112 : tys 112 = .fn := rfl
@[go_sem] theorem tys_113 : tys 113 = .fn := rfl
@[go_sem] theorem tys_114 : tys 114 = .fn := rfl
@[go_sem] theorem tys_115 : tys 115 = .fn := rfl
@[go_sem] theorem tys_116 : tys 116 = .fn := rfl
@[go_sem] theorem tys_117 : tys 117 = .fn := rfl
@[go_sem] theorem tys_118 : tys 118 = .fn := rfl
@[go_sem] theorem tys_119 : tys 119 = .fn := rfl
@[go_sem] theorem tys_120 : tys 120 = .fn := rfl
@[go_sem] theorem tys_121 : tys 121 = .fn := rfl
@[go_sem] theorem tys_122 : tys 122 = .fn := rfl
@[go_sem] theorem tys_123 : tys 123 = .fn := rfl
@[go_sem] theorem tys_124 : tys 124 = .struct [.v (.bool false), .v (.string ⟨#[]⟩), .v (.int .i64 0), .v (.int .i64 0)] := rfl
@[go_sem] theorem tys_125 : tys 125 = .struct [.v (.bool false), .v (.string ⟨#[]⟩), .v (.int .i64 0), .v (.int .i64 0)] := rfl
@[go_sem] theorem tys_126 : tys 126 = .fn := rfl
@[go_sem] theorem tys_127 : tys 127 = .fn := rfl
@[go_sem] theorem tys_128 : tys 128 = .ptr := rfl
@[go_sem] theorem tys_129 : tys 129 = .fn := rfl
@[go_sem] theorem tys_130 : tys 130 = .struct [.v (.int .i64 0), .v (.int .i64 0)] := rfl
@[go_sem] theorem tys_131 : tys 131 = .struct [.v (.int .i64 0), .v (.int .i64 0)] := rfl
@[go_sem] theorem tys_132 : tys 132 = .struct [.v (.bool false), .sl .nil []] := rfl
@[go_sem] theorem tys_133 : tys 133 = .struct [.v (.bool false), .sl .nil []] := rfl
@[go_sem] theorem tys_134 : tys 134 = .fn := rfl
@[go_sem] theorem tys_135 : tys 135 = .fn := rfl
@[go_sem] theorem tys_136 : tys 136 = .fn := rfl
@[go_sem] theorem tys_137 : tys 137 = .slice 57 := rfl
@[go_sem] theorem tys_138 : tys 138 = .struct [.sl .nil [], .sl .nil []] := rfl
@[go_sem] theorem tys_139 : tys 139 = .struct [.sl .nil [], .sl .nil []] := rfl
@[go_sem] theorem tys_140 : tys 140 = .fn := rfl
@[go_sem] theorem tys_141 : tys 141 = .ptr := rfl
@[go_sem] theorem tys_142 : tys 142 = .fn := rfl
@[go_sem] theorem tys_143 : tys 143 = .fn := rfl
@[go_sem] theorem tys_144 : tys 144 = .fn := rfl
@[go_sem] theorem tys_145 : tys 145 = .fn := rfl
@[go_sem] theorem tys_148 : tys 148 = .fn := rfl
@[go_sem] theorem tys_151 : tys 151 = .fn := rfl
@[go_sem] theorem tys_153 : tys 153 = .fn := rfl
@[go_sem] theorem tys_154 : tys 154 = .ptr := rfl
@[go_sem] theorem tys_156 : tys 156 = .fn := rfl
@[go_sem] theorem tys_157 : tys 157 = .ptr := rfl
@[go_sem] theorem tys_158 : tys 158 = .struct [.v (.pointer none), .v (.pointer none), .v (.pointer none), .v (.string ⟨#[]⟩)] := rfl
@[go_sem] theorem tys_159 : tys 159 = .struct [.v (.pointer none), .v (.pointer none), .v (.pointer none), .v (.string ⟨#[]⟩)] := rfl
@[go_sem] theorem tys_163 : tys 163 = .int .u8 := rfl
@[go_sem] theorem tys_164 : tys 164 = .int .u8 := rfl
@[go_sem] theorem tys_165 : tys 165 = .fn := rfl
@[go_sem] theorem tys_166 : tys 166 = .ptr := rfl
@[go_sem] theorem tys_167 : tys 167 = .int .i32 := rfl
@[go_sem] theorem tys_168 : tys 168 = .int .i32 := rfl
@[go_sem] theorem tys_169 : tys 169 = .struct [.v (.int .u64 0), .v (.int .u64 0), .v (.int .u32 0), .v (.int .u8 0), .v (.int .u8 0), .v (.int .u8 0), .v (.int .u8 0), .v .nilFunc, .v (.pointer none), .v (.int .i32 0), .v (.int .i32 0)] := rfl
@[go_sem] theorem tys_170 : tys 170 = .struct [.v (.int .u64 0), .v (.int .u64 0), .v (.int .u32 0), .v (.int .u8 0), .v (.int .u8 0), .v (.int .u8 0), .v (.int .u8 0), .v .nilFunc, .v (.pointer none), .v (.int .i32 0), .v (.int .i32 0)] := rfl
theorem tyOk_1 : TyOk Tryz.prog 1 (.fn) := tyOk_mk Tryz.underlying1 (⟨_, _, _, rfl⟩) (by kernel_rfl) (by kernel_rfl)
theorem tyOk_2 : TyOk Tryz.prog 2 (.int .i64) := tyOk_mk Tryz.underlying2 (rfl) (by kernel_rfl) (by kernel_rfl)
theorem tyOk_3 : TyOk Tryz.prog 3 (.int .i64) := tyOk_mk Tryz.underlying3 (rfl) (by kernel_rfl) (by kernel_rfl)
theorem tyOk_4 : TyOk Tryz.prog 4 (.bool) := tyOk_mk Tryz.underlying4 (rfl) (by kernel_rfl) (by kernel_rfl)
theorem tyOk_5 : TyOk Tryz.prog 5 (.int .u8) := tyOk_mk Tryz.underlying5 (rfl) (by kernel_rfl) (by kernel_rfl)
theorem tyOk_6 : TyOk Tryz.prog 6 (.int .u8) := tyOk_mk Tryz.underlying6 (rfl) (by kernel_rfl) (by kernel_rfl)
theorem tyOk_7 : TyOk Tryz.prog 7 (.struct [.v (.int .i64 0), .v (.int .i64 0), .v (.bool false), .v (.int .u8 0)]) := tyOk_mk Tryz.underlying7 (isDesc_struct (by kernel_rfl)) (by kernel_rfl) (by kernel_rfl)
theorem tyOk_8 : TyOk Tryz.prog 8 (.struct [.v (.int .i64 0), .v (.int .i64 0), .v (.bool false), .v (.int .u8 0)]) := tyOk_mk Tryz.underlying8 (isDesc_struct (by kernel_rfl)) (by kernel_rfl) (by kernel_rfl)
theorem tyOk_9 : TyOk Tryz.prog 9 (.str) := tyOk_mk Tryz.underlying9 (rfl) (by kernel_rfl) (by kernel_rfl)
theorem tyOk_10 : TyOk Tryz.prog 10 (.str) := tyOk_mk Tryz.underlying10 (rfl) (by kernel_rfl) (by kernel_rfl)
theorem tyOk_11 : TyOk Tryz.prog 11 (.str) := tyOk_mk Tryz.underlying11 (rfl) (by kernel_rfl) (by kernel_rfl)
theorem tyOk_12 : TyOk Tryz.prog 12 (.int .u64) := tyOk_mk Tryz.underlying12 (rfl) (by kernel_rfl) (by kernel_rfl)
theorem tyOk_13 : TyOk Tryz.prog 13 (.struct [.v (.string ⟨#[]⟩), .v (.int .u64 0)]) := tyOk_mk Tryz.underlying13 (isDesc_struct (by kernel_rfl)) (by kernel_rfl) (by kernel_rfl)
theorem tyOk_14 : TyOk Tryz.prog 14 (.struct [.v (.string ⟨#[]⟩), .v (.int .u64 0)]) := tyOk_mk Tryz.underlying14 (isDesc_struct (by kernel_rfl)) (by kernel_rfl) (by kernel_rfl)
theorem tyOk_15 : TyOk Tryz.prog 15 (.ptr) := tyOk_mk Tryz.underlying15 (⟨_, rfl⟩) (by kernel_rfl) (by kernel_rfl)
theorem tyOk_16 : TyOk Tryz.prog 16 (.ptr) := tyOk_mk Tryz.underlying16 (⟨_, rfl⟩) (by kernel_rfl) (by kernel_rfl)
theorem tyOk_17 : TyOk Tryz.prog 17 (.ptr) := tyOk_mk Tryz.underlying17 (⟨_, rfl⟩) (by kernel_rfl) (by kernel_rfl)
theorem tyOk_18 : TyOk Tryz.prog 18 (.struct [.v (.pointer none)]) := tyOk_mk Tryz.underlying18 (isDesc_struct (by kernel_rfl)) (by kernel_rfl) (by kernel_rfl)
theorem tyOk_19 : TyOk Tryz.prog 19 (.struct [.v (.pointer none)]) := tyOk_mk Tryz.underlying19 (isDesc_struct (by kernel_rfl)) (by kernel_rfl) (by kernel_rfl)
theorem tyOk_20 : TyOk Tryz.prog 20 (.iface) := tyOk_mk Tryz.underlying20 (⟨_, rfl⟩) (by kernel_rfl) (by kernel_rfl)
theorem tyOk_21 : TyOk Tryz.prog 21 (.int .i32) := tyOk_mk Tryz.underlying21 (rfl) (by kernel_rfl) (by kernel_rfl)
theorem tyOk_22 : TyOk Tryz.prog 22 (.struct [.v (.int .i64 0), .v (.int .i64 0)]) := tyOk_mk Tryz.underlying22 (isDesc_struct (by kernel_rfl)) (by kernel_rfl) (by kernel_rfl)
theorem tyOk_23 : TyOk Tryz.prog 23 (.struct [.v (.int .i64 0), .v (.int .i64 0)]) := tyOk_mk Tryz.underlying23 (isDesc_struct (by kernel_rfl)) (by kernel_rfl) (by kernel_rfl)
theorem tyOk_24 : TyOk Tryz.prog 24 (.slice 56) := tyOk_mk Tryz.underlying24 (rfl) (by kernel_rfl) (by kernel_rfl)
theorem tyOk_25 : TyOk Tryz.prog 25 (.slice 9) := tyOk_mk Tryz.underlying25 (rfl) (by kernel_rfl) (by kernel_rfl)
theorem tyOk_26 : TyOk Tryz.prog 26 (.slice 59) := tyOk_mk Tryz.underlying26 (rfl) (by kernel_rfl) (by kernel_rfl)
theorem tyOk_27 : TyOk Tryz.prog 27 (.struct [.sl .nil [], .sl .nil [], .sl .nil []]) := tyOk_mk Tryz.underlying27 (isDesc_struct (by kernel_rfl)) (by kernel_rfl) (by kernel_rfl)
theorem tyOk_28 : TyOk Tryz.prog 28 (.struct [.sl .nil [], .sl .nil [], .sl .nil []]) := tyOk_mk Tryz.underlying28 (isDesc_struct (by kernel_rfl)) (by kernel_rfl) (by kernel_rfl)
theorem tyOk_29 : TyOk Tryz.prog 29 (.int .i64) := tyOk_mk Tryz.underlying29 (rfl) (by kernel_rfl) (by kernel_rfl)
theorem tyOk_31 : TyOk Tryz.prog 31 (.fn) := tyOk_mk Tryz.underlying31 (⟨_, _, _, rfl⟩) (by kernel_rfl) (by kernel_rfl)
theorem tyOk_32 : TyOk Tryz.prog 32 (.fn) := tyOk_mk Tryz.underlying32 (⟨_, _, _, rfl⟩) (by kernel_rfl) (by kernel_rfl)
theorem tyOk_33 : TyOk Tryz.prog 33 (.fn) := tyOk_mk Tryz.underlying33 (⟨_, _, _, rfl⟩) (by kernel_rfl) (by kernel_rfl)
theorem tyOk_34 : TyOk Tryz.prog 34 (.fn) := tyOk_mk Tryz.underlying34 (⟨_, _, _, rfl⟩) (by kernel_rfl) (by kernel_rfl)
theorem tyOk_35 : TyOk Tryz.prog 35 (.dig) := tyOk_mk Tryz.underlying35 (isDesc_dig Tryz.underlying5 (by kernel_rfl)) (by kernel_rfl) (by kernel_rfl)
theorem tyOk_36 : TyOk Tryz.prog 36 (.dig) := tyOk_mk Tryz.underlying36 (isDesc_dig Tryz.underlying5 (by kernel_rfl)) (by kernel_rfl) (by kernel_rfl)
theorem tyOk_38 : TyOk Tryz.prog 38 (.fn) := tyOk_mk Tryz.underlying38 (⟨_, _, _, rfl⟩) (by kernel_rfl) (by kernel_rfl)
theorem tyOk_39 : TyOk Tryz.prog 39 (.fn) := tyOk_mk Tryz.underlying39 (⟨_, _, _, rfl⟩) (by kernel_rfl) (by kernel_rfl)
theorem tyOk_40 : TyOk Tryz.prog 40 (.fn) := tyOk_mk Tryz.underlying40 (⟨_, _, _, rfl⟩) (by kernel_rfl) (by kernel_rfl)
theorem tyOk_42 : TyOk Tryz.prog 42 (.fn) := tyOk_mk Tryz.underlying42 (⟨_, _, _, rfl⟩) (by kernel_rfl) (by kernel_rfl)
theorem tyOk_43 : TyOk Tryz.prog 43 (.fn) := tyOk_mk Tryz.underlying43 (⟨_, _, _, rfl⟩) (by kernel_rfl) (by kernel_rfl)
theorem tyOk_44 : TyOk Tryz.prog 44 (.fn) := tyOk_mk Tryz.underlying44 (⟨_, _, _, rfl⟩) (by kernel_rfl) (by kernel_rfl)
theorem tyOk_45 : TyOk Tryz.prog 45 (.fn) := tyOk_mk Tryz.underlying45 (⟨_, _, _, rfl⟩) (by kernel_rfl) (by kernel_rfl)
theorem tyOk_46 : TyOk Tryz.prog 46 (.fn) := tyOk_mk Tryz.underlying46 (⟨_, _, _, rfl⟩) (by kernel_rfl) (by kernel_rfl)
theorem tyOk_47 : TyOk Tryz.prog 47 (.fn) := tyOk_mk Tryz.underlying47 (⟨_, _, _, rfl⟩) (by kernel_rfl) (by kernel_rfl)
theorem tyOk_48 : TyOk Tryz.prog 48 (.fn) := tyOk_mk Tryz.underlying48 (⟨_, _, _, rfl⟩) (by kernel_rfl) (by kernel_rfl)
theorem tyOk_49 : TyOk Tryz.prog 49 (.fn) := tyOk_mk Tryz.underlying49 (⟨_, _, _, rfl⟩) (by kernel_rfl) (by kernel_rfl)
theorem tyOk_50 : TyOk Tryz.prog 50 (.fn) := tyOk_mk Tryz.underlying50 (⟨_, _, _, rfl⟩) (by kernel_rfl) (by kernel_rfl)
theorem tyOk_52 : TyOk Tryz.prog 52 (.fn) := tyOk_mk Tryz.underlying52 (⟨_, _, _, rfl⟩) (by kernel_rfl) (by kernel_rfl)
theorem tyOk_53 : TyOk Tryz.prog 53 (.fn) := tyOk_mk Tryz.underlying53 (⟨_, _, _, rfl⟩) (by kernel_rfl) (by kernel_rfl)
theorem tyOk_54 : TyOk Tryz.prog 54 (.fn) := tyOk_mk Tryz.underlying54 (⟨_, _, _, rfl⟩) (by kernel_rfl) (by kernel_rfl)
theorem tyOk_55 : TyOk Tryz.prog 55 (.struct [.v (.string ⟨#[]⟩), .v (.string ⟨#[]⟩)]) := tyOk_mk Tryz.underlying55 (isDesc_struct (by kernel_rfl)) (by kernel_rfl) (by kernel_rfl)
theorem tyOk_56 : TyOk Tryz.prog 56 (.struct [.v (.string ⟨#[]⟩), .v (.string ⟨#[]⟩)]) := tyOk_mk Tryz.underlying56 (isDesc_struct (by kernel_rfl)) (by kernel_rfl) (by kernel_rfl)
theorem tyOk_57 : TyOk Tryz.prog 57 (.int .u32) := tyOk_mk Tryz.underlying57 (rfl) (by kernel_rfl) (by kernel_rfl)
theorem tyOk_58 : TyOk Tryz.prog 58 (.struct [.v (.int .u32 0), .dg Dg.zero]) := tyOk_mk Tryz.underlying58 (isDesc_struct (by kernel_rfl)) (by kernel_rfl) (by kernel_rfl)
theorem tyOk_59 : TyOk Tryz.prog 59 (.struct [.v (.int .u32 0), .dg Dg.zero]) := tyOk_mk Tryz.underlying59 (isDesc_struct (by kernel_rfl)) (by kernel_rfl) (by kernel_rfl)
theorem tyOk_60 : TyOk Tryz.prog 60 (.fn) := tyOk_mk Tryz.underlying60 (⟨_, _, _, rfl⟩) (by kernel_rfl) (by kernel_rfl)
theorem tyOk_61 : TyOk Tryz.prog 61 (.fn) := tyOk_mk Tryz.underlying61 (⟨_, _, _, rfl⟩) (by kernel_rfl) (by kernel_rfl)
theorem tyOk_62 : TyOk Tryz.prog 62 (.fn) := tyOk_mk Tryz.underlying62 (⟨_, _, _, rfl⟩) (by kernel_rfl) (by kernel_rfl)
theorem tyOk_63 : TyOk Tryz.prog 63 (.fn) := tyOk_mk Tryz.underlying63 (⟨_, _, _, rfl⟩) (by kernel_rfl) (by kernel_rfl)
theorem tyOk_64 : TyOk Tryz.prog 64 (.fn) := tyOk_mk Tryz.underlying64 (⟨_, _, _, rfl⟩) (by kernel_rfl) (by kernel_rfl)
theorem tyOk_65 : TyOk Tryz.prog 65 (.fn) := tyOk_mk Tryz.underlying65 (⟨_, _, _, rfl⟩) (by kernel_rfl) (by kernel_rfl)
theorem tyOk_66 : TyOk Tryz.prog 66 (.slice 5) := tyOk_mk Tryz.underlying66 (rfl) (by kernel_rfl) (by kernel_rfl)
theorem tyOk_67 : TyOk Tryz.prog 67 (.int .u64) := tyOk_mk Tryz.underlying67 (rfl) (by kernel_rfl) (by kernel_rfl)
theorem tyOk_68 : TyOk Tryz.prog 68 (.fn) := tyOk_mk Tryz.underlying68 (⟨_, _, _, rfl⟩) (by kernel_rfl) (by kernel_rfl)
theorem tyOk_69 : TyOk Tryz.prog 69 (.fn) := tyOk_mk Tryz.underlying69 (⟨_, _, _, rfl⟩) (by kernel_rfl) (by kernel_rfl)
theorem tyOk_70 : TyOk Tryz.prog 70 (.fn) := tyOk_mk Tryz.underlying70 (⟨_, _, _, rfl⟩) (by kernel_rfl) (by kernel_rfl)
theorem tyOk_71 : TyOk Tryz.prog 71 (.slice 3) := tyOk_mk Tryz.underlying71 (rfl) (by kernel_rfl) (by kernel_rfl)
theorem tyOk_72 : TyOk Tryz.prog 72 (.fn) := tyOk_mk Tryz.underlying72 (⟨_, _, _, rfl⟩) (by kernel_rfl) (by kernel_rfl)
theorem tyOk_73 : TyOk Tryz.prog 73 (.fn) := tyOk_mk Tryz.underlying73 (⟨_, _, _, rfl⟩) (by kernel_rfl) (by kernel_rfl)
theorem tyOk_74 : TyOk Tryz.prog 74 (.fn) := tyOk_mk Tryz.underlying74 (⟨_, _, _, rfl⟩) (by kernel_rfl) (by kernel_rfl)
theorem tyOk_75 : TyOk Tryz.prog 75 (.fn) := tyOk_mk Tryz.underlying75 (⟨_, _, _, rfl⟩) (by kernel_rfl) (by kernel_rfl)
theorem tyOk_76 : TyOk Tryz.prog 76 (.fn) := tyOk_mk Tryz.underlying76 (⟨_, _, _, rfl⟩) (by kernel_rfl) (by kernel_rfl)
theorem tyOk_77 : TyOk Tryz.prog 77 (.fn) := tyOk_mk Tryz.underlying77 (⟨_, _, _, rfl⟩) (by kernel_rfl) (by kernel_rfl)
theorem tyOk_78 : TyOk Tryz.prog 78 (.fn) := tyOk_mk Tryz.underlying78 (⟨_, _, _, rfl⟩) (by kernel_rfl) (by kernel_rfl)
theorem tyOk_79 : TyOk Tryz.prog 79 (.fn) := tyOk_mk Tryz.underlying79 (⟨_, _, _, rfl⟩) (by kernel_rfl) (by kernel_rfl)
theorem tyOk_80 : TyOk Tryz.prog 80 (.fn) := tyOk_mk Tryz.underlying80 (⟨_, _, _, rfl⟩) (by kernel_rfl) (by kernel_rfl)
theorem tyOk_81 : TyOk Tryz.prog 81 (.fn) := tyOk_mk Tryz.underlying81 (⟨_, _, _, rfl⟩) (by kernel_rfl) (by kernel_rfl)
theorem tyOk_82 : TyOk Tryz.prog 82 (.fn) := tyOk_mk Tryz.underlying82 (⟨_, _, _, rfl⟩) (by kernel_rfl) (by kernel_rfl)
theorem tyOk_83 : TyOk Tryz.prog 83 (.int .u64) := tyOk_mk Tryz.underlying83 (rfl) (by kernel_rfl) (by kernel_rfl)
theorem tyOk_84 : TyOk Tryz.prog 84 (.ptr) := tyOk_mk Tryz.underlying84 (⟨_, rfl⟩) (by kernel_rfl) (by kernel_rfl)
theorem tyOk_85 : TyOk Tryz.prog 85 (.fn) := tyOk_mk Tryz.underlying85 (⟨_, _, _, rfl⟩) (by kernel_rfl) (by kernel_rfl)
theorem tyOk_86 : TyOk Tryz.prog 86 (.fn) := tyOk_mk Tryz.underlying86 (⟨_, _, _, rfl⟩) (by kernel_rfl) (by kernel_rfl)
theorem tyOk_87 : TyOk Tryz.prog 87 (.fn) := tyOk_mk Tryz.underlying87 (⟨_, _, _, rfl⟩) (by kernel_rfl) (by kernel_rfl)
theorem tyOk_88 : TyOk Tryz.prog 88 (.fn) := tyOk_mk Tryz.underlying88 (⟨_, _, _, rfl⟩) (by kernel_rfl) (by kernel_rfl)
theorem tyOk_89 : TyOk Tryz.prog 89 (.fn) := tyOk_mk Tryz.underlying89 (⟨_, _, _, rfl⟩) (by kernel_rfl) (by kernel_rfl)
theorem tyOk_90 : TyOk Tryz.prog 90 (.fn) := tyOk_mk Tryz.underlying90 (⟨_, _, _, rfl⟩) (by kernel_rfl) (by kernel_rfl)
theorem tyOk_91 : TyOk Tryz.prog 91 (.fn) := tyOk_mk Tryz.underlying91 (⟨_, _, _, rfl⟩) (by kernel_rfl) (by kernel_rfl)
theorem tyOk_92 : TyOk Tryz.prog 92 (.fn) := tyOk_mk Tryz.underlying92 (⟨_, _, _, rfl⟩) (by kernel_rfl) (by kernel_rfl)
theorem tyOk_93 : TyOk Tryz.prog 93 (.fn) := tyOk_mk Tryz.underlying93 (⟨_, _, _, rfl⟩) (by kernel_rfl) (by kernel_rfl)
theorem tyOk_94 : TyOk Tryz.prog 94 (.iface) := tyOk_mk Tryz.underlying94 (⟨_, rfl⟩) (by kernel_rfl) (by kernel_rfl)
theorem tyOk_95 : TyOk Tryz.prog 95 (.iface) := tyOk_mk Tryz.underlying95 (⟨_, rfl⟩) (by kernel_rfl) (by kernel_rfl)
theorem tyOk_96 : TyOk Tryz.prog 96 (.fn) := tyOk_mk Tryz.underlying96 (⟨_, _, _, rfl⟩) (by kernel_rfl) (by kernel_rfl)
theorem tyOk_97 : TyOk Tryz.prog 97 (.ptr) := tyOk_mk Tryz.underlying97 (⟨_, rfl⟩) (by kernel_rfl) (by kernel_rfl)
theorem tyOk_98 : TyOk Tryz.prog 98 (.struct [.v (.string ⟨#[]⟩), .v (.int .i64 0), .v (.int .i64 0)]) := tyOk_mk Tryz.underlying98 (isDesc_struct (by kernel_rfl)) (by kernel_rfl) (by kernel_rfl)
theorem tyOk_99 : TyOk Tryz.prog 99 (.struct [.v (.string ⟨#[]⟩), .v (.int .i64 0), .v (.int .i64 0)]) := tyOk_mk Tryz.underlying99 (isDesc_struct (by kernel_rfl)) (by kernel_rfl) (by kernel_rfl)
theorem tyOk_100 : TyOk Tryz.prog 100 (.fn) := tyOk_mk Tryz.underlying100 (⟨_, _, _, rfl⟩) (by kernel_rfl) (by kernel_rfl)
theorem tyOk_101 : TyOk Tryz.prog 101 (.fn) := tyOk_mk Tryz.underlying101 (⟨_, _, _, rfl⟩) (by kernel_rfl) (by kernel_rfl)
theorem tyOk_102 : TyOk Tryz.prog 102 (.fn) := tyOk_mk Tryz.underlying102 (⟨_, _, _, rfl⟩) (by kernel_rfl) (by kernel_rfl)
theorem tyOk_103 : TyOk Tryz.prog 103 (.fn) := tyOk_mk Tryz.underlying103 (⟨_, _, _, rfl⟩) (by kernel_rfl) (by kernel_rfl)
theorem tyOk_104 : TyOk Tryz.prog 104 (.fn) := tyOk_mk Tryz.underlying104 (⟨_, _, _, rfl⟩) (by kernel_rfl) (by kernel_rfl)
theorem tyOk_105 : TyOk Tryz.prog 105 (.ptr) := tyOk_mk Tryz.underlying105 (⟨_, rfl⟩) (by kernel_rfl) (by kernel_rfl)
theorem tyOk_106 : TyOk Tryz.prog 106 (.fn) := tyOk_mk Tryz.underlying106 (⟨_, _, _, rfl⟩) (by kernel_rfl) (by kernel_rfl)
theorem tyOk_107 : TyOk Tryz.prog 107 (.fn) := tyOk_mk Tryz.underlying107 (⟨_, _, _, rfl⟩) (by kernel_rfl) (by kernel_rfl)
theorem tyOk_108 : TyOk Tryz.prog 108 (.fn) := tyOk_mk Tryz.underlying108 (⟨_, _, _, rfl⟩) (by kernel_rfl) (by kernel_rfl)
theorem tyOk_109 : TyOk Tryz.prog 109 (.fn) := tyOk_mk Tryz.underlying109 (⟨_, _, _, rfl⟩) (by kernel_rfl) (by kernel_rfl)
theorem tyOk_110 : TyOk Tryz.prog 110 (.fn) := tyOk_mk Tryz.underlying110 (⟨_, _, _, rfl⟩) (by kernel_rfl) (by kernel_rfl)
theorem tyOk_111 : TyOk Tryz.prog 111 (.fn) := tyOk_mk Tryz.underlying111 (⟨_, _, _, rfl⟩) (by kernel_rfl) (by kernel_rfl)
theorem tyOk_112 : TyOk Tryz.prog 112 (.fn) := tyOk_mk Tryz.underlying112 (⟨_, _, _, rfl⟩) (by kernel_rfl) (by kernel_rfl)
theorem tyOk_113 : TyOk Tryz.prog 113 (.fn) := tyOk_mk Tryz.underlying113 (⟨_, _, _, rfl⟩) (by kernel_rfl) (by kernel_rfl)
theorem tyOk_114 : TyOk Tryz.prog 114 (.fn) := tyOk_mk Tryz.underlying114 (⟨_, _, _, rfl⟩) (by kernel_rfl) (by kernel_rfl)
theorem tyOk_115 : TyOk Tryz.prog 115 (.fn) := tyOk_mk Tryz.underlying115 (⟨_, _, _, rfl⟩) (by kernel_rfl) (by kernel_rfl)
theorem tyOk_116 : TyOk Tryz.prog 116 (.fn) := tyOk_mk Tryz.underlying116 (⟨_, _, _, rfl⟩) (by kernel_rfl) (by kernel_rfl)
theorem tyOk_117 : TyOk Tryz.prog 117 (.fn) := tyOk_mk Tryz.underlying117 (⟨_, _, _, rfl⟩) (by kernel_rfl) (by kernel_rfl)
theorem tyOk_118 : TyOk Tryz.prog 118 (.fn) := tyOk_mk Tryz.underlying118 (⟨_, _, _, rfl⟩) (by kernel_rfl) (by kernel_rfl)
theorem tyOk_119 : TyOk Tryz.prog 119 (.fn) := tyOk_mk Tryz.underlying119 (⟨_, _, _, rfl⟩) (by kernel_rfl) (by kernel_rfl)
theorem tyOk_120 : TyOk Tryz.prog 120 (.fn) := tyOk_mk Tryz.underlying120 (⟨_, _, _, rfl⟩) (by kernel_rfl) (by kernel_rfl)
theorem tyOk_121 : TyOk Tryz.prog 121 (.fn) := tyOk_mk Tryz.underlying121 (⟨_, _, _, rfl⟩) (by kernel_rfl) (by kernel_rfl)
theorem tyOk_122 : TyOk Tryz.prog 122 (.fn) := tyOk_mk Tryz.underlying122 (⟨_, _, _, rfl⟩) (by kernel_rfl) (by kernel_rfl)
theorem tyOk_123 : TyOk Tryz.prog 123 (.fn) := tyOk_mk Tryz.underlying123 (⟨_, _, _, rfl⟩) (by kernel_rfl) (by kernel_rfl)
theorem tyOk_124 : TyOk Tryz.prog 124 (.struct [.v (.bool false), .v (.string ⟨#[]⟩), .v (.int .i64 0), .v (.int .i64 0)]) := tyOk_mk Tryz.underlying124 (isDesc_struct (by kernel_rfl)) (by kernel_rfl) (by kernel_rfl)
theorem tyOk_125 : TyOk Tryz.prog 125 (.struct [.v (.bool false), .v (.string ⟨#[]⟩), .v (.int .i64 0), .v (.int .i64 0)]) := tyOk_mk Tryz.underlying125 (isDesc_struct (by kernel_rfl)) (by kernel_rfl) (by kernel_rfl)
theorem tyOk_126 : TyOk Tryz.prog 126 (.fn) := tyOk_mk Tryz.underlying126 (⟨_, _, _, rfl⟩) (by kernel_rfl) (by kernel_rfl)
theorem tyOk_127 : TyOk Tryz.prog 127 (.fn) := tyOk_mk Tryz.underlying127 (⟨_, _, _, rfl⟩) (by kernel_rfl) (by kernel_rfl)
theorem tyOk_128 : TyOk Tryz.prog 128 (.ptr) := tyOk_mk Tryz.underlying128 (⟨_, rfl⟩) (by kernel_rfl) (by kernel_rfl)
theorem tyOk_129 : TyOk Tryz.prog 129 (.fn) := tyOk_mk Tryz.underlying129 (⟨_, _, _, rfl⟩) (by kernel_rfl) (by kernel_rfl)
theorem tyOk_130 : TyOk Tryz.prog 130 (.struct [.v (.int .i64 0), .v (.int .i64 0)]) := tyOk_mk Tryz.underlying130 (isDesc_struct (by kernel_rfl)) (by kernel_rfl) (by kernel_rfl)
theorem tyOk_131 : TyOk Tryz.prog 131 (.struct [.v (.int .i64 0), .v (.int .i64 0)]) := tyOk_mk Tryz.underlying131 (isDesc_struct (by kernel_rfl)) (by kernel_rfl) (by kernel_rfl)
theorem tyOk_132 : TyOk Tryz.prog 132 (.struct [.v (.bool false), .sl .nil []]) := tyOk_mk Tryz.underlying132 (isDesc_struct (by kernel_rfl)) (by kernel_rfl) (by kernel_rfl)
theorem tyOk_133 : TyOk Tryz.prog 133 (.struct [.v (.bool false), .sl .nil []]) := tyOk_mk Tryz.underlying133 (isDesc_struct (by kernel_rfl)) (by kernel_rfl) (by kernel_rfl)
theorem tyOk_134 : TyOk Tryz.prog 134 (.fn) := tyOk_mk Tryz.underlying134 (⟨_, _, _, rfl⟩) (by kernel_rfl) (by kernel_rfl)
theorem tyOk_135 : TyOk Tryz.prog 135 (.fn) := tyOk_mk Tryz.underlying135 (⟨_, _, _, rfl⟩) (by kernel_rfl) (by kernel_rfl)
theorem tyOk_136 : TyOk Tryz.prog 136 (.fn) := tyOk_mk Tryz.underlying136 (⟨_, _, _, rfl⟩) (by kernel_rfl) (by kernel_rfl)
theorem tyOk_137 : TyOk Tryz.prog 137 (.slice 57) := tyOk_mk Tryz.underlying137 (rfl) (by kernel_rfl) (by kernel_rfl)
theorem tyOk_138 : TyOk Tryz.prog 138 (.struct [.sl .nil [], .sl .nil []]) := tyOk_mk Tryz.underlying138 (isDesc_struct (by kernel_rfl)) (by kernel_rfl) (by kernel_rfl)
theorem tyOk_139 : TyOk Tryz.prog 139 (.struct [.sl .nil [], .sl .nil []]) := tyOk_mk Tryz.underlying139 (isDesc_struct (by kernel_rfl)) (by kernel_rfl) (by kernel_rfl)
theorem tyOk_140 : TyOk Tryz.prog 140 (.fn) := tyOk_mk Tryz.underlying140 (⟨_, _, _, rfl⟩) (by kernel_rfl) (by kernel_rfl)
theorem tyOk_141 : TyOk Tryz.prog 141 (.ptr) := tyOk_mk Tryz.underlying141 (⟨_, rfl⟩) (by kernel_rfl) (by kernel_rfl)
theorem tyOk_142 : TyOk Tryz.prog 142 (.fn) := tyOk_mk Tryz.underlying142 (⟨_, _, _, rfl⟩) (by kernel_rfl) (by kernel_rfl)
theorem tyOk_143 : TyOk Tryz.prog 143 (.fn) := tyOk_mk Tryz.underlying143 (⟨_, _, _, rfl⟩) (by kernel_rfl) (by kernel_rfl)
theorem tyOk_144 : TyOk Tryz.prog 144 (.fn) := tyOk_mk Tryz.underlying144 (⟨_, _, _, rfl⟩) (by kernel_rfl) (by kernel_rfl)
theorem tyOk_145 : TyOk Tryz.prog 145 (.fn) := tyOk_mk Tryz.underlying145 (⟨_, _, _, rfl⟩) (by kernel_rfl) (by kernel_rfl)
theorem tyOk_148 : TyOk Tryz.prog 148 (.fn) := tyOk_mk Tryz.underlying148 (⟨_, _, _, rfl⟩) (by kernel_rfl) (by kernel_rfl)
theorem tyOk_151 : TyOk Tryz.prog 151 (.fn) := tyOk_mk Tryz.underlying151 (⟨_, _, _, rfl⟩) (by kernel_rfl) (by kernel_rfl)
theorem tyOk_153 : TyOk Tryz.prog 153 (.fn) := tyOk_mk Tryz.underlying153 (⟨_, _, _, rfl⟩) (by kernel_rfl) (by kernel_rfl)
theorem tyOk_154 : TyOk Tryz.prog 154 (.ptr) := tyOk_mk Tryz.underlying154 (⟨_, rfl⟩) (by kernel_rfl) (by kernel_rfl)
theorem tyOk_156 : TyOk Tryz.prog 156 (.fn) := tyOk_mk Tryz.underlying156 (⟨_, _, _, rfl⟩) (by kernel_rfl) (by kernel_rfl)
theorem tyOk_157 : TyOk Tryz.prog 157 (.ptr) := tyOk_mk Tryz.underlying157 (⟨_, rfl⟩) (by kernel_rfl) (by kernel_rfl)
theorem tyOk_158 : TyOk Tryz.prog 158 (.struct [.v (.pointer none), .v (.pointer none), .v (.pointer none), .v (.string ⟨#[]⟩)]) := tyOk_mk Tryz.underlying158 (isDesc_struct (by kernel_rfl)) (by kernel_rfl) (by kernel_rfl)
theorem tyOk_159 : TyOk Tryz.prog 159 (.struct [.v (.pointer none), .v (.pointer none), .v (.pointer none), .v (.string ⟨#[]⟩)]) := tyOk_mk Tryz.underlying159 (isDesc_struct (by kernel_rfl)) (by kernel_rfl) (by kernel_rfl)
theorem tyOk_163 : TyOk Tryz.prog 163 (.int .u8) := tyOk_mk Tryz.underlying163 (rfl) (by kernel_rfl) (by kernel_rfl)
theorem tyOk_164 : TyOk Tryz.prog 164 (.int .u8) := tyOk_mk Tryz.underlying164 (rfl) (by kernel_rfl) (by kernel_rfl)
theorem tyOk_165 : TyOk Tryz.prog 165 (.fn) := tyOk_mk Tryz.underlying165 (⟨_, _, _, rfl⟩) (by kernel_rfl) (by kernel_rfl)
theorem tyOk_166 : TyOk Tryz.prog 166 (.ptr) := tyOk_mk Tryz.underlying166 (⟨_, rfl⟩) (by kernel_rfl) (by kernel_rfl)
theorem tyOk_167 : TyOk Tryz.prog 167 (.int .i32) := tyOk_mk Tryz.underlying167 (rfl) (by kernel_rfl) (by kernel_rfl)
theorem tyOk_168 : TyOk Tryz.prog 168 (.int .i32) := tyOk_mk Tryz.underlying168 (rfl) (by kernel_rfl) (by kernel_rfl)
theorem tyOk_169 : TyOk Tryz.prog 169 (.struct [.v (.int .u64 0), .v (.int .u64 0), .v (.int .u32 0), .v (.int .u8 0), .v (.int .u8 0), .v (.int .u8 0), .v (.int .u8 0), .v .nilFunc, .v (.pointer none), .v (.int .i32 0), .v (.int .i32 0)]) := tyOk_mk Tryz.underlying169 (isDesc_struct (by kernel_rfl)) (by kernel_rfl) (by kernel_rfl)
theorem tyOk_170 : TyOk Tryz.prog 170 (.struct [.v (.int .u64 0), .v (.int .u64 0), .v (.int .u32 0), .v (.int .u8 0), .v (.int .u8 0), .v (.int .u8 0), .v (.int .u8 0), .v .nilFunc, .v (.pointer none), .v (.int .i32 0), .v (.int .i32 0)]) := tyOk_mk Tryz.underlying170 (isDesc_struct (by kernel_rfl)) (by kernel_rfl) (by kernel_rfl)

theorem tys_ok : TysOk Tryz.prog tys := by
  intro t ht
  unfold tys at ht ⊢
  split at ht <;> first | exact absurd rfl ht | skip
  · exact tyOk_1
  · exact tyOk_2
  · exact tyOk_3
  · exact tyOk_4
  · exact tyOk_5
  · exact tyOk_6
  · exact tyOk_7
  · exact tyOk_8
  · exact tyOk_9
  · exact tyOk_10
  · exact tyOk_11
  · exact tyOk_12
  · exact tyOk_13
  · exact tyOk_14
  · exact tyOk_15
  · exact tyOk_16
  · exact tyOk_17
  · exact tyOk_18
  · exact tyOk_19
  · exact tyOk_20
  · exact tyOk_21
  · exact tyOk_22
  · exact tyOk_23
  · exact tyOk_24
  · exact tyOk_25
  · exact tyOk_26
  · exact tyOk_27
  · exact tyOk_28
  · exact tyOk_29
  · exact tyOk_31
  · exact tyOk_32
  · exact tyOk_33
  · exact tyOk_34
  · exact tyOk_35
  · exact tyOk_36
  · exact tyOk_38
  · exact tyOk_39
  · exact tyOk_40
  · exact tyOk_42
  · exact tyOk_43
  · exact tyOk_44
  · exact tyOk_45
  · exact tyOk_46
  · exact tyOk_47
  · exact tyOk_48
  · exact tyOk_49
  · exact tyOk_50
  · exact tyOk_52
  · exact tyOk_53
  · exact tyOk_54
  · exact tyOk_55
  · exact tyOk_56
  · exact tyOk_57
  · exact tyOk_58
  · exact tyOk_59
  · exact tyOk_60
  · exact tyOk_61
  · exact tyOk_62
  · exact tyOk_63
  · exact tyOk_64
  · exact tyOk_65
  · exact tyOk_66
  · exact tyOk_67
  · exact tyOk_68
  · exact tyOk_69
  · exact tyOk_70
  · exact tyOk_71
  · exact tyOk_72
  · exact tyOk_73
  · exact tyOk_74
  · exact tyOk_75
  · exact tyOk_76
  · exact tyOk_77
  · exact tyOk_78
  · exact tyOk_79
  · exact tyOk_80
  · exact tyOk_81
  · exact tyOk_82
  · exact tyOk_83
  · exact tyOk_84
  · exact tyOk_85
  · exact tyOk_86
  · exact tyOk_87
  · exact tyOk_88
  · exact tyOk_89
  · exact tyOk_90
  · exact tyOk_91
  · exact tyOk_92
  · exact tyOk_93
  · exact tyOk_94
  · exact tyOk_95
  · exact tyOk_96
  · exact tyOk_97
  · exact tyOk_98
  · exact tyOk_99
  · exact tyOk_100
  · exact tyOk_101
  · exact tyOk_102
  · exact tyOk_103
  · exact tyOk_104
  · exact tyOk_105
  · exact tyOk_106
  · exact tyOk_107
  · exact tyOk_108
  · exact tyOk_109
  · exact tyOk_110
  · exact tyOk_111
  · exact tyOk_112
  · exact tyOk_113
  · exact tyOk_114
  · exact tyOk_115
  · exact tyOk_116
  · exact tyOk_117
  · exact tyOk_118
  · exact tyOk_119
  · exact tyOk_120
  · exact tyOk_121
  · exact tyOk_122
  · exact tyOk_123
  · exact tyOk_124
  · exact tyOk_125
  · exact tyOk_126
  · exact tyOk_127
  · exact tyOk_128
  · exact tyOk_129
  · exact tyOk_130
  · exact tyOk_131
  · exact tyOk_132
  · exact tyOk_133
  · exact tyOk_134
  · exact tyOk_135
  · exact tyOk_136
  · exact tyOk_137
  · exact tyOk_138
  · exact tyOk_139
  · exact tyOk_140
  · exact tyOk_141
  · exact tyOk_142
  · exact tyOk_143
  · exact tyOk_144
  · exact tyOk_145
  · exact tyOk_148
  · exact tyOk_151
  · exact tyOk_153
  · exact tyOk_154
  · exact tyOk_156
  · exact tyOk_157
  · exact tyOk_158
  · exact tyOk_159
  · exact tyOk_163
  · exact tyOk_164
  · exact tyOk_165
  · exact tyOk_166
  · exact tyOk_167
  · exact tyOk_168
  · exact tyOk_169
  · exact tyOk_170

theorem prg : Prg Tryz.prog tys := ⟨tys_ok, fun t ht => by
  unfold tys at ht
  split at ht <;> first | (cases ht; done) | kernel_rfl, by kernel_rfl⟩

end Go.Proofs.YtemicgccgcmmbaaGreat
