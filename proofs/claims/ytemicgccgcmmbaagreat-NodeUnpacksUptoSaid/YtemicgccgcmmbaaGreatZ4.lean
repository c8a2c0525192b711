/- The types of this seat. -/
import Derived.Test.YtemicgccgcmmbaaGreatZ3
import Derived.Test.YtemicgccgcmmbaaGreatZ1
namespace Go.Proofs.YtemicgccgcmmbaaGreat
set_option linter.unusedVariables false
set_option linter.unusedSimpArgs false
open Go Go.RowKit

/-- What is known of each type. -/
def tys : TypeId → Ty
  | 1 => .fn
  | 2 => .int .i64
  | 3 => .int .i64
  | 4 => .bool
  | 5 => .int .u8
  | 6 => .int .u8
  | 7 => .struct [.v (.int .i64 0), .v (.int .i64 0), .v (.bool false), .v (.int .u8 0)]
  | 8 => .struct [.v (.int .i64 0), .v (.int .i64 0), .v (.bool false), .v (.int .u8 0)]
  | 9 => .str
  | 10 => .str
  | 11 => .str
  | 12 => .int .u64
  | 13 => .struct [.v (.string ⟨#[]⟩), .v (.int .u64 0)]
  | 14 => .struct [.v (.string ⟨#[]⟩), .v (.int .u64 0)]
  | 15 => .ptr
  | 16 => .ptr
  | 17 => .ptr
  | 18 => .struct [.v (.pointer none)]
  | 19 => .struct [.v (.pointer none)]
  | 20 => .iface
  | 21 => .int .i32
  | 22 => .struct [.v (.int .i64 0), .v (.int .i64 0)]
  | 23 => .struct [.v (.int .i64 0), .v (.int .i64 0)]
  | 24 => .slice 56
  | 25 => .slice 9
  | 26 => .slice 59
  | 27 => .struct [.sl .nil [], .sl .nil [], .sl .nil []]
  | 28 => .struct [.sl .nil [], .sl .nil [], .sl .nil []]
  | 29 => .int .i64
  | 31 => .fn
  | 32 => .fn
  | 33 => .fn
  | 34 => .fn
  | 35 => .dig
  | 36 => .dig
  | 38 => .fn
  | 39 => .fn
  | 40 => .fn
  | 42 => .fn
  | 43 => .fn
  | 44 => .fn
  | 45 => .fn
  | 46 => .fn
  | 47 => .fn
  | 48 => .fn
  | 49 => .fn
  | 50 => .fn
  | 52 => .fn
  | 53 => .fn
  | 54 => .fn
  | 55 => .struct [.v (.string ⟨#[]⟩), .v (.string ⟨#[]⟩)]
  | 56 => .struct [.v (.string ⟨#[]⟩), .v (.string ⟨#[]⟩)]
  | 57 => .int .u32
  | 58 => .struct [.v (.int .u32 0), .dg Dg.zero]
  | 59 => .struct [.v (.int .u32 0), .dg Dg.zero]
  | 60 => .fn
  | 61 => .fn
  | 62 => .fn
  | 63 => .fn
  | 64 => .fn
  | 65 => .fn
  | 66 => .slice 5
  | 67 => .int .u64
  | 68 => .fn
  | 69 => .fn
  | 70 => .fn
  | 71 => .slice 3
  | 72 => .fn
  | 73 => .fn
  | 74 => .fn
  | 75 => .fn
  | 76 => .fn
  | 77 => .fn
  | 78 => .fn
  | 79 => .fn
  | 80 => .fn
  | 81 => .fn
  | 82 => .fn
  | 83 => .int .u64
  | 84 => .ptr
  | 85 => .fn
  | 86 => .fn
  | 87 => .fn
  | 88 => .fn
  | 89 => .fn
  | 90 => .fn
  | 91 => .fn
  | 92 => .fn
  | 93 => .fn
  | 94 => .iface
  | 95 => .iface
  | 96 => .fn
  | 97 => .ptr
  | 98 => .struct [.v (.string ⟨#[]⟩), .v (.int .i64 0), .v (.int .i64 0)]
  | 99 => .struct [.v (.string ⟨#[]⟩), .v (.int .i64 0), .v (.int .i64 0)]
  | 100 => .fn
  | 101 => .fn
  | 102 => .fn
  | 103 => .fn
  | 104 => .fn
  | 105 => .ptr
  | 106 => .fn
  | 107 => .fn
  | 108 => .fn
  | 109 => .fn
  | 110 => .fn
  | 111 => .fn
  | 112 => .fn
  | 113 => .fn
  | 114 => .fn
  | 115 => .fn
  | 116 => .fn
  | 117 => .fn
  | 118 => .fn
  | 119 => .fn
  | 120 => .fn
  | 121 => .fn
  | 122 => .fn
  | 123 => .fn
  | 124 => .struct [.v (.bool false), .v (.string ⟨#[]⟩), .v (.int .i64 0), .v (.int .i64 0)]
  | 125 => .struct [.v (.bool false), .v (.string ⟨#[]⟩), .v (.int .i64 0), .v (.int .i64 0)]
  | 126 => .fn
  | 127 => .fn
  | 128 => .ptr
  | 129 => .fn
  | 130 => .struct [.v (.int .i64 0), .v (.int .i64 0)]
  | 131 => .struct [.v (.int .i64 0), .v (.int .i64 0)]
  | 132 => .struct [.v (.bool false), .sl .nil []]
  | 133 => .struct [.v (.bool false), .sl .nil []]
  | 134 => .fn
  | 135 => .fn
  | 136 => .fn
  | 137 => .slice 57
  | 138 => .struct [.sl .nil [], .sl .nil []]
  | 139 => .struct [.sl .nil [], .sl .nil []]
  | 140 => .fn
  | 141 => .ptr
  | 142 => .fn
  | 143 => .fn
  | 144 => .fn
  | 145 => .fn
  | 148 => .fn
  | 151 => .fn
  | 153 => .fn
  | 154 => .ptr
  | 156 => .fn
  | 157 => .ptr
  | 158 => .struct [.v (.pointer none), .v (.pointer none), .v (.pointer none), .v (.string ⟨#[]⟩)]
  | 159 => .struct [.v (.pointer none), .v (.pointer none), .v (.pointer none), .v (.string ⟨#[]⟩)]
  | 163 => .int .u8
  | 164 => .int .u8
  | 165 => .fn
  | 166 => .ptr
  | 167 => .int .i32
  | 168 => .int .i32
  | 169 => .struct [.v (.int .u64 0), .v (.int .u64 0), .v (.int .u32 0), .v (.int .u8 0), .v (.int .u8 0), .v (.int .u8 0), .v (.int .u8 0), .v .nilFunc, .v (.pointer none), .v (.int .i32 0), .v (.int .i32 0)]
  | 170 => .struct [.v (.int .u64 0), .v (.int .u64 0), .v (.int .u32 0), .v (.int .u8 0), .v (.int .u8 0), .v (.int .u8 0), .v (.int .u8 0), .v .nilFunc, .v (.pointer none), .v (.int .i32 0), .v (.int .i32 0)]
  | _ => .other

@[go_sem] theorem tys_1 : tys 1 = .fn := rfl
@[go_sem] theorem tys_2 : tys 2 = .int .i64 := rfl
@[go_sem] theorem tys_3 : tys 3 = .int .i64 := rfl
@[go_sem] theorem tys_4 : tys 4 = .bool := rfl
@[go_sem] theorem tys_5 : tys 5 = .int .u8 := rfl
@[go_sem] theorem tys_6 : tys 6 = .int .u8 := rfl
@[go_sem] theorem tys_7 : tys 7 = .struct [.v (.int .i64 0), .v (.int .i64 0), .v (.bool false), .v (.int .u8 0)] := rfl
@[go_sem] theorem tys_8 : tys 8 = .struct [.v (.int .i64 0), .v (.int .i64 0), .v (.bool false), .v (.int .u8 0)] := rfl
@[go_sem] theorem tys_9 : tys 9 = .str := rfl
@[go_sem] theorem tys_10 : tys 10 = .str := rfl
@[go_sem] theorem tys_11 : tys 11 = .str := rfl
@[go_sem] theorem tys_12 : tys 12 = .int .u64 := rfl
@[go_sem] theorem tys_13 : tys 13 = .struct [.v (.string ⟨#[]⟩), .v (.int .u64 0)] := rfl
@[go_sem] theorem tys_14 : tys 14 = .struct [.v (.string ⟨#[]⟩), .v (.int .u64 0)] := rfl
@[go_sem] theorem tys_15 : tys 15 = .ptr := rfl
@[go_sem] theorem tys_16 : tys 16 = .ptr := rfl
@[go_sem] theorem tys_17 : tys 17 = .ptr := rfl
@[go_sem] theorem tys_18 : tys 18 = .struct [.v (.pointer none)] := rfl
@[go_sem] theorem tys_19 : tys 19 = .struct [.v (.pointer none)] := rfl
@[go_sem] theorem tys_20 : tys 20 = .iface := rfl
@[go_sem] theorem tys_21 : tys 21 = .int .i32 := rfl
@[go_sem] theorem tys_22 : tys 22 = .struct [.v (.int .i64 0), .v (.int .i64 0)] := rfl
@[go_sem] theorem tys_23 : tys 23 = .struct [.v (.int .i64 0), .v (.int .i64 0)] := rfl
@[go_sem] theorem tys_24 : tys 24 = .slice 56 := rfl
@[go_sem] theorem tys_25 : tys 25 = .slice 9 := rfl
@[go_sem] theorem tys_26 : tys 26 = .slice 59 := rfl
@[go_sem] theorem tys_27 : tys 27 = .struct [.sl .nil [], .sl .nil [], .sl .nil []] := rfl
@[go_sem] theorem tys_28 : tys 28 = .struct [.sl .nil [], .sl .nil [], .sl .nil []] := rfl
@[go_sem] theorem tys_29 : tys 29 = .int .i64 := rfl
@[go_sem] theorem tys_31 : tys 31 = .fn := rfl
@[go_sem] theorem tys_32 : tys 32 = .fn := rfl
@[go_sem] theorem tys_33 : tys 33 = .fn := rfl
@[go_sem] theorem tys_34 : tys 34 = .fn := rfl
@[go_sem] theorem tys_35 : tys 35 = .dig := rfl
@[go_sem] theorem tys_36 : tys 36 = .dig := rfl
@[go_sem] theorem tys_38 : tys 38 = .fn := rfl
@[go_sem] theorem tys_39 : tys 39 = .fn := rfl
@[go_sem] theorem tys_40 : tys 40 = .fn := rfl
@[go_sem] theorem tys_42 : tys 42 = .fn := rfl
@[go_sem] theorem tys_43 : tys 43 = .fn := rfl
@[go_sem] theorem tys_44 : tys 44 = .fn := rfl
@[go_sem] theorem tys_45 : tys 45 = .fn := rfl
@[go_sem] theorem tys_46 : tys 46 = .fn := rfl
@[go_sem] theorem tys_47 : tys 47 = .fn := rfl
@[go_sem] theorem tys_48 : tys 48 = .fn := rfl
@[go_sem] theorem tys_49 : tys 49 = .fn := rfl
@[go_sem] theorem tys_50 : tys 50 = .fn := rfl
@[go_sem] theorem tys_52 : tys 52 = .fn := rfl
@[go_sem] theorem tys_53 : tys 53 = .fn := rfl
@[go_sem] theorem tys_54 : tys 54 = .fn := rfl
@[go_sem] theorem tys_55 : tys 55 = .struct [.v (.string ⟨#[]⟩), .v (.string ⟨#[]⟩)] := rfl
@[go_sem] theorem tys_56 : tys 56 = .struct [.v (.string ⟨#[]⟩), .v (.string ⟨#[]⟩)] := rfl
@[go_sem] theorem tys_57 : tys 57 = .int .u32 := rfl
@[go_sem] theorem tys_58 : tys 58 = .struct [.v (.int .u32 0), .dg Dg.zero] := rfl
@[go_sem] theorem tys_59 : tys 59 = .struct [.v (.int .u32 0), .dg Dg.zero] := rfl
@[go_sem] theorem tys_60 : tys 60 = .fn := rfl
@[go_sem] theorem tys_61 : tys 61 = .fn := rfl
@[go_sem] theorem tys_62 : tys 62 = .fn := rfl
@[go_sem] theorem tys_63 : tys 63 = .fn := rfl
@[go_sem] theorem tys_64 : tys 64 = .fn := rfl
@[go_sem] theorem tys_65 : tys 65 = .fn := rfl
@[go_sem] theorem tys_66 : tys 66 = .slice 5 := rfl
@[go_sem] theorem tys_67 : tys 67 = .int .u64 := rfl
@[go_sem] theorem tys_68 : tys 68 = .fn := rfl
@[go_sem] theorem tys_69 : tys 69 = .fn := rfl
@[go_sem] theorem tys_70 : tys 70 = .fn := rfl
@[go_sem] theorem tys_71 : tys 71 = .slice 3 := rfl
@[go_sem] theorem tys_72 : tys 72 = .fn := rfl
@[go_sem] theorem tys_73 : tys 73 = .fn := rfl
@[go_sem] theorem tys_74 : tys 74 = .fn := rfl
@[go_sem] theorem tys_75 : tys 75 = .fn := rfl
@[go_sem] theorem tys_76 : tys 76 = .fn := rfl
@[go_sem] theorem tys_77 : tys 77 = .fn := rfl
@[go_sem] theorem tys_78 : tys 78 = .fn := rfl
@[go_sem] theorem tys_79 : tys 79 = .fn := rfl
@[go_sem] theorem tys_80 : tys 80 = .fn := rfl
@[go_sem] theorem tys_81 : tys 81 = .fn := rfl
@[go_sem] theorem tys_82 : tys 82 = .fn := rfl
@[go_sem] theorem tys_83 : tys 83 = .int .u64 := rfl
@[go_sem] theorem tys_84 : tys 84 = .ptr := rfl
@[go_sem] theorem tys_85 : tys 85 = .fn := rfl
@[go_sem] theorem tys_86 : tys 86 = .fn := rfl
@[go_sem] theorem tys_87 : tys 87 = .fn := rfl
@[go_sem] theorem tys_88 : tys 88 = .fn := rfl
@[go_sem] theorem tys_89 : tys 89 = .fn := rfl
@[go_sem] theorem tys_90 : tys 90 = .fn := rfl
@[go_sem] theorem tys_91 : tys 91 = .fn := rfl
@[go_sem] theorem tys_92 : tys 92 = .fn := rfl
@[go_sem] theorem tys_93 : tys 93 = .fn := rfl
@[go_sem] theorem tys_94 : tys 94 = .iface := rfl
@[go_sem] theorem tys_95 : tys 95 = .iface := rfl
@[go_sem] theorem tys_96 : tys 96 = .fn := rfl
@[go_sem] theorem tys_97 : tys 97 = .ptr := rfl
@[go_sem] theorem tys_98 : tys 98 = .struct [.v (.string ⟨#[]⟩), .v (.int .i64 0), .v (.int .i64 0)] := rfl
@[go_sem] theorem tys_99 : tys 99 = .struct [.v (.string ⟨#[]⟩), .v (.int .i64 0), .v (.int .i64 0)] := rfl
@[go_sem] theorem tys_100 : tys 100 = .fn := rfl
@[go_sem] theorem tys_101 : tys 101 = .fn := rfl
@[go_sem] theorem tys_102 : tys 102 = .fn := rfl
@[go_sem] theorem tys_103 : tys 103 = .fn := rfl
@[go_sem] theorem tys_104 : tys 104 = .fn := rfl
@[go_sem] theorem tys_105 : tys 105 = .ptr := rfl
@[go_sem] theorem tys_106 : tys 106 = .fn := rfl
@[go_sem] theorem tys_107 : tys 107 = .fn := rfl
@[go_sem] theorem tys_108 : tys 108 = .fn := rfl
@[go_sem] theorem tys_109 : tys 109 = .fn := rfl
@[go_sem] theorem tys_110 : tys 110 = .fn := rfl
@[go_sem] theorem tys_111 : tys 111 = .fn := rfl
@[go_sem] theorem tys_112 : tys 112 = .fn := rfl
@[go_sem] theorem tys_113 : tys 113 = .fn := rfl
@[go_sem] theorem tys_114 : tys 114 = .fn := rfl
@[go_sem] theorem tys_115 : tys 115 = .fn := rfl
@[go_sem] theorem tys_116 : tys 116 = .fn := rfl
@[go_sem] theorem tys_117 : tys 117 = .fn := rfl
@[go_sem] theorem tys_118 : tys 118 = .fn := rfl
@[go_sem] theorem tys_119 : tys 119 = .fn := rfl
@[go_sem] theorem tys_120 : tys 120 = .fn := rfl
@[go_sem] theorem tys_121 : tys 121 = .fn := rfl
@[go_sem] theorem tys_122 : tys 122 = .fn := rfl
@[go_sem] theorem tys_123 : tys 123 = .fn := rfl
@[go_sem] theorem tys_124 : tys 124 = .struct [.v (.bool false), .v (.string ⟨#[]⟩), .v (.int .i64 0), .v (.int .i64 0)] := rfl
@[go_sem] theorem tys_125 : tys 125 = .struct [.v (.bool false), .v (.string ⟨#[]⟩), .v (.int .i64 0), .v (.int .i64 0)] := rfl
@[go_sem] theorem tys_126 : tys 126 = .fn := rfl
@[go_sem] theorem tys_127 : tys 127 = .fn := rfl
@[go_sem] theorem tys_128 : tys 128 = .ptr := rfl
@[go_sem] theorem tys_129 : tys 129 = .fn := rfl
@[go_sem] theorem tys_130 : tys 130 = .struct [.v (.int .i64 0), .v (.int .i64 0)] := rfl
@[go_sem] theorem tys_131 : tys 131 = .struct [.v (.int .i64 0), .v (.int .i64 0)] := rfl
@[go_sem] theorem tys_132 : tys 132 = .struct [.v (.bool false), .sl .nil []] := rfl
@[go_sem] theorem tys_133 : tys 133 = .struct [.v (.bool false), .sl .nil []] := rfl
@[go_sem] theorem tys_134 : tys 134 = .fn := rfl
@[go_sem] theorem tys_135 : tys 135 = .fn := rfl
@[go_sem] theorem tys_136 : tys 136 = .fn := rfl
@[go_sem] theorem tys_137 : tys 137 = .slice 57 := rfl
@[go_sem] theorem tys_138 : tys 138 = .struct [.sl .nil [], .sl .nil []] := rfl
@[go_sem] theorem tys_139 : tys 139 = .struct [.sl .nil [], .sl .nil []] := rfl
@[go_sem] theorem tys_140 : tys 140 = .fn := rfl
@[go_sem] theorem tys_141 : tys 141 = .ptr := rfl
@[go_sem] theorem tys_142 : tys 142 = .fn := rfl
@[go_sem] theorem tys_143 : tys 143 = .fn := rfl
@[go_sem] theorem tys_144 : tys 144 = .fn := rfl
@[go_sem] theorem tys_145 : tys 145 = .fn := rfl
@[go_sem] theorem tys_148 : tys 148 = .fn := rfl
@[go_sem] theorem tys_151 : tys 151 = .fn := rfl
@[go_sem] theorem tys_153 : tys 153 = .fn := rfl
@[go_sem] theorem tys_154 : tys 154 = .ptr := rfl
@[go_sem] theorem tys_156 : tys 156 = .fn := rfl
@[go_sem] theorem tys_157 : tys 157 = .ptr := rfl
@[go_sem] theorem tys_158 : tys 158 = .struct [.v (.pointer none), .v (.pointer none), .v (.pointer none), .v (.string ⟨#[]⟩)] := rfl
@[go_sem] theorem tys_159 : tys 159 = .struct [.v (.pointer none), .v (.pointer none), .v (.pointer none), .v (.string ⟨#[]⟩)] := rfl
@[go_sem] theorem tys_163 : tys 163 = .int .u8 := rfl
@[go_sem] theorem tys_164 : tys 164 = .int .u8 := rfl
@[go_sem] theorem tys_165 : tys 165 = .fn := rfl
@[go_sem] theorem tys_166 : tys 166 = .ptr := rfl
@[go_sem] theorem tys_167 : tys 167 = .int .i32 := rfl
@[go_sem] theorem tys_168 : tys 168 = .int .i32 := rfl
@[go_sem] theorem tys_169 : tys 169 = .struct [.v (.int .u64 0), .v (.int .u64 0), .v (.int .u32 0), .v (.int .u8 0), .v (.int .u8 0), .v (.int .u8 0), .v (.int .u8 0), .v .nilFunc, .v (.pointer none), .v (.int .i32 0), .v (.int .i32 0)] := rfl
@[go_sem] theorem tys_170 : tys 170 = .struct [.v (.int .u64 0), .v (.int .u64 0), .v (.int .u32 0), .v (.int .u8 0), .v (.int .u8 0), .v (.int .u8 0), .v (.int .u8 0), .v .nilFunc, .v (.pointer none), .v (.int .i32 0), .v (.int .i32 0)] := rfl
theorem tyOk_1 : TyOk Tryz.prog 1 (.fn) := tyOk_mk Tryz.underlying1 (⟨_, _, _, rfl⟩) (by kernel_rfl) (by kernel_rfl)
theorem tyOk_2 : TyOk Tryz.prog 2 (.int .i64) := tyOk_mk Tryz.underlying2 (rfl) (by kernel_rfl) (by kernel_rfl)
theorem tyOk_3 : TyOk Tryz.prog 3 (.int .i64) := tyOk_mk Tryz.underlying3 (rfl) (by kernel_rfl) (by kernel_rfl)
theorem tyOk_4 : TyOk Tryz.prog 4 (.bool) := tyOk_mk Tryz.underlying4 (rfl) (by kernel_rfl) (by kernel_rfl)
theorem tyOk_5 : TyOk Tryz.prog 5 (.int .u8) := tyOk_mk Tryz.underlying5 (rfl) (by kernel_rfl) (by kernel_rfl)
theorem tyOk_6 : TyOk Tryz.prog 6 (.int .u8) := tyOk_mk Tryz.underlying6 (rfl) (by kernel_rfl) (by kernel_rfl)
theorem tyOk_7 : TyOk Tryz.prog 7 (.struct [.v (.int .i64 0), .v (.int .i64 0), .v (.bool false), .v (.int .u8 0)]) := tyOk_mk Tryz.underlying7 (isDesc_struct (by kernel_rfl)) (by kernel_rfl) (by kernel_rfl)
theorem tyOk_8 : TyOk Tryz.prog 8 (.struct [.v (.int .i64 0), .v (.int .i64 0), .v (.bool false), .v (.int .u8 0)]) := tyOk_mk Tryz.underlying8 (isDesc_struct (by kernel_rfl)) (by kernel_rfl) (by kernel_rfl)
theorem tyOk_9 : TyOk Tryz.prog 9 (.str) := tyOk_mk Tryz.underlying9 (rfl) (by kernel_rfl) (by kernel_rfl)
theorem tyOk_10 : TyOk Tryz.prog 10 (.str) := tyOk_mk Tryz.underlying10 (rfl) (by kernel_rfl) (by kernel_rfl)
theorem tyOk_11 : TyOk Tryz.prog 11 (.str) := tyOk_mk Tryz.underlying11 (rfl) (by kernel_rfl) (by kernel_rfl)
theorem tyOk_12 : TyOk Tryz.prog 12 (.int .u64) := tyOk_mk Tryz.underlying12 (rfl) (by kernel_rfl) (by kernel_rfl)
theorem tyOk_13 : TyOk Tryz.prog 13 (.struct [.v (.string ⟨#[]⟩), .v (.int .u64 0)]) := tyOk_mk Tryz.underlying13 (isDesc_struct (by kernel_rfl)) (by kernel_rfl) (by kernel_rfl)
theorem tyOk_14 : TyOk Tryz.prog 14 (.struct [.v (.string ⟨#[]⟩), .v (.int .u64 0)]) := tyOk_mk Tryz.underlying14 (isDesc_struct (by kernel_rfl)) (by kernel_rfl) (by kernel_rfl)
theorem tyOk_15 : TyOk Tryz.prog 15 (.ptr) := tyOk_mk Tryz.underlying15 (⟨_, rfl⟩) (by kernel_rfl) (by kernel_rfl)
theorem tyOk_16 : TyOk Tryz.prog 16 (.ptr) := tyOk_mk Tryz.underlying16 (⟨_, rfl⟩) (by kernel_rfl) (by kernel_rfl)
theorem tyOk_17 : TyOk Tryz.prog 17 (.ptr) := tyOk_mk Tryz.underlying17 (⟨_, rfl⟩) (by kernel_rfl) (by kernel_rfl)
theorem tyOk_18 : TyOk Tryz.prog 18 (.struct [.v (.pointer none)]) := tyOk_mk Tryz.underlying18 (isDesc_struct (by kernel_rfl)) (by kernel_rfl) (by kernel_rfl)
theorem tyOk_19 : TyOk Tryz.prog 19 (.struct [.v (.pointer none)]) := tyOk_mk Tryz.underlying19 (isDesc_struct (by kernel_rfl)) (by kernel_rfl) (by kernel_rfl)
theorem tyOk_20 : TyOk Tryz.prog 20 (.iface) := tyOk_mk Tryz.underlying20 (⟨_, rfl⟩) (by kernel_rfl) (by kernel_rfl)
theorem tyOk_21 : TyOk Tryz.prog 21 (.int .i32) := tyOk_mk Tryz.underlying21 (rfl) (by kernel_rfl) (by kernel_rfl)
theorem tyOk_22 : TyOk Tryz.prog 22 (.struct [.v (.int .i64 0), .v (.int .i64 0)]) := tyOk_mk Tryz.underlying22 (isDesc_struct (by kernel_rfl)) (by kernel_rfl) (by kernel_rfl)
theorem tyOk_23 : TyOk Tryz.prog 23 (.struct [.v (.int .i64 0), .v (.int .i64 0)]) := tyOk_mk Tryz.underlying23 (isDesc_struct (by kernel_rfl)) (by kernel_rfl) (by kernel_rfl)
theorem tyOk_24 : TyOk Tryz.prog 24 (.slice 56) := tyOk_mk Tryz.underlying24 (rfl) (by kernel_rfl) (by kernel_rfl)
theorem tyOk_25 : TyOk Tryz.prog 25 (.slice 9) := tyOk_mk Tryz.underlying25 (rfl) (by kernel_rfl) (by kernel_rfl)
theorem tyOk_26 : TyOk Tryz.prog 26 (.slice 59) := tyOk_mk Tryz.underlying26 (rfl) (by kernel_rfl) (by kernel_rfl)
theorem tyOk_27 : TyOk Tryz.prog 27 (.struct [.sl .nil [], .sl .nil [], .sl .nil []]) := tyOk_mk Tryz.underlying27 (isDesc_struct (by kernel_rfl)) (by kernel_rfl) (by kernel_rfl)
theorem tyOk_28 : TyOk Tryz.prog 28 (.struct [.sl .nil [], .sl .nil [], .sl .nil []]) := tyOk_mk Tryz.underlying28 (isDesc_struct (by kernel_rfl)) (by kernel_rfl) (by kernel_rfl)
theorem tyOk_29 : TyOk Tryz.prog 29 (.int .i64) := tyOk_mk Tryz.underlying29 (rfl) (by kernel_rfl) (by kernel_rfl)
theorem tyOk_31 : TyOk Tryz.prog 31 (.fn) := tyOk_mk Tryz.underlying31 (⟨_, _, _, rfl⟩) (by kernel_rfl) (by kernel_rfl)
theorem tyOk_32 : TyOk Tryz.prog 32 (.fn) := tyOk_mk Tryz.underlying32 (⟨_, _, _, rfl⟩) (by kernel_rfl) (by kernel_rfl)
theorem tyOk_33 : TyOk Tryz.prog 33 (.fn) := tyOk_mk Tryz.underlying33 (⟨_, _, _, rfl⟩) (by kernel_rfl) (by kernel_rfl)
theorem tyOk_34 : TyOk Tryz.prog 34 (.fn) := tyOk_mk Tryz.underlying34 (⟨_, _, _, rfl⟩) (by kernel_rfl) (by kernel_rfl)
theorem tyOk_35 : TyOk Tryz.prog 35 (.dig) := tyOk_mk Tryz.underlying35 (isDesc_dig Tryz.underlying5 (by kernel_rfl)) (by kernel_rfl) (by kernel_rfl)
theorem tyOk_36 : TyOk Tryz.prog 36 (.dig) := tyOk_mk Tryz.underlying36 (isDesc_dig Tryz.underlying5 (by kernel_rfl)) (by kernel_rfl) (by kernel_rfl)
theorem tyOk_38 : TyOk Tryz.prog 38 (.fn) := tyOk_mk Tryz.underlying38 (⟨_, _, _, rfl⟩) (by kernel_rfl) (by kernel_rfl)
theorem tyOk_39 : TyOk Tryz.prog 39 (.fn) := tyOk_mk Tryz.underlying39 (⟨_, _, _, rfl⟩) (by kernel_rfl) (by kernel_rfl)
theorem tyOk_40 : TyOk Tryz.prog 40 (.fn) := tyOk_mk Tryz.underlying40 (⟨_, _, _, rfl⟩) (by kernel_rfl) (by kernel_rfl)
theorem tyOk_42 : TyOk Tryz.prog 42 (.fn) := tyOk_mk Tryz.underlying42 (⟨_, _, _, rfl⟩) (by kernel_rfl) (by kernel_rfl)
theorem tyOk_43 : TyOk Tryz.prog 43 (.fn) := tyOk_mk Tryz.underlying43 (⟨_, _, _, rfl⟩) (by kernel_rfl) (by kernel_rfl)
theorem tyOk_44 : TyOk Tryz.prog 44 (.fn) := tyOk_mk Tryz.underlying44 (⟨_, _, _, rfl⟩) (by kernel_rfl) (by kernel_rfl)
theorem tyOk_45 : TyOk Tryz.prog 45 (.fn) := tyOk_mk Tryz.underlying45 (⟨_, _, _, rfl⟩) (by kernel_rfl) (by kernel_rfl)
theorem tyOk_46 : TyOk Tryz.prog 46 (.fn) := tyOk_mk Tryz.underlying46 (⟨_, _, _, rfl⟩) (by kernel_rfl) (by kernel_rfl)
theorem tyOk_47 : TyOk Tryz.prog 47 (.fn) := tyOk_mk Tryz.underlying47 (⟨_, _, _, rfl⟩) (by kernel_rfl) (by kernel_rfl)
theorem tyOk_48 : TyOk Tryz.prog 48 (.fn) := tyOk_mk Tryz.underlying48 (⟨_, _, _, rfl⟩) (by kernel_rfl) (by kernel_rfl)
theorem tyOk_49 : TyOk Tryz.prog 49 (.fn) := tyOk_mk Tryz.underlying49 (⟨_, _, _, rfl⟩) (by kernel_rfl) (by kernel_rfl)
theorem tyOk_50 : TyOk Tryz.prog 50 (.fn) := tyOk_mk Tryz.underlying50 (⟨_, _, _, rfl⟩) (by kernel_rfl) (by kernel_rfl)
theorem tyOk_52 : TyOk Tryz.prog 52 (.fn) := tyOk_mk Tryz.underlying52 (⟨_, _, _, rfl⟩) (by kernel_rfl) (by kernel_rfl)
theorem tyOk_53 : TyOk Tryz.prog 53 (.fn) := tyOk_mk Tryz.underlying53 (⟨_, _, _, rfl⟩) (by kernel_rfl) (by kernel_rfl)
theorem tyOk_54 : TyOk Tryz.prog 54 (.fn) := tyOk_mk Tryz.underlying54 (⟨_, _, _, rfl⟩) (by kernel_rfl) (by kernel_rfl)
theorem tyOk_55 : TyOk Tryz.prog 55 (.struct [.v (.string ⟨#[]⟩), .v (.string ⟨#[]⟩)]) := tyOk_mk Tryz.underlying55 (isDesc_struct (by kernel_rfl)) (by kernel_rfl) (by kernel_rfl)
theorem tyOk_56 : TyOk Tryz.prog 56 (.struct [.v (.string ⟨#[]⟩), .v (.string ⟨#[]⟩)]) := tyOk_mk Tryz.underlying56 (isDesc_struct (by kernel_rfl)) (by kernel_rfl) (by kernel_rfl)
theorem tyOk_57 : TyOk Tryz.prog 57 (.int .u32) := tyOk_mk Tryz.underlying57 (rfl) (by kernel_rfl) (by kernel_rfl)
theorem tyOk_58 : TyOk Tryz.prog 58 (.struct [.v (.int .u32 0), .dg Dg.zero]) := tyOk_mk Tryz.underlying58 (isDesc_struct (by kernel_rfl)) (by kernel_rfl) (by kernel_rfl)
theorem tyOk_59 : TyOk Tryz.prog 59 (.struct [.v (.int .u32 0), .dg Dg.zero]) := tyOk_mk Tryz.underlying59 (isDesc_struct (by kernel_rfl)) (by kernel_rfl) (by kernel_rfl)
theorem tyOk_60 : TyOk Tryz.prog 60 (.fn) := tyOk_mk Tryz.underlying60 (⟨_, _, _, rfl⟩) (by kernel_rfl) (by kernel_rfl)
theorem tyOk_61 : TyOk Tryz.prog 61 (.fn) := tyOk_mk Tryz.underlying61 (⟨_, _, _, rfl⟩) (by kernel_rfl) (by kernel_rfl)
theorem tyOk_62 : TyOk Tryz.prog 62 (.fn) := tyOk_mk Tryz.underlying62 (⟨_, _, _, rfl⟩) (by kernel_rfl) (by kernel_rfl)
theorem tyOk_63 : TyOk Tryz.prog 63 (.fn) := tyOk_mk Tryz.underlying63 (⟨_, _, _, rfl⟩) (by kernel_rfl) (by kernel_rfl)
theorem tyOk_64 : TyOk Tryz.prog 64 (.fn) := tyOk_mk Tryz.underlying64 (⟨_, _, _, rfl⟩) (by kernel_rfl) (by kernel_rfl)
theorem tyOk_65 : TyOk Tryz.prog 65 (.fn) := tyOk_mk Tryz.underlying65 (⟨_, _, _, rfl⟩) (by kernel_rfl) (by kernel_rfl)
theorem tyOk_66 : TyOk Tryz.prog 66 (.slice 5) := tyOk_mk Tryz.underlying66 (rfl) (by kernel_rfl) (by kernel_rfl)
theorem tyOk_67 : TyOk Tryz.prog 67 (.int .u64) := tyOk_mk Tryz.underlying67 (rfl) (by kernel_rfl) (by kernel_rfl)
theorem tyOk_68 : TyOk Tryz.prog 68 (.fn) := tyOk_mk Tryz.underlying68 (⟨_, _, _, rfl⟩) (by kernel_rfl) (by kernel_rfl)
theorem tyOk_69 : TyOk Tryz.prog 69 (.fn) := tyOk_mk Tryz.underlying69 (⟨_, _, _, rfl⟩) (by kernel_rfl) (by kernel_rfl)
theorem tyOk_70 : TyOk Tryz.prog 70 (.fn) := tyOk_mk Tryz.underlying70 (⟨_, _, _, rfl⟩) (by kernel_rfl) (by kernel_rfl)
theorem tyOk_71 : TyOk Tryz.prog 71 (.slice 3) := tyOk_mk Tryz.underlying71 (rfl) (by kernel_rfl) (by kernel_rfl)
theorem tyOk_72 : TyOk Tryz.prog 72 (.fn) := tyOk_mk Tryz.underlying72 (⟨_, _, _, rfl⟩) (by kernel_rfl) (by kernel_rfl)
theorem tyOk_73 : TyOk Tryz.prog 73 (.fn) := tyOk_mk Tryz.underlying73 (⟨_, _, _, rfl⟩) (by kernel_rfl) (by kernel_rfl)
theorem tyOk_74 : TyOk Tryz.prog 74 (.fn) := tyOk_mk Tryz.underlying74 (⟨_, _, _, rfl⟩) (by kernel_rfl) (by kernel_rfl)
theorem tyOk_75 : TyOk Tryz.prog 75 (.fn) := tyOk_mk Tryz.underlying75 (⟨_, _, _, rfl⟩) (by kernel_rfl) (by kernel_rfl)
theorem tyOk_76 : TyOk Tryz.prog 76 (.fn) := tyOk_mk Tryz.underlying76 (⟨_, _, _, rfl⟩) (by kernel_rfl) (by kernel_rfl)
theorem tyOk_77 : TyOk Tryz.prog 77 (.fn) := tyOk_mk Tryz.underlying77 (⟨_, _, _, rfl⟩) (by kernel_rfl) (by kernel_rfl)
theorem tyOk_78 : TyOk Tryz.prog 78 (.fn) := tyOk_mk Tryz.underlying78 (⟨_, _, _, rfl⟩) (by kernel_rfl) (by kernel_rfl)
theorem tyOk_79 : TyOk Tryz.prog 79 (.fn) := tyOk_mk Tryz.underlying79 (⟨_, _, _, rfl⟩) (by kernel_rfl) (by kernel_rfl)
theorem tyOk_80 : TyOk Tryz.prog 80 (.fn) := tyOk_mk Tryz.underlying80 (⟨_, _, _, rfl⟩) (by kernel_rfl) (by kernel_rfl)
theorem tyOk_81 : TyOk Tryz.prog 81 (.fn) := tyOk_mk Tryz.underlying81 (⟨_, _, _, rfl⟩) (by kernel_rfl) (by kernel_rfl)
theorem tyOk_82 : TyOk Tryz.prog 82 (.fn) := tyOk_mk Tryz.underlying82 (⟨_, _, _, rfl⟩) (by kernel_rfl) (by kernel_rfl)
theorem tyOk_83 : TyOk Tryz.prog 83 (.int .u64) := tyOk_mk Tryz.underlying83 (rfl) (by kernel_rfl) (by kernel_rfl)
theorem tyOk_84 : TyOk Tryz.prog 84 (.ptr) := tyOk_mk Tryz.underlying84 (⟨_, rfl⟩) (by kernel_rfl) (by kernel_rfl)
theorem tyOk_85 : TyOk Tryz.prog 85 (.fn) := tyOk_mk Tryz.underlying85 (⟨_, _, _, rfl⟩) (by kernel_rfl) (by kernel_rfl)
theorem tyOk_86 : TyOk Tryz.prog 86 (.fn) := tyOk_mk Tryz.underlying86 (⟨_, _, _, rfl⟩) (by kernel_rfl) (by kernel_rfl)
theorem tyOk_87 : TyOk Tryz.prog 87 (.fn) := tyOk_mk Tryz.underlying87 (⟨_, _, _, rfl⟩) (by kernel_rfl) (by kernel_rfl)
theorem tyOk_88 : TyOk Tryz.prog 88 (.fn) := tyOk_mk Tryz.underlying88 (⟨_, _, _, rfl⟩) (by kernel_rfl) (by kernel_rfl)
theorem tyOk_89 : TyOk Tryz.prog 89 (.fn) := tyOk_mk Tryz.underlying89 (⟨_, _, _, rfl⟩) (by kernel_rfl) (by kernel_rfl)
theorem tyOk_90 : TyOk Tryz.prog 90 (.fn) := tyOk_mk Tryz.underlying90 (⟨_, _, _, rfl⟩) (by kernel_rfl) (by kernel_rfl)
theorem tyOk_91 : TyOk Tryz.prog 91 (.fn) := tyOk_mk Tryz.underlying91 (⟨_, _, _, rfl⟩) (by kernel_rfl) (by kernel_rfl)
theorem tyOk_92 : TyOk Tryz.prog 92 (.fn) := tyOk_mk Tryz.underlying92 (⟨_, _, _, rfl⟩) (by kernel_rfl) (by kernel_rfl)
theorem tyOk_93 : TyOk Tryz.prog 93 (.fn) := tyOk_mk Tryz.underlying93 (⟨_, _, _, rfl⟩) (by kernel_rfl) (by kernel_rfl)
theorem tyOk_94 : TyOk Tryz.prog 94 (.iface) := tyOk_mk Tryz.underlying94 (⟨_, rfl⟩) (by kernel_rfl) (by kernel_rfl)
theorem tyOk_95 : TyOk Tryz.prog 95 (.iface) := tyOk_mk Tryz.underlying95 (⟨_, rfl⟩) (by kernel_rfl) (by kernel_rfl)
theorem tyOk_96 : TyOk Tryz.prog 96 (.fn) := tyOk_mk Tryz.underlying96 (⟨_, _, _, rfl⟩) (by kernel_rfl) (by kernel_rfl)
theorem tyOk_97 : TyOk Tryz.prog 97 (.ptr) := tyOk_mk Tryz.underlying97 (⟨_, rfl⟩) (by kernel_rfl) (by kernel_rfl)
theorem tyOk_98 : TyOk Tryz.prog 98 (.struct [.v (.string ⟨#[]⟩), .v (.int .i64 0), .v (.int .i64 0)]) := tyOk_mk Tryz.underlying98 (isDesc_struct (by kernel_rfl)) (by kernel_rfl) (by kernel_rfl)
theorem tyOk_99 : TyOk Tryz.prog 99 (.struct [.v (.string ⟨#[]⟩), .v (.int .i64 0), .v (.int .i64 0)]) := tyOk_mk Tryz.underlying99 (isDesc_struct (by kernel_rfl)) (by kernel_rfl) (by kernel_rfl)
theorem tyOk_100 : TyOk Tryz.prog 100 (.fn) := tyOk_mk Tryz.underlying100 (⟨_, _, _, rfl⟩) (by kernel_rfl) (by kernel_rfl)
theorem tyOk_101 : TyOk Tryz.prog 101 (.fn) := tyOk_mk Tryz.underlying101 (⟨_, _, _, rfl⟩) (by kernel_rfl) (by kernel_rfl)
theorem tyOk_102 : TyOk Tryz.prog 102 (.fn) := tyOk_mk Tryz.underlying102 (⟨_, _, _, rfl⟩) (by kernel_rfl) (by kernel_rfl)
theorem tyOk_103 : TyOk Tryz.prog 103 (.fn) := tyOk_mk Tryz.underlying103 (⟨_, _, _, rfl⟩) (by kernel_rfl) (by kernel_rfl)
theorem tyOk_104 : TyOk Tryz.prog 104 (.fn) := tyOk_mk Tryz.underlying104 (⟨_, _, _, rfl⟩) (by kernel_rfl) (by kernel_rfl)
theorem tyOk_105 : TyOk Tryz.prog 105 (.ptr) := tyOk_mk Tryz.underlying105 (⟨_, rfl⟩) (by kernel_rfl) (by kernel_rfl)
theorem tyOk_106 : TyOk Tryz.prog 106 (.fn) := tyOk_mk Tryz.underlying106 (⟨_, _, _, rfl⟩) (by kernel_rfl) (by kernel_rfl)
theorem tyOk_107 : TyOk Tryz.prog 107 (.fn) := tyOk_mk Tryz.underlying107 (⟨_, _, _, rfl⟩) (by kernel_rfl) (by kernel_rfl)
theorem tyOk_108 : TyOk Tryz.prog 108 (.fn) := tyOk_mk Tryz.underlying108 (⟨_, _, _, rfl⟩) (by kernel_rfl) (by kernel_rfl)
theorem tyOk_109 : TyOk Tryz.prog 109 (.fn) := tyOk_mk Tryz.underlying109 (⟨_, _, _, rfl⟩) (by kernel_rfl) (by kernel_rfl)
theorem tyOk_110 : TyOk Tryz.prog 110 (.fn) := tyOk_mk Tryz.underlying110 (⟨_, _, _, rfl⟩) (by kernel_rfl) (by kernel_rfl)
theorem tyOk_111 : TyOk Tryz.prog 111 (.fn) := tyOk_mk Tryz.underlying111 (⟨_, _, _, rfl⟩) (by kernel_rfl) (by kernel_rfl)
theorem tyOk_112 : TyOk Tryz.prog 112 (.fn) := tyOk_mk Tryz.underlying112 (⟨_, _, _, rfl⟩) (by kernel_rfl) (by kernel_rfl)
theorem tyOk_113 : TyOk Tryz.prog 113 (.fn) := tyOk_mk Tryz.underlying113 (⟨_, _, _, rfl⟩) (by kernel_rfl) (by kernel_rfl)
theorem tyOk_114 : TyOk Tryz.prog 114 (.fn) := tyOk_mk Tryz.underlying114 (⟨_, _, _, rfl⟩) (by kernel_rfl) (by kernel_rfl)
theorem tyOk_115 : TyOk Tryz.prog 115 (.fn) := tyOk_mk Tryz.underlying115 (⟨_, _, _, rfl⟩) (by kernel_rfl) (by kernel_rfl)
theorem tyOk_116 : TyOk Tryz.prog 116 (.fn) := tyOk_mk Tryz.underlying116 (⟨_, _, _, rfl⟩) (by kernel_rfl) (by kernel_rfl)
theorem tyOk_117 : TyOk Tryz.prog 117 (.fn) := tyOk_mk Tryz.underlying117 (⟨_, _, _, rfl⟩) (by kernel_rfl) (by kernel_rfl)
theorem tyOk_118 : TyOk Tryz.prog 118 (.fn) := tyOk_mk Tryz.underlying118 (⟨_, _, _, rfl⟩) (by kernel_rfl) (by kernel_rfl)
theorem tyOk_119 : TyOk Tryz.prog 119 (.fn) := tyOk_mk Tryz.underlying119 (⟨_, _, _, rfl⟩) (by kernel_rfl) (by kernel_rfl)
theorem tyOk_120 : TyOk Tryz.prog 120 (.fn) := tyOk_mk Tryz.underlying120 (⟨_, _, _, rfl⟩) (by kernel_rfl) (by kernel_rfl)
theorem tyOk_121 : TyOk Tryz.prog 121 (.fn) := tyOk_mk Tryz.underlying121 (⟨_, _, _, rfl⟩) (by kernel_rfl) (by kernel_rfl)
theorem tyOk_122 : TyOk Tryz.prog 122 (.fn) := tyOk_mk Tryz.underlying122 (⟨_, _, _, rfl⟩) (by kernel_rfl) (by kernel_rfl)
theorem tyOk_123 : TyOk Tryz.prog 123 (.fn) := tyOk_mk Tryz.underlying123 (⟨_, _, _, rfl⟩) (by kernel_rfl) (by kernel_rfl)
theorem tyOk_124 : TyOk Tryz.prog 124 (.struct [.v (.bool false), .v (.string ⟨#[]⟩), .v (.int .i64 0), .v (.int .i64 0)]) := tyOk_mk Tryz.underlying124 (isDesc_struct (by kernel_rfl)) (by kernel_rfl) (by kernel_rfl)
theorem tyOk_125 : TyOk Tryz.prog 125 (.struct [.v (.bool false), .v (.string ⟨#[]⟩), .v (.int .i64 0), .v (.int .i64 0)]) := tyOk_mk Tryz.underlying125 (isDesc_struct (by kernel_rfl)) (by kernel_rfl) (by kernel_rfl)
theorem tyOk_126 : TyOk Tryz.prog 126 (.fn) := tyOk_mk Tryz.underlying126 (⟨_, _, _, rfl⟩) (by kernel_rfl) (by kernel_rfl)
theorem tyOk_127 : TyOk Tryz.prog 127 (.fn) := tyOk_mk Tryz.underlying127 (⟨_, _, _, rfl⟩) (by kernel_rfl) (by kernel_rfl)
theorem tyOk_128 : TyOk Tryz.prog 128 (.ptr) := tyOk_mk Tryz.underlying128 (⟨_, rfl⟩) (by kernel_rfl) (by kernel_rfl)
theorem tyOk_129 : TyOk Tryz.prog 129 (.fn) := tyOk_mk Tryz.underlying129 (⟨_, _, _, rfl⟩) (by kernel_rfl) (by kernel_rfl)
theorem tyOk_130 : TyOk Tryz.prog 130 (.struct [.v (.int .i64 0), .v (.int .i64 0)]) := tyOk_mk Tryz.underlying130 (isDesc_struct (by kernel_rfl)) (by kernel_rfl) (by kernel_rfl)
theorem tyOk_131 : TyOk Tryz.prog 131 (.struct [.v (.int .i64 0), .v (.int .i64 0)]) := tyOk_mk Tryz.underlying131 (isDesc_struct (by kernel_rfl)) (by kernel_rfl) (by kernel_rfl)
theorem tyOk_132 : TyOk Tryz.prog 132 (.struct [.v (.bool false), .sl .nil []]) := tyOk_mk Tryz.underlying132 (isDesc_struct (by kernel_rfl)) (by kernel_rfl) (by kernel_rfl)
theorem tyOk_133 : TyOk Tryz.prog 133 (.struct [.v (.bool false), .sl .nil []]) := tyOk_mk Tryz.underlying133 (isDesc_struct (by kernel_rfl)) (by kernel_rfl) (by kernel_rfl)
theorem tyOk_134 : TyOk Tryz.prog 134 (.fn) := tyOk_mk Tryz.underlying134 (⟨_, _, _, rfl⟩) (by kernel_rfl) (by kernel_rfl)
theorem tyOk_135 : TyOk Tryz.prog 135 (.fn) := tyOk_mk Tryz.underlying135 (⟨_, _, _, rfl⟩) (by kernel_rfl) (by kernel_rfl)
theorem tyOk_136 : TyOk Tryz.prog 136 (.fn) := tyOk_mk Tryz.underlying136 (⟨_, _, _, rfl⟩) (by kernel_rfl) (by kernel_rfl)
theorem tyOk_137 : TyOk Tryz.prog 137 (.slice 57) := tyOk_mk Tryz.underlying137 (rfl) (by kernel_rfl) (by kernel_rfl)
theorem tyOk_138 : TyOk Tryz.prog 138 (.struct [.sl .nil [], .sl .nil []]) := tyOk_mk Tryz.underlying138 (isDesc_struct (by kernel_rfl)) (by kernel_rfl) (by kernel_rfl)
theorem tyOk_139 : TyOk Tryz.prog 139 (.struct [.sl .nil [], .sl .nil []]) := tyOk_mk Tryz.underlying139 (isDesc_struct (by kernel_rfl)) (by kernel_rfl) (by kernel_rfl)
theorem tyOk_140 : TyOk Tryz.prog 140 (.fn) := tyOk_mk Tryz.underlying140 (⟨_, _, _, rfl⟩) (by kernel_rfl) (by kernel_rfl)
theorem tyOk_141 : TyOk Tryz.prog 141 (.ptr) := tyOk_mk Tryz.underlying141 (⟨_, rfl⟩) (by kernel_rfl) (by kernel_rfl)
theorem tyOk_142 : TyOk Tryz.prog 142 (.fn) := tyOk_mk Tryz.underlying142 (⟨_, _, _, rfl⟩) (by kernel_rfl) (by kernel_rfl)
theorem tyOk_143 : TyOk Tryz.prog 143 (.fn) := tyOk_mk Tryz.underlying143 (⟨_, _, _, rfl⟩) (by kernel_rfl) (by kernel_rfl)
theorem tyOk_144 : TyOk Tryz.prog 144 (.fn) := tyOk_mk Tryz.underlying144 (⟨_, _, _, rfl⟩) (by kernel_rfl) (by kernel_rfl)
theorem tyOk_145 : TyOk Tryz.prog 145 (.fn) := tyOk_mk Tryz.underlying145 (⟨_, _, _, rfl⟩) (by kernel_rfl) (by kernel_rfl)
theorem tyOk_148 : TyOk Tryz.prog 148 (.fn) := tyOk_mk Tryz.underlying148 (⟨_, _, _, rfl⟩) (by kernel_rfl) (by kernel_rfl)
theorem tyOk_151 : TyOk Tryz.prog 151 (.fn) := tyOk_mk Tryz.underlying151 (⟨_, _, _, rfl⟩) (by kernel_rfl) (by kernel_rfl)
theorem tyOk_153 : TyOk Tryz.prog 153 (.fn) := tyOk_mk Tryz.underlying153 (⟨_, _, _, rfl⟩) (by kernel_rfl) (by kernel_rfl)
theorem tyOk_154 : TyOk Tryz.prog 154 (.ptr) := tyOk_mk Tryz.underlying154 (⟨_, rfl⟩) (by kernel_rfl) (by kernel_rfl)
theorem tyOk_156 : TyOk Tryz.prog 156 (.fn) := tyOk_mk Tryz.underlying156 (⟨_, _, _, rfl⟩) (by kernel_rfl) (by kernel_rfl)
theorem tyOk_157 : TyOk Tryz.prog 157 (.ptr) := tyOk_mk Tryz.underlying157 (⟨_, rfl⟩) (by kernel_rfl) (by kernel_rfl)
theorem tyOk_158 : TyOk Tryz.prog 158 (.struct [.v (.pointer none), .v (.pointer none), .v (.pointer none), .v (.string ⟨#[]⟩)]) := tyOk_mk Tryz.underlying158 (isDesc_struct (by kernel_rfl)) (by kernel_rfl) (by kernel_rfl)
theorem tyOk_159 : TyOk Tryz.prog 159 (.struct [.v (.pointer none), .v (.pointer none), .v (.pointer none), .v (.string ⟨#[]⟩)]) := tyOk_mk Tryz.underlying159 (isDesc_struct (by kernel_rfl)) (by kernel_rfl) (by kernel_rfl)
theorem tyOk_163 : TyOk Tryz.prog 163 (.int .u8) := tyOk_mk Tryz.underlying163 (rfl) (by kernel_rfl) (by kernel_rfl)
theorem tyOk_164 : TyOk Tryz.prog 164 (.int .u8) := tyOk_mk Tryz.underlying164 (rfl) (by kernel_rfl) (by kernel_rfl)
theorem tyOk_165 : TyOk Tryz.prog 165 (.fn) := tyOk_mk Tryz.underlying165 (⟨_, _, _, rfl⟩) (by kernel_rfl) (by kernel_rfl)
theorem tyOk_166 : TyOk Tryz.prog 166 (.ptr) := tyOk_mk Tryz.underlying166 (⟨_, rfl⟩) (by kernel_rfl) (by kernel_rfl)
theorem tyOk_167 : TyOk Tryz.prog 167 (.int .i32) := tyOk_mk Tryz.underlying167 (rfl) (by kernel_rfl) (by kernel_rfl)
theorem tyOk_168 : TyOk Tryz.prog 168 (.int .i32) := tyOk_mk Tryz.underlying168 (rfl) (by kernel_rfl) (by kernel_rfl)
theorem tyOk_169 : TyOk Tryz.prog 169 (.struct [.v (.int .u64 0), .v (.int .u64 0), .v (.int .u32 0), .v (.int .u8 0), .v (.int .u8 0), .v (.int .u8 0), .v (.int .u8 0), .v .nilFunc, .v (.pointer none), .v (.int .i32 0), .v (.int .i32 0)]) := tyOk_mk Tryz.underlying169 (isDesc_struct (by kernel_rfl)) (by kernel_rfl) (by kernel_rfl)
theorem tyOk_170 : TyOk Tryz.prog 170 (.struct [.v (.int .u64 0), .v (.int .u64 0), .v (.int .u32 0), .v (.int .u8 0), .v (.int .u8 0), .v (.int .u8 0), .v (.int .u8 0), .v .nilFunc, .v (.pointer none), .v (.int .i32 0), .v (.int .i32 0)]) := tyOk_mk Tryz.underlying170 (isDesc_struct (by kernel_rfl)) (by kernel_rfl) (by kernel_rfl)

theorem tys_ok : TysOk Tryz.prog tys := by
  intro t ht
  unfold tys at ht ⊢
  split at ht <;> first | exact absurd rfl ht | skip
  · exact tyOk_1
  · exact tyOk_2
  · exact tyOk_3
  · exact tyOk_4
  · exact tyOk_5
  · exact tyOk_6
  · exact tyOk_7
  · exact tyOk_8
  · exact tyOk_9
  · exact tyOk_10
  · exact tyOk_11
  · exact tyOk_12
  · exact tyOk_13
  · exact tyOk_14
  · exact tyOk_15
  · exact tyOk_16
  · exact tyOk_17
  · exact tyOk_18
  · exact tyOk_19
  · exact tyOk_20
  · exact tyOk_21
  · exact tyOk_22
  · exact tyOk_23
  · exact tyOk_24
  · exact tyOk_25
  · exact tyOk_26
  · exact tyOk_27
  · exact tyOk_28
  · exact tyOk_29
  · exact tyOk_31
  · exact tyOk_32
  · exact tyOk_33
  · exact tyOk_34
  · exact tyOk_35
  · exact tyOk_36
  · exact tyOk_38
  · exact tyOk_39
  · exact tyOk_40
  · exact tyOk_42
  · exact tyOk_43
  · exact tyOk_44
  · exact tyOk_45
  · exact tyOk_46
  · exact tyOk_47
  · exact tyOk_48
  · exact tyOk_49
  · exact tyOk_50
  · exact tyOk_52
  · exact tyOk_53
  · exact tyOk_54
  · exact tyOk_55
  · exact tyOk_56
  · exact tyOk_57
  · exact tyOk_58
  · exact tyOk_59
  · exact tyOk_60
  · exact tyOk_61
  · exact tyOk_62
  · exact tyOk_63
  · exact tyOk_64
  · exact tyOk_65
  · exact tyOk_66
  · exact tyOk_67
  · exact tyOk_68
  · exact tyOk_69
  · exact tyOk_70
  · exact tyOk_71
  · exact tyOk_72
  · exact tyOk_73
  · exact tyOk_74
  · exact tyOk_75
  · exact tyOk_76
  · exact tyOk_77
  · exact tyOk_78
  · exact tyOk_79
  · exact tyOk_80
  · exact tyOk_81
  · exact tyOk_82
  · exact tyOk_83
  · exact tyOk_84
  · exact tyOk_85
  · exact tyOk_86
  · exact tyOk_87
  · exact tyOk_88
  · exact tyOk_89
  · exact tyOk_90
  · exact tyOk_91
  · exact tyOk_92
  · exact tyOk_93
  · exact tyOk_94
  · exact tyOk_95
  · exact tyOk_96
  · exact tyOk_97
  · exact tyOk_98
  · exact tyOk_99
  · exact tyOk_100
  · exact tyOk_101
  · exact tyOk_102
  · exact tyOk_103
  · exact tyOk_104
  · exact tyOk_105
  · exact tyOk_106
  · exact tyOk_107
  · exact tyOk_108
  · exact tyOk_109
  · exact tyOk_110
  · exact tyOk_111
  · exact tyOk_112
  · exact tyOk_113
  · exact tyOk_114
  · exact tyOk_115
  · exact tyOk_116
  · exact tyOk_117
  · exact tyOk_118
  · exact tyOk_119
  · exact tyOk_120
  · exact tyOk_121
  · exact tyOk_122
  · exact tyOk_123
  · exact tyOk_124
  · exact tyOk_125
  · exact tyOk_126
  · exact tyOk_127
  · exact tyOk_128
  · exact tyOk_129
  · exact tyOk_130
  · exact tyOk_131
  · exact tyOk_132
  · exact tyOk_133
  · exact tyOk_134
  · exact tyOk_135
  · exact tyOk_136
  · exact tyOk_137
  · exact tyOk_138
  · exact tyOk_139
  · exact tyOk_140
  · exact tyOk_141
  · exact tyOk_142
  · exact tyOk_143
  · exact tyOk_144
  · exact tyOk_145
  · exact tyOk_148
  · exact tyOk_151
  · exact tyOk_153
  · exact tyOk_154
  · exact tyOk_156
  · exact tyOk_157
  · exact tyOk_158
  · exact tyOk_159
  · exact tyOk_163
  · exact tyOk_164
  · exact tyOk_165
  · exact tyOk_166
  · exact tyOk_167
  · exact tyOk_168
  · exact tyOk_169
  · exact tyOk_170

theorem prg : Prg Tryz.prog tys := ⟨tys_ok, fun t ht => by
  unfold tys at ht
  split at ht <;> first | (cases ht; done) | kernel_rfl, by kernel_rfl⟩

end Go.Proofs.YtemicgccgcmmbaaGreat

/- Values without addresses: statements whose order is open. -/
namespace Go.Proofs.YtemicgccgcmmbaaGreat
set_option linter.unusedVariables false
set_option linter.unusedSimpArgs false
open Go Go.RowKit

section
variable {P : Program} {T : TypeId → Ty} {B : Bg} {Q : AX → List D → Sto → Prop} {S : Sto} {ops : Array Oper}

/-- Two frames that an operation cannot tell apart. -/
def Agree (ts : List Tmp) (A A' : List D) : Prop := ∀ t ∈ ts, A[t]? = A'[t]?

def OStep (P : Program) (B : Bg) (Q : AX → List D → Sto → Prop) (ops : Array Oper) (S : Sto) (o : Oper) (K : List D → Prop) (A : List D) : Prop :=
  ∀ a w, At B A S a w → if Region.wanted o (yielded ops a.tmps) then o.wp P a w (fun a' w' => ∃ A', At B A' S a' w' ∧ K A') (Conc B Q) else ∃ A', At B A' S (a.put o.dst undef) w ∧ K A'

/-- It yields d whatever else is going on. -/
def QOp (P : Program) (B : Bg) (Q : AX → List D → Sto → Prop) (ops : Array Oper) (S : Sto) (o : Oper) (A : List D) (d : D) : Prop :=
  ∀ A', Agree (o.looksAt ops) A A' → ∀ K : List D → Prop, K (putA A' o.dst d) → OStep P B Q ops S o K A'

def ALex (P : Program) (B : Bg) (Q : AX → List D → Sto → Prop) (ops : Array Oper) (S : Sto) : List Oper → List D → Prop
  | [], A => Q .normal A S
  | o :: l, A => ∃ d, QOp P B Q ops S o A d ∧ ALex P B Q ops S l (putA A o.dst d)

def AAny (P : Program) (B : Bg) (Q : AX → List D → Sto → Prop) (ops : Array Oper) (S : Sto) : Nat → Array Bool → List D → Prop
  | 0, listed, A => Region.ready .any ops listed = [] ∧ Q .normal A S
  | n + 1, listed, A => (Region.ready .any ops listed = [] → Q .normal A S) ∧ ∀ i ∈ Region.ready .any ops listed, ∃ o d, ops[i]? = some o ∧ QOp P B Q ops S o A d ∧ AAny P B Q ops S n (listed.setIfInBounds i true) (putA A o.dst d)

theorem Agree.refl (ts : List Tmp) (A : List D) : Agree ts A A := fun _ _ => rfl
theorem Agree.symm {ts : List Tmp} {A A' : List D} (h : Agree ts A A') : Agree ts A' A := fun t ht => (h t ht).symm
theorem Agree.trans {ts : List Tmp} {A A' A'' : List D} (h : Agree ts A A') (k : Agree ts A' A'') : Agree ts A A'' := fun t ht => (h t ht).trans (k t ht)
theorem agree_put {ts : List Tmp} (A : List D) (dst : Option Tmp) (d : D) (h : ∀ t, dst = some t → t ∉ ts) : Agree ts A (putA A dst d) := fun t ht => by
  cases dst with
  | none => rfl
  | some u =>
    have : u ≠ t := fun e => h u rfl (e ▸ ht)
    simp [putA, List.getElem?_set_ne this]
theorem putA_comm (A : List D) (d1 d2 : Option Tmp) (x y : D) (h : ∀ t, d1 = some t → d2 ≠ some t) : putA (putA A d1 x) d2 y = putA (putA A d2 y) d1 x := by
  cases d1 with
  | none => rfl
  | some t =>
    cases d2 with
    | none => rfl
    | some u =>
      have : t ≠ u := fun e => h t rfl (by rw [e])
      simp [putA, List.set_comm _ _ this]
theorem QOp.agree {o : Oper} {A A' : List D} {d : D} (h : QOp P B Q ops S o A d) (k : Agree (o.looksAt ops) A A') : QOp P B Q ops S o A' d :=
  fun A'' h2 => h A'' (k.trans h2)

theorem AAny.sound : ∀ (n : Nat) (listed : Array Bool) (A : List D), AAny P B Q ops S n listed A → ∀ a w, At B A S a w → wpAny P .any ops (Conc B Q) n listed a w
  | 0, listed, A, h, a, w, k => ⟨h.1, A, S, k, h.2⟩
  | n + 1, listed, A, h, a, w, k => by
    refine ⟨fun h0 => ⟨A, S, k, h.1 h0⟩, fun i hi => ?_⟩
    obtain ⟨o, d, ho, hq, hn⟩ := h.2 i hi
    unfold wpOp
    simp only [ho]
    have := hq A (Agree.refl _ _) (fun A' => A' = putA A o.dst d) rfl a w k
    have hgo : ∀ a' w', (∃ A', At B A' S a' w' ∧ A' = putA A o.dst d) → wpAny P .any ops (Conc B Q) n (listed.setIfInBounds i true) a' w' := fun a' w' ⟨A', k', e⟩ => by
      subst e; exact AAny.sound n _ _ hn a' w' k'
    split
    · rename_i hw
      rw [if_pos hw] at this
      refine .inl ?_
      unfold Oper.wp at this ⊢
      generalize (execOp a.eval o).run P w = r at *
      cases r with
      | ok nx w' =>
        cases nx <;> simp only [Oper.upon] at this ⊢ <;> first
          | exact hgo _ _ this
          | (refine this.mono (fun e w'' he => ?_)
             cases e <;> first | exact hgo _ _ he | exact he)
          | exact this.mono (fun v w'' he => hgo _ _ he)
          | exact this
      | halt x w' => cases x <;> first | exact this | exact this.elim
    · rename_i hw
      rw [if_neg hw] at this
      exact hgo _ _ this

theorem AAny.first {i : Nat} {oi : Oper} {v : D} (hi : ops[i]? = some oi) : ∀ (n : Nat) (listed : Array Bool) (A : List D),
    (∀ j oj, ops[j]? = some oj → j ≠ i → listed.getD j true = false → (∀ e ∈ oj.after, Region.binds .any e = true → e.on ≠ i) → oi.apart ops oj = true) →
    i ∈ Region.ready .any ops listed → QOp P B Q ops S oi A v → AAny P B Q ops S n (listed.setIfInBounds i true) (putA A oi.dst v) → AAny P B Q ops S (n + 1) listed A := by
  intro n
  induction n with
  | zero =>
    intro listed A _ hr hq H
    refine ⟨fun h => (by rw [h] at hr; cases hr), fun j hj => ?_⟩
    by_cases hji : j = i
    · subst hji; exact ⟨oi, v, hi, hq, H⟩
    · have := ready_mono hj hji
      rw [H.1] at this
      cases this
  | succ n ih =>
    intro listed A hfree hr hq H
    refine ⟨fun h => (by rw [h] at hr; cases hr), fun j hj => ?_⟩
    by_cases hji : j = i
    · subst hji; exact ⟨oi, v, hi, hq, H⟩
    · obtain ⟨oj, u, hoj, hqj, Hj⟩ := H.2 j (ready_mono hj hji)
      obtain ⟨hjun, oj', hoj', hall⟩ := mem_ready.1 hj
      rw [hoj] at hoj'
      simp only [Option.some.injEq] at hoj'
      subst hoj'
      have hnot : ∀ e ∈ oj.after, Region.binds .any e = true → e.on ≠ i := fun e he hb heq => by
        have h1 := hall e he hb
        have h0 := (mem_ready.1 hr).1
        rw [heq] at h1
        rcases Nat.lt_or_ge i listed.size with h' | h'
        · simp [h'] at h0 h1; rw [h0] at h1; cases h1
        · simp [Array.getElem?_eq_none h'] at h1
      obtain ⟨p1, p2, p3⟩ := Oper.apart_spec (hfree j oj hoj hji hjun hnot)
      refine ⟨oj, u, hoj, hqj.agree (agree_put A oi.dst v p1).symm, ?_⟩
      refine ih (listed.setIfInBounds j true) (putA A oj.dst u) (fun k ok hk hki hun hno => ?_) (ready_mono hr (Ne.symm hji)) (hq.agree (agree_put A oj.dst u p3)) ?_
      · refine hfree k ok hk hki ?_ hno
        by_cases hjk : j = k
        · subst hjk; exact hjun
        · rw [getD_set_ne true hjk] at hun; exact hun
      · rw [Array.setIfInBounds_comm _ _ hji, ← putA_comm A oi.dst oj.dst v u p2]
        exact Hj

theorem AAny.lex : ∀ (l : List Oper) (k : Nat) (listed : Array Bool) (A : List D), (∀ j : Nat, l[j]? = ops[k + j]?) → Region.lexFrom .any ops l.length k listed = true → ALex P B Q ops S l A → AAny P B Q ops S l.length listed A
  | [], _, _, _, _, hB, h => ⟨by simpa [Region.lexFrom] using hB, h⟩
  | o :: l, k, listed, A, hl, hB, h => by
    have h0 : ops[k]? = some o := by simpa using (hl 0).symm
    simp only [List.length_cons, Region.lexFrom, Bool.and_eq_true] at hB
    obtain ⟨⟨hr, hf⟩, hB'⟩ := hB
    obtain ⟨d, hq, hK⟩ := h
    exact AAny.first h0 l.length listed A (Region.free_spec h0 hf) (by simpa using hr) hq
      (AAny.lex l (k + 1) _ _ (fun j => by have := hl (j + 1); simpa [Nat.add_assoc, Nat.add_comm 1 j] using this) hB' hK)

theorem At.drawn {A : List D} {a : Act} {w : World} (k : At B A S a w) : At B A S a { w with drawn := w.drawn + 1 } := by
  have e : Evo w S.I w.drew S.I := ((Kp.refl [] w).drew).evo (fun _ _ _ _ => by simp) (fun _ _ _ h => h)
  exact ⟨k.act.evo e, ⟨k.st.nd, fun b t d hm => by obtain ⟨us, h1, h2⟩ := k.st.mutAt b t d hm; exact ⟨us, h1, h2.evo e _ _⟩, k.st.ownAt⟩, k.evo.trans e, k.df⟩

/-- A statement whose order is open, all of whose operations are quiet: the order of the text serves. -/
theorem AW.draw (hP : Prg P T) {id : Nat} {l : List Oper} {A : List D} (hB : Region.lexB .any l.toArray = true) (h : ALex P B Q l.toArray S l A) : AW P B (.region id l.toArray true) Q A S := fun a w k => by
  simp only [Region.lexB, Bool.and_eq_true] at hB
  refine wp_region_any hP.mixed ?_
  have := AAny.lex (P := P) (B := B) (Q := Q) (S := S) (ops := l.toArray) l 0 (Array.replicate l.toArray.size false) A (by simp) (by simpa using hB.2) h
  have h2 := AAny.sound _ _ _ this a _ k.drawn
  simpa using h2

theorem getD_agree {ts : List Tmp} {A A' : List D} (h : Agree ts A A') {t : Tmp} (ht : t ∈ ts) : A.getD t .any = A'.getD t .any := by
  rw [List.getD_eq_getElem?_getD, List.getD_eq_getElem?_getD, h t ht]
theorem evalO_agree {ts : List Tmp} {A A' : List D} (h : Agree ts A A') {x : Operand} (hx : ∀ t, x = .tmp t → t ∈ ts) : evalO A x = evalO A' x := by
  cases x with
  | tmp t => exact getD_agree h (hx t rfl)
  | const v => rfl
  | global g => rfl
  | func f => rfl
theorem looks_mem {o : Oper} {t : Tmp} (h : Operand.tmp t ∈ o.op.operands.toList) : t ∈ o.looksAt ops := by
  unfold Oper.looksAt
  exact List.mem_append_left _ (List.mem_filterMap.2 ⟨_, h, rfl⟩)

theorem valsO_agree {ts : List Tmp} {A A' : List D} (h : Agree ts A A') : ∀ {xs : List Operand}, (∀ t, Operand.tmp t ∈ xs → t ∈ ts) → valsO A xs = valsO A' xs
  | [], _ => rfl
  | x :: xs, hx => by
    unfold valsO
    rw [evalO_agree h (fun t e => hx t (e ▸ List.mem_cons_self)), valsO_agree h (fun t ht => hx t (List.mem_cons_of_mem _ ht))]
theorem opt_agree {ts : List Tmp} {A A' : List D} (h : Agree ts A A') (o : Option Operand) (hx : ∀ t, o = some (.tmp t) → t ∈ ts) : o.map (evalO A) = o.map (evalO A') := by
  cases o with
  | none => rfl
  | some x => simp only [Option.map_some]; rw [evalO_agree h (fun t e => hx t (by rw [e]))]

theorem evalS_agree {o : Oper} {A A' : List D} (h : Agree (o.looksAt ops) A A') : evalS T A S o.op = evalS T A' S o.op := by
  obtain ⟨dst, op, type, pos, after, guard⟩ := o
  have m : ∀ t, Operand.tmp t ∈ op.operands.toList → t ∈ Oper.looksAt ops ⟨dst, op, type, pos, after, guard⟩ := fun t ht => looks_mem ht
  have ev : ∀ x, x ∈ op.operands.toList → evalO A x = evalO A' x := fun x hx => evalO_agree h (fun t e => m t (e ▸ hx))
  cases op with
  | move x => simp only [evalS, evalV]; rw [ev x (by simp [Op.operands])]
  | assign x => simp only [evalS, evalV]; rw [ev x (by simp [Op.operands])]
  | pick c x y => simp only [evalS, evalV]; rw [ev c (by simp [Op.operands]), ev x (by simp [Op.operands]), ev y (by simp [Op.operands])]
  | box t x => simp only [evalS]; rw [ev x (by simp [Op.operands])]
  | build t ps =>
    simp only [evalS, evalV]
    have : (ps.toList.map fun p => (p.1, evalO A p.2)) = ps.toList.map fun p => (p.1, evalO A' p.2) := List.map_congr_left (fun p hp => by rw [ev p.2 (by simp only [Op.operands]; exact List.mem_map.2 ⟨p, hp, rfl⟩)])
    rw [this]
  | buildSlice t n ps =>
    simp only [evalS]
    have : (ps.toList.map fun p => (p.1, evalO A p.2)) = ps.toList.map fun p => (p.1, evalO A' p.2) := List.map_congr_left (fun p hp => by rw [ev p.2 (by simp only [Op.operands]; exact List.mem_map.2 ⟨p, hp, rfl⟩)])
    rw [this]
  | load t x => simp only [evalS, evalV]; rw [ev x (by simp [Op.operands])]
  | store t x y => simp only [evalS]; rw [ev x (by simp [Op.operands]), ev y (by simp [Op.operands])]
  | nilCheck x => simp only [evalS, evalV]; rw [ev x (by simp [Op.operands])]
  | binOp b t x y t2 =>
    simp only [evalS, evalV]
    rw [ev x (by simp [Op.operands]), ev y (by simp [Op.operands])]
  | unOp u t x => simp only [evalS, evalV]; rw [ev x (by simp [Op.operands])]
  | convert s d x => simp only [evalS, evalV]; rw [ev x (by simp [Op.operands])]
  | makeInterface t x => simp only [evalS, evalV]; rw [ev x (by simp [Op.operands])]
  | makeFunc fn f c =>
    simp only [evalS, evalV]
    rw [valsO_agree h (xs := f.toList) (fun t ht => m t (by simp only [Op.operands]; simp only [Array.toList_append, List.mem_append]; exact .inl ht)), valsO_agree h (xs := c.toList) (fun t ht => m t (by simp only [Op.operands]; simp only [Array.toList_append, List.mem_append]; exact .inr ht))]
  | slice t x lo hi mx =>
    simp only [evalS, evalV]
    rw [ev x (by simp [Op.operands]), opt_agree h lo (fun t e => m t (by subst e; simp [Op.operands])), opt_agree h hi (fun t e => m t (by subst e; simp [Op.operands])), opt_agree h mx (fun t e => m t (by subst e; simp [Op.operands]))]
  | fieldAddr t x k => simp only [evalS, evalV]; rw [ev x (by simp [Op.operands])]
  | field t x k => simp only [evalS, evalV]; rw [ev x (by simp [Op.operands])]
  | indexAddr t x i => simp only [evalS, evalV]; rw [ev x (by simp [Op.operands]), ev i (by simp [Op.operands])]
  | index t x i => simp only [evalS, evalV]; rw [ev x (by simp [Op.operands]), ev i (by simp [Op.operands])]
  | extract x i => simp only [evalS, evalV]; rw [ev x (by simp [Op.operands])]
  | call c =>
    obtain ⟨callee, args, ats⟩ := c
    have ea : args.toList.map (evalO A) = args.toList.map (evalO A') := List.map_congr_left (fun x hx => ev x (by simp only [Op.operands, Call.operands, Array.toList_append, List.mem_append]; exact .inr hx))
    simp only [evalS, evalV, ea]
  | _ => rfl

theorem wantedA_agree {o : Oper} {A A' : List D} (h : Agree (o.looksAt ops) A A') : wantedA ops A o = wantedA ops A' o := by
  unfold wantedA
  cases hg : o.guard with
  | none => rfl
  | some gw =>
    obtain ⟨g, want⟩ := gw
    simp only
    cases hd : (ops[g]?).bind (·.dst) with
    | none => rfl
    | some t =>
      simp only
      rw [h t (by unfold Oper.looksAt; rw [hg]; exact List.mem_append_right _ (by show t ∈ ((ops[g]?).bind (·.dst)).toList; rw [hd]; simp))]

theorem QOp.step (hP : Prg P T) {o : Oper} {A : List D} {d : D} (hw : wantedA ops A o = some true) (he : evalS T A S o.op = some (d, S)) : QOp P B Q ops S o A d := fun A' hag K hK a w k => by
  have hw' : wantedA ops A' o = some true := (wantedA_agree hag).symm.trans hw
  have he' : evalS T A' S o.op = some (d, S) := (evalS_agree (T := T) (S := S) hag).symm.trans he
  rw [if_pos (wantedA_ok k.act hw')]
  obtain ⟨r, y, w', h1, h2, h3, h4, h5⟩ := evalS_ok hP k.st k.act he'
  unfold Oper.wp
  rw [h1]
  have hgo : ∃ A'', At B A'' S (a.put o.dst y) w' ∧ K A'' := ⟨_, ⟨(k.act.evo h5).put o.dst h3, h4, k.evo.trans h5, by rw [put_df]; exact k.df⟩, hK⟩
  rcases h2 with rfl | ⟨rfl, rfl⟩
  · exact hgo
  · exact hgo
theorem QOp.skip {o : Oper} {A : List D} (hw : wantedA ops A o = some false) : QOp P B Q ops S o A (.tup []) := fun A' hag K hK a w k => by
  have hw' : wantedA ops A' o = some false := (wantedA_agree hag).symm.trans hw
  rw [if_neg (by rw [wantedA_ok k.act hw']; simp)]
  exact ⟨_, ⟨k.act.put o.dst RVal.undef, k.st, k.evo, by rw [put_df]; exact k.df⟩, hK⟩
theorem QOp.call {f : FuncId} {args : Array Operand} {ats : Array TypeId} {o : Oper} {A : List D} {d : D} {ds : List D} (ho : o.op = .call ⟨.value (.func f), args, ats⟩) (hw : wantedA ops A o = some true) (hd : args.toList.map (evalO A) = ds)
    (hc : ACalls P f ds S (fun e S' => e = .ret d ∧ S' = S)) : QOp P B Q ops S o A d := fun A' hag K hK a w k => by
  have hw' : wantedA ops A' o = some true := (wantedA_agree hag).symm.trans hw
  rw [if_pos (wantedA_ok k.act hw')]
  have hx := RVals.of_eval k.act args.toList
  have hag' : args.toList.map (evalO A') = ds := by
    rw [← hd]
    refine List.map_congr_left (fun x hx => (evalO_agree hag (fun t e => ?_)).symm)
    subst e
    exact looks_mem (by rw [ho]; simp only [Op.operands, Call.operands, Array.toList_append, List.mem_append]; exact .inr hx)
  rw [hag'] at hx
  unfold Oper.wp
  have hrun : (execOp a.eval o).run P w = .ok (.enter f (args.toList.map a.eval).toArray) w := by
    obtain ⟨dst, op, type, pos, after, guard⟩ := o
    simp only at ho
    subst ho
    have e : (List.map a.eval args.toList).toArray = args.map a.eval := by apply Array.ext'; simp
    rw [e]
    have h := hc.1 (args.map a.eval) w
    simp only [execOp, resolve, Sem.run_bind, Act.eval, Deferred.ofValue, Sem.run_pure, Result.andThen_ok, invoke]
    simpa using h
  rw [hrun]
  refine (hc.2 w _ k.st hx).mono (fun e w' hpost => ?_)
  cases e with
  | returned v =>
    obtain ⟨d', S', h1, h2, h3, h4, rfl⟩ := hpost
    simp only [AEnd.ret.injEq] at h4
    subst h4
    exact ⟨_, ⟨(k.act.evo h2).put o.dst h3, h1, k.evo.trans h2, by rw [put_df]; exact k.df⟩, hK⟩
  | panicked ch => obtain ⟨d', v, S', he, h1, h2, h3, h4, _⟩ := hpost; cases h4
  | outgrown => exact hpost.elim

/-- As far as it goes by itself. -/
noncomputable def runQ (T : TypeId → Ty) (ops : Array Oper) (S : Sto) : List Oper → List D → List Oper × List D
  | [], A => ([], A)
  | o :: l, A =>
    match wantedA ops A o with
    | some true => (match o.op with
      | .store _ _ _ => (o :: l, A)
      | _ => match evalS T A S o.op with | some (d, _) => runQ T ops S l (putA A o.dst d) | Option.none => (o :: l, A))
    | some false => runQ T ops S l (putA A o.dst (.tup []))
    | Option.none => (o :: l, A)
theorem evalS_quiet {A : List D} {op : Op} {d : D} {S' : Sto} (hs : ∀ t x y, op ≠ .store t x y) (h : evalS T A S op = some (d, S')) : S' = S := by
  have key : ∀ op, (evalV T A S.bk op).map (fun d => (d, S)) = some (d, S') → S' = S := fun op h => by
    obtain ⟨_, _, h⟩ := Option.map_eq_some_iff.1 h
    simp only [Prod.mk.injEq] at h; exact h.2.symm
  cases op <;> first
    | exact absurd rfl (hs _ _ _)
    | exact key _ h
    | (simp only [evalS] at h
       first
         | (split at h
            · simp only [Option.some.injEq, Prod.mk.injEq] at h; exact h.2.symm
            · cases h)
         | (obtain ⟨_, _, h⟩ := Option.map_eq_some_iff.1 h
            simp only [Prod.mk.injEq] at h; exact h.2.symm))
theorem ALex.run (hP : Prg P T) : ∀ (l : List Oper) (A : List D) {l' : List Oper} {A' : List D}, runQ T ops S l A = (l', A') → ALex P B Q ops S l' A' → ALex P B Q ops S l A
  | [], A, l', A', h, k => by simp only [runQ, Prod.mk.injEq] at h; obtain ⟨rfl, rfl⟩ := h; exact k
  | o :: l, A, l', A', h, k => by
    unfold runQ at h
    split at h
    · rename_i hw
      split at h
      · simp only [Prod.mk.injEq] at h; obtain ⟨rfl, rfl⟩ := h; exact k
      · rename_i hns
        split at h
        · rename_i d S' he
          have e : S' = S := evalS_quiet (fun t x y e => hns t x y e) he
          rw [e] at he
          exact ⟨d, QOp.step hP hw he, ALex.run hP l _ h k⟩
        · simp only [Prod.mk.injEq] at h; obtain ⟨rfl, rfl⟩ := h; exact k
    · rename_i hw
      exact ⟨_, QOp.skip hw, ALex.run hP l _ h k⟩
    · simp only [Prod.mk.injEq] at h; obtain ⟨rfl, rfl⟩ := h; exact k
theorem ALex.runP (hP : Prg P T) (r : List Oper) : ∀ (l : List Oper) (A : List D) {l' : List Oper} {A' : List D}, runQ T ops S l A = (l', A') → ALex P B Q ops S (l' ++ r) A' → ALex P B Q ops S (l ++ r) A
  | [], A, l', A', h, k => by simp only [runQ, Prod.mk.injEq] at h; obtain ⟨rfl, rfl⟩ := h; exact k
  | o :: l, A, l', A', h, k => by
    unfold runQ at h
    split at h
    · rename_i hw
      split at h
      · simp only [Prod.mk.injEq] at h; obtain ⟨rfl, rfl⟩ := h; exact k
      · rename_i hns
        split at h
        · rename_i d S' he
          have e : S' = S := evalS_quiet (fun t x y e => hns t x y e) he
          rw [e] at he
          exact ⟨d, QOp.step hP hw he, ALex.runP hP r l _ h k⟩
        · simp only [Prod.mk.injEq] at h; obtain ⟨rfl, rfl⟩ := h; exact k
    · rename_i hw
      exact ⟨_, QOp.skip hw, ALex.runP hP r l _ h k⟩
    · simp only [Prod.mk.injEq] at h; obtain ⟨rfl, rfl⟩ := h; exact k
theorem ALex.goP (hP : Prg P T) {l l' m : List Oper} {A A' : List D} (run : runQ T ops S (l.take 5) A = (l', A')) (pr : Nat.blt l'.length (l.take 5).length = true) (mm : l' ++ l.drop 5 = m) (k : ALex P B Q ops S m A') : ALex P B Q ops S l A := by
  have h := ALex.runP hP (l.drop 5) (l.take 5) A run (by rw [mm]; exact k)
  rwa [List.take_append_drop] at h
theorem ALex.go (hP : Prg P T) {l l' : List Oper} {A A' : List D} (run : runQ T ops S l A = (l', A')) (k : ALex P B Q ops S l' A') : ALex P B Q ops S l A := ALex.run hP l A run k
theorem ALex.nil {A : List D} (h : Q .normal A S) : ALex P B Q ops S [] A := h
theorem ALex.call {f : FuncId} {args : Array Operand} {ats : Array TypeId} {o : Oper} {l : List Oper} {A : List D} {d : D} {ds : List D} (ho : o.op = .call ⟨.value (.func f), args, ats⟩) (hw : wantedA ops A o = some true) (hd : args.toList.map (evalO A) = ds)
    (hc : ACalls P f ds S (fun e S' => e = .ret d ∧ S' = S)) (k : ALex P B Q ops S l (putA A o.dst d)) : ALex P B Q ops S (o :: l) A := ⟨d, QOp.call ho hw hd hc, k⟩
end
attribute [go_sem] runQ

end Go.Proofs.YtemicgccgcmmbaaGreat

/- Values without addresses: short forms for walks. -/
namespace Go.Proofs.YtemicgccgcmmbaaGreat
set_option linter.unusedVariables false
set_option linter.unusedSimpArgs false
open Go Go.RowKit

section
variable {P : Program} {T : TypeId → Ty} {B : Bg} {Q : AX → List D → Sto → Prop} {A : List D} {S : Sto} {ops : Array Oper} {l : List Oper} {o : Oper}
theorem AW.condT {c : Operand} {x y : Code} (hc : evalO A c = .v (.bool true)) (h : AW P B x Q A S) : AW P B (.cond c x y) Q A S := AW.cond hc (by simpa using h)
theorem AW.condF {c : Operand} {x y : Code} (hc : evalO A c = .v (.bool false)) (h : AW P B y Q A S) : AW P B (.cond c x y) Q A S := AW.cond hc (by simpa using h)

/-- It hands back d, and what may be written is as it was. -/
def RetQ (d : D) (S : Sto) : AEnd → Sto → Prop := fun e S' => e = .ret d ∧ S' = S
theorem AOps.callq {f : FuncId} {args : Array Operand} {ats : Array TypeId} {d : D} {S' : Sto} (ho : o.op = .call ⟨.value (.func f), args, ats⟩) (hw : wantedA ops A o = some true)
    (hc : ACalls P f (args.toList.map (evalO A)) S (RetQ d S')) (k : AOps P B ops Q l (putA A o.dst d) S') : AOps P B ops Q (o :: l) A S :=
  AOps.call ho hw hc (fun d' S' h => by obtain ⟨h1, rfl⟩ := h; simp only [AEnd.ret.injEq] at h1; subst h1; exact k) (fun d' S' h => by cases h.1)
theorem ALex.callq {f : FuncId} {args : Array Operand} {ats : Array TypeId} {d : D} (ho : o.op = .call ⟨.value (.func f), args, ats⟩) (hw : wantedA ops A o = some true)
    (hc : ACalls P f (args.toList.map (evalO A)) S (RetQ d S)) (k : ALex P B Q ops S l (putA A o.dst d)) : ALex P B Q ops S (o :: l) A := ALex.call ho hw rfl hc k
/-- A call that changes what may be written, and ends well. -/
theorem AOps.callx {f : FuncId} {args : Array Operand} {ats : Array TypeId} {R : D → Sto → Prop} (ho : o.op = .call ⟨.value (.func f), args, ats⟩) (hw : wantedA ops A o = some true)
    (hc : ACalls P f (args.toList.map (evalO A)) S (fun e S' => ∃ d, e = .ret d ∧ R d S')) (k : ∀ d S', R d S' → AOps P B ops Q l (putA A o.dst d) S') : AOps P B ops Q (o :: l) A S :=
  AOps.call ho hw hc (fun d' S' h => by obtain ⟨d, h1, h2⟩ := h; simp only [AEnd.ret.injEq] at h1; subst h1; exact k _ _ h2) (fun d' S' h => by obtain ⟨d, h1, _⟩ := h; cases h1)

theorem endq {rs : List ResultVar} {ds : List D} {S0 S' : Sto} {d : D} (h : resD T A S rs = some ds) (hd : oneOf ds = d) (hS : S'.Sub S) : EndQ T rs S0 (RetQ d S') .ret A S := ⟨ds, d, S', h, .inl hd.symm, hS, rfl, rfl⟩
theorem endn {rs : List ResultVar} {ds : List D} {S0 S' : Sto} {d : D} (h : resD T A S rs = some ds) (hd : oneOf ds = d) (hS : S'.Sub S) : EndQ T rs S0 (RetQ d S') .normal A S := ⟨ds, d, S', h, .inl hd.symm, hS, rfl, rfl⟩
theorem endx {rs : List ResultVar} {ds : List D} {S0 S' : Sto} {d : D} {R : D → Sto → Prop} (h : resD T A S rs = some ds) (hd : oneOf ds = d) (hs : S'.Sub S) (hr : R d S') : EndQ T rs S0 (fun e S' => ∃ d, e = .ret d ∧ R d S') .ret A S := ⟨ds, d, S', h, .inl hd.symm, hs, d, rfl, hr⟩
theorem endnx {rs : List ResultVar} {ds : List D} {S0 S' : Sto} {d : D} {R : D → Sto → Prop} (h : resD T A S rs = some ds) (hd : oneOf ds = d) (hs : S'.Sub S) (hr : R d S') : EndQ T rs S0 (fun e S' => ∃ d, e = .ret d ∧ R d S') .normal A S := ⟨ds, d, S', h, .inl hd.symm, hs, d, rfl, hr⟩
theorem endu {rs : List ResultVar} {ds : List D} {S0 S' : Sto} {d : D} {R : D → Sto → Prop} (h : resD T A S rs = some ds) (hd : untag (oneOf ds) = d) (hs : S'.Sub S) (hr : R d S') : EndQ T rs S0 (fun e S' => ∃ d, e = .ret d ∧ R d S') .ret A S := ⟨ds, d, S', h, .inr hd.symm, hs, d, rfl, hr⟩
theorem enduq {rs : List ResultVar} {ds : List D} {S0 S' : Sto} {d : D} (h : resD T A S rs = some ds) (hd : untag (oneOf ds) = d) (hs : S'.Sub S) : EndQ T rs S0 (RetQ d S') .ret A S := ⟨ds, d, S', h, .inr hd.symm, hs, rfl, rfl⟩
theorem Sto.Sub.of_eq {S S' : Sto} (h : S' = S) : S'.Sub S := h ▸ Sto.Sub.refl _
theorem getM_key {bk : List (Nat × TypeId × D)} {b : Nat} {x : TypeId × D} (h : getM bk b = some x) : b ∈ bk.map (·.1) := by
  obtain ⟨t, d⟩ := x
  exact List.mem_map.2 ⟨_, getM_mem h, rfl⟩
theorem getM_ne {bk : List (Nat × TypeId × D)} {b c : Nat} {x : TypeId × D} (h : getM bk b = some x) (hc : c ∉ bk.map (·.1)) : ¬ b = c := fun e => hc (e ▸ getM_key h)
theorem getM_cons {c b : Nat} {t : TypeId} {d : D} {bk : List (Nat × TypeId × D)} : getM ((c, t, d) :: bk) b = if b = c then some (t, d) else getM bk b := rfl
theorem setM_cons {c b : Nat} {t : TypeId} {d x : D} {bk : List (Nat × TypeId × D)} : setM ((c, t, d) :: bk) b x = if b = c then (c, t, x) :: bk else (c, t, d) :: setM bk b x := rfl
@[go_sem] theorem getM_setM {bk : List (Nat × TypeId × D)} {b : Nat} {x : D} : getM (setM bk b x) b = (getM bk b).map fun p => (p.1, x) := by
  induction bk with
  | nil => rfl
  | cons a bk ih =>
    obtain ⟨c, t, d⟩ := a
    rw [setM_cons, getM_cons]
    by_cases e : b = c
    · rw [if_pos e, if_pos e, getM_cons, if_pos e]; rfl
    · rw [if_neg e, if_neg e, getM_cons, if_neg e]; exact ih
@[go_sem] theorem setM_setM {bk : List (Nat × TypeId × D)} {b : Nat} {x y : D} : setM (setM bk b x) b y = setM bk b y := by
  induction bk with
  | nil => rfl
  | cons a bk ih =>
    obtain ⟨c, t, d⟩ := a
    rw [setM_cons, setM_cons]
    by_cases e : b = c
    · rw [if_pos e, if_pos e, setM_cons, if_pos e]
    · rw [if_neg e, if_neg e, setM_cons, if_neg e, ih]
theorem getM_setM_ne {bk : List (Nat × TypeId × D)} {b c : Nat} {x : D} (h : ¬ c = b) : getM (setM bk b x) c = getM bk c := by
  induction bk with
  | nil => rfl
  | cons a bk ih =>
    obtain ⟨k, t, d⟩ := a
    rw [setM_cons, getM_cons]
    by_cases e : b = k
    · subst e; rw [if_pos rfl, if_neg h, getM_cons, if_neg h]
    · rw [if_neg e, getM_cons, ih]
theorem setM_same {bk : List (Nat × TypeId × D)} {b : Nat} {t : TypeId} {x : D} (h : getM bk b = some (t, x)) : setM bk b x = bk := by
  induction bk with
  | nil => rfl
  | cons a bk ih =>
    obtain ⟨k, t', d⟩ := a
    rw [getM_cons] at h
    rw [setM_cons]
    by_cases e : b = k
    · rw [if_pos e] at h ⊢; simp only [Option.some.injEq, Prod.mk.injEq] at h; rw [h.2]
    · rw [if_neg e] at h ⊢; rw [ih h]
/-- Newer blocks are let go. -/
theorem Sto.Sub.cons {S' : Sto} {bk : List (Nat × TypeId × D)} {ow : List (Nat × Nat)} {x : Nat × TypeId × D} (h : S'.Sub ⟨bk, ow⟩) : S'.Sub ⟨x :: bk, ow⟩ := ⟨h.m.cons x, h.o⟩
end

def setL : List D → List Nat → List D → List D
  | A, s :: sl, x :: xs => setL (A.set s x) sl xs
  | A, _, _ => A
/-- The frame at a loop's head: below m as it was, but the slots sl. -/
def frameL (m : Nat) (sl : List Nat) (A xs : List D) : List D := setL (A.take m ++ List.replicate (A.length - m) .any) sl xs
theorem AW.frame {P : Program} {B : Bg} {Q : AX → List D → Sto → Prop} {A A' : List D} {S : Sto} {c : Code} (fr : A = A') (h : AW P B c Q A' S) : AW P B c Q A S := fr ▸ h
theorem AW.loopS {P : Program} {B : Bg} {Q : AX → List D → Sto → Prop} {A : List D} {S : Sto} {c : Code} (m : Nat) (sl : List Nat) (J : List D → Sto → Prop) (μ : List D → Sto → Nat) (xs0 : List D) (S0 : Sto) (weak : weakA A (frameL m sl A xs0)) (hs0 : S0.Sub S) (start : J xs0 S0)
    (round : ∀ xs S', J xs S' → AW P B c (AX.then (fun A' S'' => ∃ ys S3, weakA A' (frameL m sl A ys) ∧ S3.Sub S'' ∧ J ys S3 ∧ μ ys S3 < μ xs S') Q) (frameL m sl A xs) S') : AW P B (.loop c) Q A S := by
  refine AW.loop (fun A' S' => ∃ xs, A' = frameL m sl A xs ∧ J xs S') (fun A' S' => open Classical in if h : ∃ n, ∃ xs, A' = frameL m sl A xs ∧ J xs S' ∧ μ xs S' = n then (exists_min h).choose else 0) _ S0 weak hs0 ⟨xs0, rfl, start⟩ ?_
  intro A1 S1 ⟨xs1, e1, j1⟩
  have hex : ∃ n, ∃ xs, A1 = frameL m sl A xs ∧ J xs S1 ∧ μ xs S1 = n := ⟨_, xs1, e1, j1, rfl⟩
  obtain ⟨⟨xs, e, j, hm⟩, -⟩ := (exists_min hex).choose_spec
  rw [e]
  refine (round xs S1 j).mono (fun x A' S' q => ?_)
  cases x with
  | normal =>
    obtain ⟨ys, S3, h1, h2, h3, h4⟩ := q
    refine ⟨_, S3, h1, h2, ⟨ys, rfl, h3⟩, ?_⟩
    have hex' : ∃ n, ∃ xs, frameL m sl A ys = frameL m sl A xs ∧ J xs S3 ∧ μ xs S3 = n := ⟨_, ys, rfl, h3, rfl⟩
    rw [dif_pos hex', ← e, dif_pos hex, ← hm]
    exact Nat.lt_of_le_of_lt ((exists_min hex').choose_spec.2 _ ⟨ys, rfl, h3, rfl⟩) h4
  | exit id => exact q
  | goto l => exact q
  | ret => exact q
  | panic d => exact q

/-- A text, a number, a truth, an address. -/
abbrev sD (s : Bs) : D := .v (.string ⟨s.toArray⟩)
abbrev iD (n : Int) : D := .v (.int .i64 n)
abbrev uD (n : Int) : D := .v (.int .u64 n)
abbrev bD (b : Bool) : D := .v (.bool b)
def nI : D → Nat
  | .v (.int _ n) => n.toNat
  | _ => 0
abbrev pD (b : Nat) : D := .v (.pointer (some ⟨b, 0, none⟩))

@[go_sem] theorem str_size (l : Bs) : ByteArray.size ⟨l.toArray⟩ = l.length := rfl
@[go_sem] theorem str_toList (l : Bs) : ByteArray.toList ⟨l.toArray⟩ = l := by simp
@[go_sem] theorem strA_app (l m : Bs) : (⟨l.toArray⟩ ++ ⟨m.toArray⟩ : ByteArray) = ⟨(l ++ m).toArray⟩ := by
  apply ByteArray.ext
  simp
@[go_sem] theorem str_extract (l : Bs) (a b : Nat) : ByteArray.extract ⟨l.toArray⟩ a b = ⟨((l.drop a).take (b - a)).toArray⟩ := by
  apply ByteArray.ext
  simp [ByteArray.data_extract, List.extract_eq_take_drop]
@[go_sem] theorem str_data (l : Bs) : (ByteArray.mk l.toArray).data.toList = l := by simp

attribute [go_sem] untag untags and_false false_and or_false false_or or_true true_or not_true_eq_false not_false_eq_true nI setL frameL List.replicate_succ List.replicate_zero List.cons_append List.nil_append List.size_toArray List.take_succ_cons List.take_zero List.drop_zero List.drop_succ_cons

end Go.Proofs.YtemicgccgcmmbaaGreat

/- Keys that rise. -/
namespace Go.Proofs.YtemicgccgcmmbaaGreat
set_option linter.unusedVariables false
set_option linter.unusedSimpArgs false
open Go Go.RowKit

def risesFrom (m : Nat) : Option Bs → List Bs → Bool
  | _, [] => true
  | pv, k :: t => decide (1 ≤ k.length) && decide (k.length ≤ m) && (match pv with | none => true | some q => Op.bytesLess q k) && risesFrom m (some k) t

theorem risesDrop {α : Type} (l : List α) (k : Nat) (x : α) (hx : l[k]? = some x) (m : Nat) (f : α → Bs) :
    risesFrom m (if k = 0 then none else (l[k - 1]?).map f) ((l.drop k).map f) =
      (decide (1 ≤ (f x).length) && decide ((f x).length ≤ m) && (match (if k = 0 then none else (l[k - 1]?).map f) with | none => true | some q => Op.bytesLess q (f x)) && risesFrom m (if k + 1 = 0 then none else (l[k + 1 - 1]?).map f) ((l.drop (k + 1)).map f)) := by
  obtain ⟨hk, rfl⟩ := List.getElem?_eq_some_iff.1 hx
  rw [← List.getElem_cons_drop hk]
  simp only [List.map_cons, risesFrom, Nat.add_eq_zero_iff, Nat.one_ne_zero, and_false, if_false, Nat.add_sub_cancel, hx, Option.map_some]

theorem risesDrop' (l : List Bs) (k : Nat) (x : Bs) (hx : l[k]? = some x) (m : Nat) :
    risesFrom m (if k = 0 then none else l[k - 1]?) (l.drop k) =
      (decide (1 ≤ x.length) && decide (x.length ≤ m) && (match (if k = 0 then none else l[k - 1]?) with | none => true | some q => Op.bytesLess q x) && risesFrom m (if k + 1 = 0 then none else l[k + 1 - 1]?) (l.drop (k + 1))) := by
  have := risesDrop l k x hx m (fun x => x)
  simpa using this
theorem rises_no1 {r r' : Bool} {x : Bs} {m : Nat} {pv : Option Bs} (h : r = (decide (1 ≤ x.length) && decide (x.length ≤ m) && (match pv with | none => true | some q => Op.bytesLess q x) && r')) (h1 : x.length < 1) : r = false := by
  rw [h, show decide (1 ≤ x.length) = false from decide_eq_false (by omega)]; rfl
theorem rises_no2 {r r' : Bool} {x : Bs} {m : Nat} {pv : Option Bs} (h : r = (decide (1 ≤ x.length) && decide (x.length ≤ m) && (match pv with | none => true | some q => Op.bytesLess q x) && r')) (h1 : m < x.length) : r = false := by
  rw [h, show decide (x.length ≤ m) = false from decide_eq_false (by omega)]; simp
theorem rises_no3 {r r' : Bool} {x q : Bs} {m : Nat} (h : r = (decide (1 ≤ x.length) && decide (x.length ≤ m) && (match some q with | none => true | some q => Op.bytesLess q x) && r')) (h1 : Op.bytesLess q x = false) : r = false := by
  rw [h]; simp [h1]
theorem rises_yes0 {r r' : Bool} {x : Bs} {m : Nat} (h : r = (decide (1 ≤ x.length) && decide (x.length ≤ m) && (match (none : Option Bs) with | none => true | some q => Op.bytesLess q x) && r')) (h1 : ¬ x.length < 1) (h2 : ¬ m < x.length) : r = r' := by
  rw [h, decide_eq_true (show 1 ≤ x.length by omega), decide_eq_true (show x.length ≤ m by omega)]; rfl
theorem rises_yes {r r' : Bool} {x q : Bs} {m : Nat} (h : r = (decide (1 ≤ x.length) && decide (x.length ≤ m) && (match some q with | none => true | some q => Op.bytesLess q x) && r')) (h1 : ¬ x.length < 1) (h2 : ¬ m < x.length) (h3 : Op.bytesLess q x = true) : r = r' := by
  rw [h, decide_eq_true (show 1 ≤ x.length by omega), decide_eq_true (show x.length ≤ m by omega)]; simp [h3]

set_option maxHeartbeats 1000000 in set_option maxRecDepth 100000 in
theorem pair_key (p : Pr) (w : World) : Calls Tryz.prog 53 #[.agg #[.string ⟨p.1.toArray⟩, .string ⟨p.2.toArray⟩]] w (Rets (.string ⟨p.1.toArray⟩) w) := by
  go_enter Tryz.func53, Tryz.ntmps53
  go_wp2
  go_ret
  exact ⟨rfl, by (try simp only [alloc_ext, drew_ext, drewN_ext, ext_ext]); exact ⟨_, _, rfl⟩⟩

set_option maxHeartbeats 1000000 in set_option maxRecDepth 100000 in
theorem sep_key (p : Bs) (w : World) : Calls Tryz.prog 59 #[.string ⟨p.toArray⟩] w fun e w' => e = .returned (.string ⟨p.toArray⟩) ∧ w = w' := by
  go_enter Tryz.func59, Tryz.ntmps59
  go_wp2
  go_ret
  exact ⟨rfl, rfl⟩

set_option maxHeartbeats 1000000 in set_option maxRecDepth 100000 in
theorem rises_pair (P : Nat) (wd : Int) (a : Option Addr) (c : Nat) (l : List Pr) (w : World) (hP : P ≤ 8192) (hl : l.length ≤ 8796093022208) (hs : ∀ x ∈ l, (x.1).length ≤ 140737488351232) (h : PsAt w a l) :
    Calls Tryz.prog 52 #[.agg #[.int .i64 P, .int .i64 wd], .slice a l.length c, .func (.func 53) #[] #[]] w (Rets (.bool (risesFrom (P / 16) none (l.map fun x => x.1))) w) := by
  have H := Lib.hid h; clear h
  have HS := Lib.hid hs; clear hs
  go_enter Tryz.func52, Tryz.ntmps52
  go_wp2
  go_loopw [7, 8, 9, 12] (fun _ _ _ i wr => ∃ k bs n, i = .int .i64 (k : Nat) ∧ k ≤ l.length ∧ wr = ext (w.alloc (.cells #[.int .i64 P, .int .i64 wd] 23)) bs n ∧ Hid (risesFrom (P / 16) none (l.map fun x => x.1) = risesFrom (P / 16) (if k = 0 then none else (l[k - 1]?).map fun x => x.1) ((l.drop k).map fun x => x.1))) (fun _ _ _ i _ => l.length - (intOf i).toNat)
  case atStart => exact ⟨0, [], 0, rfl, Nat.zero_le _, ext_zero _, rfl⟩
  case round =>
    obtain ⟨k, bs, n, rfl, hk, rfl, HE⟩ := hrel
    by_cases hlt : k < l.length
    · obtain ⟨x, hx⟩ : ∃ x, l[k]? = some x := ⟨_, List.getElem?_eq_getElem hlt⟩
      have hd := risesDrop l k x hx (P / 16) (fun x => x.1)
      obtain ⟨b, o, rfl, hb, cf1, cf2⟩ := H.out k x hx
      have hxl := HS.out x (List.mem_of_getElem? hx)
      have HX := Lib.hid hx; have HD := Lib.hid hd; clear hx hd
      have hbb : b < w.heap.size + 1 := by omega
      by_cases h1 : (x.1).length < 1
      · have hf := Lib.hid (rises_no1 (x := x.1) (HE.out.trans (by rw [HD.out])) h1)
        go_wp2_with (go_at_call 53; refine (pair_key _ _).mono ?_; rintro e w' ⟨rfl, bs1, n1, rfl⟩)
        go_ret
        rw [hf.out]
        exact ⟨rfl, by (try simp only [alloc_ext, drew_ext, drewN_ext, ext_ext]); exact ⟨_, _, rfl⟩⟩
      · by_cases h2 : P / 16 < (x.1).length
        · have hf := Lib.hid (rises_no2 (x := x.1) (HE.out.trans (by rw [HD.out])) h2)
          go_wp2_with (first | (go_at_call 53; refine (pair_key _ _).mono ?_; rintro e w' ⟨rfl, bs1, n1, rfl⟩) | (go_at_call 67; refine (maxKey_any _ _ _ (by omega) (by omega)).mono ?_; rintro e w' ⟨rfl, bs2, n2, rfl⟩))
          go_ret
          rw [hf.out]
          exact ⟨rfl, by (try simp only [alloc_ext, drew_ext, drewN_ext, ext_ext]); exact ⟨_, _, rfl⟩⟩
        · by_cases h3 : 0 < k
          · obtain ⟨y, hy⟩ : ∃ y, l[k - 1]? = some y := ⟨_, List.getElem?_eq_getElem (show k - 1 < l.length by omega)⟩
            obtain ⟨b', o', hb', hb'', cg1, cg2⟩ := H.out (k - 1) y hy
            obtain ⟨rfl, rfl⟩ : b' = b ∧ o' = o := by cases hb'; exact ⟨rfl, rfl⟩
            clear hb' hb''
            have hkk : ((k : Int) - 1).toNat = k - 1 := by omega
            have HY := Lib.hid hy; clear hy
            have hpv : (if k = 0 then none else (l[k - 1]?).map fun x => x.1) = some (y.1) := by rw [if_neg (by omega), HY.out]; rfl
            have HV := Lib.hid hpv; clear hpv
            by_cases h4 : Op.bytesLess (y.1) (x.1) = true
            · have hf := Lib.hid (rises_yes (x := x.1) (HE.out.trans (by rw [HD.out, HV.out])) h1 h2 h4)
              go_wp2_with (first | (go_at_call 53; refine (pair_key _ _).mono ?_; rintro e w' ⟨rfl, bs1, n1, rfl⟩) | (go_at_call 67; refine (maxKey_any _ _ _ (by omega) (by omega)).mono ?_; rintro e w' ⟨rfl, bs2, n2, rfl⟩))
              go_roundw
              case rel => exact ⟨k + 1, _, _, by go_num, by omega, by (try simp only [ext_alloc, ext_drew, ext_drewN, ext_ext]); rfl, hf.out⟩
              case measure => simp [intOf]; omega
            · have h4' : Op.bytesLess (y.1) (x.1) = false := by simpa using h4
              clear h4
              have hf := Lib.hid (rises_no3 (x := x.1) (HE.out.trans (by rw [HD.out, HV.out])) h4')
              go_wp2_with (first | (go_at_call 53; refine (pair_key _ _).mono ?_; rintro e w' ⟨rfl, bs1, n1, rfl⟩) | (go_at_call 67; refine (maxKey_any _ _ _ (by omega) (by omega)).mono ?_; rintro e w' ⟨rfl, bs2, n2, rfl⟩))
              go_ret
              rw [hf.out]
              exact ⟨rfl, by (try simp only [alloc_ext, drew_ext, drewN_ext, ext_ext]); exact ⟨_, _, rfl⟩⟩
          · have hpv : (if k = 0 then none else (l[k - 1]?).map fun x => x.1) = none := by rw [if_pos (by omega)]
            have hf := Lib.hid (rises_yes0 (x := x.1) (HE.out.trans (by rw [HD.out, hpv])) h1 h2)
            clear hpv
            go_wp2_with (first | (go_at_call 53; refine (pair_key _ _).mono ?_; rintro e w' ⟨rfl, bs1, n1, rfl⟩) | (go_at_call 67; refine (maxKey_any _ _ _ (by omega) (by omega)).mono ?_; rintro e w' ⟨rfl, bs2, n2, rfl⟩))
            go_roundw
            case rel => exact ⟨k + 1, _, _, by go_num, by omega, by (try simp only [ext_alloc, ext_drew, ext_drewN, ext_ext]); rfl, hf.out⟩
            case measure => simp [intOf]; omega
    · have hf : Hid (risesFrom (P / 16) none (l.map fun x => x.1) = true) := by show _ = _; rw [HE.out, List.drop_of_length_le (by omega)]; rfl
      go_wp2
      go_ret
      rw [hf.out]
      exact ⟨rfl, by (try simp only [alloc_ext, drew_ext, drewN_ext, ext_ext]); exact ⟨_, _, rfl⟩⟩

set_option maxHeartbeats 1000000 in set_option maxRecDepth 100000 in
theorem rises_sep (P : Nat) (wd : Int) (a : Option Addr) (c : Nat) (l : List Bs) (w : World) (hP : P ≤ 8192) (hl : l.length ≤ 8796093022208) (hs : ∀ x ∈ l, (x).length ≤ 140737488351232) (h : SsAt w a l) :
    Calls Tryz.prog 58 #[.agg #[.int .i64 P, .int .i64 wd], .slice a l.length c, .func (.func 59) #[] #[]] w (Rets (.bool (risesFrom (P / 16) none l)) w) := by
  have H := Lib.hid h; clear h
  have HS := Lib.hid hs; clear hs
  go_enter Tryz.func58, Tryz.ntmps58
  go_wp2
  go_loopw [7, 8, 9, 12] (fun _ _ _ i wr => ∃ k bs n, i = .int .i64 (k : Nat) ∧ k ≤ l.length ∧ wr = ext (w.alloc (.cells #[.int .i64 P, .int .i64 wd] 23)) bs n ∧ Hid (risesFrom (P / 16) none l = risesFrom (P / 16) (if k = 0 then none else l[k - 1]?) (l.drop k))) (fun _ _ _ i _ => l.length - (intOf i).toNat)
  case atStart => exact ⟨0, [], 0, rfl, Nat.zero_le _, ext_zero _, rfl⟩
  case round =>
    obtain ⟨k, bs, n, rfl, hk, rfl, HE⟩ := hrel
    by_cases hlt : k < l.length
    · obtain ⟨x, hx⟩ : ∃ x, l[k]? = some x := ⟨_, List.getElem?_eq_getElem hlt⟩
      have hd := risesDrop' l k x hx (P / 16)
      obtain ⟨b, o, rfl, hb, cf1⟩ := H.out k x hx
      have hxl := HS.out x (List.mem_of_getElem? hx)
      have HX := Lib.hid hx; have HD := Lib.hid hd; clear hx hd
      have hbb : b < w.heap.size + 1 := by omega
      by_cases h1 : (x).length < 1
      · have hf := Lib.hid (rises_no1 (x := x) (HE.out.trans (by rw [HD.out])) h1)
        go_wp2_with (go_at_call 59; refine (sep_key _ _).mono ?_; rintro e w' ⟨rfl, rfl⟩)
        go_ret
        rw [hf.out]
        exact ⟨rfl, by (try simp only [alloc_ext, drew_ext, drewN_ext, ext_ext]); exact ⟨_, _, rfl⟩⟩
      · by_cases h2 : P / 16 < (x).length
        · have hf := Lib.hid (rises_no2 (x := x) (HE.out.trans (by rw [HD.out])) h2)
          go_wp2_with (first | (go_at_call 59; refine (sep_key _ _).mono ?_; rintro e w' ⟨rfl, rfl⟩) | (go_at_call 67; refine (maxKey_any _ _ _ (by omega) (by omega)).mono ?_; rintro e w' ⟨rfl, bs2, n2, rfl⟩))
          go_ret
          rw [hf.out]
          exact ⟨rfl, by (try simp only [alloc_ext, drew_ext, drewN_ext, ext_ext]); exact ⟨_, _, rfl⟩⟩
        · by_cases h3 : 0 < k
          · obtain ⟨y, hy⟩ : ∃ y, l[k - 1]? = some y := ⟨_, List.getElem?_eq_getElem (show k - 1 < l.length by omega)⟩
            obtain ⟨b', o', hb', hb'', cg1⟩ := H.out (k - 1) y hy
            obtain ⟨rfl, rfl⟩ : b' = b ∧ o' = o := by cases hb'; exact ⟨rfl, rfl⟩
            clear hb' hb''
            have hkk : ((k : Int) - 1).toNat = k - 1 := by omega
            have HY := Lib.hid hy; clear hy
            have hpv : (if k = 0 then none else l[k - 1]?) = some (y) := by rw [if_neg (by omega), HY.out]
            have HV := Lib.hid hpv; clear hpv
            by_cases h4 : Op.bytesLess (y) (x) = true
            · have hf := Lib.hid (rises_yes (x := x) (HE.out.trans (by rw [HD.out, HV.out])) h1 h2 h4)
              go_wp2_with (first | (go_at_call 59; refine (sep_key _ _).mono ?_; rintro e w' ⟨rfl, rfl⟩) | (go_at_call 67; refine (maxKey_any _ _ _ (by omega) (by omega)).mono ?_; rintro e w' ⟨rfl, bs2, n2, rfl⟩))
              go_roundw
              case rel => exact ⟨k + 1, _, _, by go_num, by omega, by (try simp only [ext_alloc, ext_drew, ext_drewN, ext_ext]); rfl, hf.out⟩
              case measure => simp [intOf]; omega
            · have h4' : Op.bytesLess (y) (x) = false := by simpa using h4
              clear h4
              have hf := Lib.hid (rises_no3 (x := x) (HE.out.trans (by rw [HD.out, HV.out])) h4')
              go_wp2_with (first | (go_at_call 59; refine (sep_key _ _).mono ?_; rintro e w' ⟨rfl, rfl⟩) | (go_at_call 67; refine (maxKey_any _ _ _ (by omega) (by omega)).mono ?_; rintro e w' ⟨rfl, bs2, n2, rfl⟩))
              go_ret
              rw [hf.out]
              exact ⟨rfl, by (try simp only [alloc_ext, drew_ext, drewN_ext, ext_ext]); exact ⟨_, _, rfl⟩⟩
          · have hpv : (if k = 0 then none else l[k - 1]?) = none := by rw [if_pos (by omega)]
            have hf := Lib.hid (rises_yes0 (x := x) (HE.out.trans (by rw [HD.out, hpv])) h1 h2)
            clear hpv
            go_wp2_with (first | (go_at_call 59; refine (sep_key _ _).mono ?_; rintro e w' ⟨rfl, rfl⟩) | (go_at_call 67; refine (maxKey_any _ _ _ (by omega) (by omega)).mono ?_; rintro e w' ⟨rfl, bs2, n2, rfl⟩))
            go_roundw
            case rel => exact ⟨k + 1, _, _, by go_num, by omega, by (try simp only [ext_alloc, ext_drew, ext_drewN, ext_ext]); rfl, hf.out⟩
            case measure => simp [intOf]; omega
    · have hf : Hid (risesFrom (P / 16) none l = true) := by show _ = _; rw [HE.out, List.drop_of_length_le (by omega)]; rfl
      go_wp2
      go_ret
      rw [hf.out]
      exact ⟨rfl, by (try simp only [alloc_ext, drew_ext, drewN_ext, ext_ext]); exact ⟨_, _, rfl⟩⟩

end Go.Proofs.YtemicgccgcmmbaaGreat
