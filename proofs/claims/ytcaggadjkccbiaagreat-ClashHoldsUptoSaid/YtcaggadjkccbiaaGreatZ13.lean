/- The types of this seat. -/
import Derived.Test.YtcaggadjkccbiaaGreatZ12
namespace Go.Proofs.YtcaggadjkccbiaaGreat
set_option linter.unusedVariables false
set_option linter.unusedSimpArgs false
open Go Go.RowKit

/-- What is known of each type. -/
def tysL : List (TypeId × Ty) := [
  (1, .fn),
  (2, .int .i64),
  (3, .int .i64),
  (4, .bool),
  (5, .int .u8),
  (6, .int .u8),
  (7, .struct [.v (.int .i64 0), .v (.int .i64 0), .v (.bool false), .v (.int .u8 0)]),
  (8, .struct [.v (.int .i64 0), .v (.int .i64 0), .v (.bool false), .v (.int .u8 0)]),
  (9, .str),
  (10, .str),
  (11, .str),
  (12, .int .u64),
  (13, .struct [.v (.string ⟨#[]⟩), .v (.int .u64 0)]),
  (14, .struct [.v (.string ⟨#[]⟩), .v (.int .u64 0)]),
  (15, .ptr),
  (16, .ptr),
  (17, .ptr),
  (18, .struct [.v (.pointer none)]),
  (19, .struct [.v (.pointer none)]),
  (20, .iface),
  (21, .int .i32),
  (22, .fn),
  (23, .struct [.v (.int .i64 0), .v (.int .i64 0)]),
  (24, .struct [.v (.int .i64 0), .v (.int .i64 0)]),
  (25, .struct [.v (.string ⟨#[]⟩), .v (.string ⟨#[]⟩)]),
  (26, .struct [.v (.string ⟨#[]⟩), .v (.string ⟨#[]⟩)]),
  (27, .fn),
  (28, .fn),
  (29, .slice 5),
  (30, .struct [.agg [.v (.int .i64 0), .v (.int .i64 0)], .sl .nil [], .v (.string ⟨#[]⟩), .v (.string ⟨#[]⟩), .v (.string ⟨#[]⟩), .v (.string ⟨#[]⟩), .v (.string ⟨#[]⟩)]),
  (31, .struct [.agg [.v (.int .i64 0), .v (.int .i64 0)], .sl .nil [], .v (.string ⟨#[]⟩), .v (.string ⟨#[]⟩), .v (.string ⟨#[]⟩), .v (.string ⟨#[]⟩), .v (.string ⟨#[]⟩)]),
  (32, .int .i64),
  (34, .fn),
  (35, .dig),
  (36, .dig),
  (37, .fn),
  (38, .fn),
  (39, .fn),
  (40, .fn),
  (41, .struct [.v (.bool false), .v (.string ⟨#[]⟩)]),
  (42, .struct [.v (.bool false), .v (.string ⟨#[]⟩)]),
  (44, .fn),
  (45, .fn),
  (46, .slice 73),
  (48, .fn),
  (49, .fn),
  (51, .fn),
  (52, .fn),
  (53, .slice 9),
  (54, .slice 3),
  (56, .fn),
  (57, .fn),
  (59, .fn),
  (60, .fn),
  (61, .struct [.v (.string ⟨#[]⟩), .v .nilFunc]),
  (62, .struct [.v (.string ⟨#[]⟩), .v .nilFunc]),
  (63, .fn),
  (64, .fn),
  (65, .fn),
  (66, .struct [.agg [.v (.bool false), .v (.string ⟨#[]⟩)], .sl .nil [], .sl .nil []]),
  (67, .struct [.agg [.v (.bool false), .v (.string ⟨#[]⟩)], .sl .nil [], .sl .nil []]),
  (69, .fn),
  (70, .fn),
  (71, .fn),
  (72, .struct [.v (.string ⟨#[]⟩), .v (.string ⟨#[]⟩)]),
  (73, .struct [.v (.string ⟨#[]⟩), .v (.string ⟨#[]⟩)]),
  (74, .fn),
  (76, .fn),
  (77, .ptr),
  (78, .struct [.agg [.v (.int .i64 0), .v (.int .i64 0)], .sl .nil [], .v (.string ⟨#[]⟩), .v (.string ⟨#[]⟩)]),
  (79, .struct [.agg [.v (.int .i64 0), .v (.int .i64 0)], .sl .nil [], .v (.string ⟨#[]⟩), .v (.string ⟨#[]⟩)]),
  (80, .fn),
  (81, .fn),
  (83, .fn),
  (84, .fn),
  (85, .slice 150),
  (86, .struct [.sl .nil [], .sl .nil [], .sl .nil []]),
  (87, .struct [.sl .nil [], .sl .nil [], .sl .nil []]),
  (88, .fn),
  (89, .ptr),
  (90, .struct [.agg [.v (.int .i64 0), .v (.int .i64 0)], .v (.string ⟨#[]⟩), .dg Dg.zero, .v (.pointer none), .v (.pointer none), .agg [.v (.bool false), .v (.string ⟨#[]⟩)], .sl .nil []]),
  (91, .struct [.agg [.v (.int .i64 0), .v (.int .i64 0)], .v (.string ⟨#[]⟩), .dg Dg.zero, .v (.pointer none), .v (.pointer none), .agg [.v (.bool false), .v (.string ⟨#[]⟩)], .sl .nil []]),
  (93, .fn),
  (94, .fn),
  (95, .fn),
  (96, .iface),
  (97, .iface),
  (99, .fn),
  (100, .struct []),
  (101, .struct []),
  (103, .ptr),
  (104, .struct [.agg [.v (.int .i64 0), .v (.int .i64 0)], .sl .nil [], .v (.string ⟨#[]⟩), .v (.string ⟨#[]⟩), .sl .nil []]),
  (105, .struct [.agg [.v (.int .i64 0), .v (.int .i64 0)], .sl .nil [], .v (.string ⟨#[]⟩), .v (.string ⟨#[]⟩), .sl .nil []]),
  (106, .fn),
  (107, .fn),
  (108, .fn),
  (110, .fn),
  (111, .fn),
  (112, .fn),
  (114, .fn),
  (116, .fn),
  (117, .fn),
  (118, .fn),
  (120, .fn),
  (121, .fn),
  (122, .ptr),
  (123, .struct [.agg [.v (.int .i64 0), .v (.int .i64 0)], .sl .nil [], .v (.string ⟨#[]⟩), .v (.string ⟨#[]⟩), .sl .nil []]),
  (124, .struct [.agg [.v (.int .i64 0), .v (.int .i64 0)], .sl .nil [], .v (.string ⟨#[]⟩), .v (.string ⟨#[]⟩), .sl .nil []]),
  (125, .fn),
  (126, .int .u32),
  (127, .struct [.sl .nil [], .v (.int .u32 0), .dg Dg.zero, .v (.string ⟨#[]⟩), .v (.string ⟨#[]⟩), .v (.bool false), .v (.bool false)]),
  (128, .struct [.sl .nil [], .v (.int .u32 0), .dg Dg.zero, .v (.string ⟨#[]⟩), .v (.string ⟨#[]⟩), .v (.bool false), .v (.bool false)]),
  (129, .ptr),
  (130, .struct [.v (.string ⟨#[]⟩), .v (.int .i64 0), .v (.int .i64 0)]),
  (131, .struct [.v (.string ⟨#[]⟩), .v (.int .i64 0), .v (.int .i64 0)]),
  (132, .fn),
  (134, .fn),
  (135, .fn),
  (136, .fn),
  (137, .struct []),
  (139, .fn),
  (140, .fn),
  (141, .fn),
  (142, .ptr),
  (143, .fn),
  (144, .fn),
  (145, .fn),
  (146, .fn),
  (147, .fn),
  (148, .fn),
  (149, .struct [.v (.int .u32 0), .dg Dg.zero]),
  (150, .struct [.v (.int .u32 0), .dg Dg.zero]),
  (151, .int .u64),
  (152, .fn),
  (154, .fn),
  (155, .fn),
  (156, .struct [.v (.string ⟨#[]⟩), .v (.string ⟨#[]⟩), .v (.bool false), .v (.bool false)]),
  (157, .struct [.v (.string ⟨#[]⟩), .v (.string ⟨#[]⟩), .v (.bool false), .v (.bool false)]),
  (158, .fn),
  (159, .fn),
  (160, .fn),
  (161, .fn),
  (162, .fn),
  (163, .int .u64),
  (164, .fn),
  (165, .fn),
  (166, .fn),
  (167, .fn),
  (168, .fn),
  (169, .fn),
  (170, .fn),
  (171, .ptr),
  (172, .fn),
  (174, .fn),
  (175, .ptr),
  (176, .fn),
  (177, .fn),
  (178, .struct [.v (.bool false), .v (.string ⟨#[]⟩), .v (.int .i64 0), .v (.int .i64 0)]),
  (179, .struct [.v (.bool false), .v (.string ⟨#[]⟩), .v (.int .i64 0), .v (.int .i64 0)]),
  (180, .ptr),
  (181, .fn),
  (182, .struct [.v (.int .i64 0), .v (.int .i64 0)]),
  (183, .struct [.v (.int .i64 0), .v (.int .i64 0)]),
  (184, .fn),
  (185, .slice 126),
  (186, .struct [.sl .nil [], .sl .nil []]),
  (187, .struct [.sl .nil [], .sl .nil []]),
  (188, .fn),
  (189, .fn),
  (190, .fn),
  (191, .fn),
  (192, .fn),
  (193, .fn),
  (194, .fn),
  (195, .fn),
  (196, .fn),
  (197, .fn),
  (198, .fn),
  (201, .fn),
  (204, .fn),
  (206, .fn),
  (207, .fn),
  (208, .fn),
  (209, .fn),
  (210, .fn),
  (211, .fn),
  (212, .fn),
  (213, .fn),
  (214, .fn),
  (215, .fn),
  (216, .fn),
  (217, .fn),
  (218, .fn),
  (219, .fn),
  (220, .ptr),
  (222, .fn),
  (223, .fn),
  (224, .ptr),
  (225, .ptr),
  (226, .fn),
  (227, .fn),
  (228, .fn),
  (229, .fn),
  (230, .fn),
  (231, .fn),
  (232, .fn),
  (233, .fn),
  (234, .fn),
  (235, .fn),
  (236, .fn),
  (237, .fn),
  (238, .struct [.v (.bool false), .sl .nil []]),
  (239, .struct [.v (.bool false), .sl .nil []]),
  (240, .fn),
  (241, .struct [.v (.pointer none), .v (.pointer none), .v (.pointer none), .v (.string ⟨#[]⟩)]),
  (242, .struct [.v (.pointer none), .v (.pointer none), .v (.pointer none), .v (.string ⟨#[]⟩)]),
  (246, .int .u8),
  (247, .int .u8),
  (248, .fn),
  (249, .ptr),
  (250, .int .i32),
  (251, .int .i32),
  (252, .struct [.v (.int .u64 0), .v (.int .u64 0), .v (.int .u32 0), .v (.int .u8 0), .v (.int .u8 0), .v (.int .u8 0), .v (.int .u8 0), .v .nilFunc, .v (.pointer none), .v (.int .i32 0), .v (.int .i32 0)]),
  (253, .struct [.v (.int .u64 0), .v (.int .u64 0), .v (.int .u32 0), .v (.int .u8 0), .v (.int .u8 0), .v (.int .u8 0), .v (.int .u8 0), .v .nilFunc, .v (.pointer none), .v (.int .i32 0), .v (.int .i32 0)])]
def tysAt : List (TypeId × Ty) → TypeId → Ty
  | [], _ => .other
  | p :: l, t => if Nat.beq p.1 t = true then p.2 else tysAt l t
def tys (t : TypeId) : Ty := tysAt tysL t

theorem tysAt_mem : ∀ (l : List (TypeId × Ty)) (t : TypeId), tysAt l t ≠ .other → (t, tysAt l t) ∈ l
  | [], _, h => absurd rfl h
  | p :: l, t, h => by
    unfold tysAt at h ⊢
    split
    · rename_i e; have : p.1 = t := Nat.eq_of_beq_eq_true e; subst this; exact List.mem_cons_self
    · rename_i e; rw [if_neg e] at h; exact List.mem_cons_of_mem _ (tysAt_mem l t h)

@[go_sem] theorem tys_1 : tys 1 = .fn := by kernel_rfl
@[go_sem] theorem tys_2 : tys 2 = .int .i64 := by kernel_rfl
@[go_sem] theorem tys_3 : tys 3 = .int .i64 := by kernel_rfl
@[go_sem] theorem tys_4 : tys 4 = .bool := by kernel_rfl
@[go_sem] theorem tys_5 : tys 5 = .int .u8 := by kernel_rfl
@[go_sem] theorem tys_6 : tys 6 = .int .u8 := by kernel_rfl
@[go_sem] theorem tys_7 : tys 7 = .struct [.v (.int .i64 0), .v (.int .i64 0), .v (.bool false), .v (.int .u8 0)] := by kernel_rfl
@[go_sem] theorem tys_8 : tys 8 = .struct [.v (.int .i64 0), .v (.int .i64 0), .v (.bool false), .v (.int .u8 0)] := by kernel_rfl
@[go_sem] theorem tys_9 : tys 9 = .str := by kernel_rfl
@[go_sem] theorem tys_10 : tys 10 = .str := by kernel_rfl
@[go_sem] theorem tys_11 : tys 11 = .str := by kernel_rfl
@[go_sem] theorem tys_12 : tys 12 = .int .u64 := by kernel_rfl
@[go_sem] theorem tys_13 : tys 13 = .struct [.v (.string ⟨#[]⟩), .v (.int .u64 0)] := by kernel_rfl
@[go_sem] theorem tys_14 : tys 14 = .struct [.v (.string ⟨#[]⟩), .v (.int .u64 0)] := by kernel_rfl
@[go_sem] theorem tys_15 : tys 15 = .ptr := by kernel_rfl
@[go_sem] theorem tys_16 : tys 16 = .ptr := by kernel_rfl
@[go_sem] theorem tys_17 : tys 17 = .ptr := by kernel_rfl
@[go_sem] theorem tys_18 : tys 18 = .struct [.v (.pointer none)] := by kernel_rfl
@[go_sem] theorem tys_19 : tys 19 = .struct [.v (.pointer none)] := by kernel_rfl
@[go_sem] theorem tys_20 : tys 20 = .iface := by kernel_rfl
@[go_sem] theorem tys_21 : tys 21 = .int .i32 := by kernel_rfl
@[go_sem] theorem tys_22 : tys 22 = .fn := by kernel_rfl
@[go_sem] theorem tys_23 : tys 23 = .struct [.v (.int .i64 0), .v (.int .i64 0)] := by kernel_rfl
@[go_sem] theorem tys_24 : tys 24 = .struct [.v (.int .i64 0), .v (.int .i64 0)] := by kernel_rfl
@[go_sem] theorem tys_25 : tys 25 = .struct [.v (.string ⟨#[]⟩), .v (.string ⟨#[]⟩)] := by kernel_rfl
@[go_sem] theorem tys_26 : tys 26 = .struct [.v (.string ⟨#[]⟩), .v (.string ⟨#[]⟩)] := by kernel_rfl
@[go_sem] theorem tys_27 : tys 27 = .fn := by kernel_rfl
@[go_sem] theorem tys_28 : tys 28 = .fn := by kernel_rfl
@[go_sem] theorem tys_29 : tys 29 = .slice 5 := by kernel_rfl
@[go_sem] theorem tys_30 : tys 30 = .struct [.agg [.v (.int .i64 0), .v (.int .i64 0)], .sl .nil [], .v (.string ⟨#[]⟩), .v (.string ⟨#[]⟩), .v (.string ⟨#[]⟩), .v (.string ⟨#[]⟩), .v (.string ⟨#[]⟩)] := by kernel_rfl
@[go_sem] theorem tys_31 : tys 31 = .struct [.agg [.v (.int .i64 0), .v (.int .i64 0)], .sl .nil [], .v (.string ⟨#[]⟩), .v (.string ⟨#[]⟩), .v (.string ⟨#[]⟩), .v (.string ⟨#[]⟩), .v (.string ⟨#[]⟩)] := by kernel_rfl
@[go_sem] theorem tys_32 : tys 32 = .int .i64 := by kernel_rfl
@[go_sem] theorem tys_34 : tys 34 = .fn := by kernel_rfl
@[go_sem] theorem tys_35 : tys 35 = .dig := by kernel_rfl
@[go_sem] theorem tys_36 : tys 36 = .dig := by kernel_rfl
@[go_sem] theorem tys_37 : tys 37 = .fn := by kernel_rfl
@[go_sem] theorem tys_38 : tys 38 = .fn := by kernel_rfl
@[go_sem] theorem tys_39 : tys 39 = .fn := by kernel_rfl
@[go_sem] theorem tys_40 : tys 40 = .fn := by kernel_rfl
@[go_sem] theorem tys_41 : tys 41 = .struct [.v (.bool false), .v (.string ⟨#[]⟩)] := by kernel_rfl
@[go_sem] theorem tys_42 : tys 42 = .struct [.v (.bool false), .v (.string ⟨#[]⟩)] := by kernel_rfl
@[go_sem] theorem tys_44 : tys 44 = .fn := by kernel_rfl
@[go_sem] theorem tys_45 : tys 45 = .fn := by kernel_rfl
@[go_sem] theorem tys_46 : tys 46 = .slice 73 := by kernel_rfl
@[go_sem] theorem tys_48 : tys 48 = .fn := by kernel_rfl
@[go_sem] theorem tys_49 : tys 49 = .fn := by kernel_rfl
@[go_sem] theorem tys_51 : tys 51 = .fn := by kernel_rfl
@[go_sem] theorem tys_52 : tys 52 = .fn := by kernel_rfl
@[go_sem] theorem tys_53 : tys 53 = .slice 9 := by kernel_rfl
@[go_sem] theorem tys_54 : tys 54 = .slice 3 := by kernel_rfl
@[go_sem] theorem tys_56 : tys 56 = .fn := by kernel_rfl
@[go_sem] theorem tys_57 : tys 57 = .fn := by kernel_rfl
@[go_sem] theorem tys_59 : tys 59 = .fn := by kernel_rfl
@[go_sem] theorem tys_60 : tys 60 = .fn := by kernel_rfl
@[go_sem] theorem tys_61 : tys 61 = .struct [.v (.string ⟨#[]⟩), .v .nilFunc] := by kernel_rfl
@[go_sem] theorem tys_62 : tys 62 = .struct [.v (.string ⟨#[]⟩), .v .nilFunc] := by kernel_rfl
@[go_sem] theorem tys_63 : tys 63 = .fn := by kernel_rfl
@[go_sem] theorem tys_64 : tys 64 = .fn := by kernel_rfl
@[go_sem] theorem tys_65 : tys 65 = .fn := by kernel_rfl
@[go_sem] theorem tys_66 : tys 66 = .struct [.agg [.v (.bool false), .v (.string ⟨#[]⟩)], .sl .nil [], .sl .nil []] := by kernel_rfl
@[go_sem] theorem tys_67 : tys 67 = .struct [.agg [.v (.bool false), .v (.string ⟨#[]⟩)], .sl .nil [], .sl .nil []] := by kernel_rfl
@[go_sem] theorem tys_69 : tys 69 = .fn := by kernel_rfl
@[go_sem] theorem tys_70 : tys 70 = .fn := by kernel_rfl
@[go_sem] theorem tys_71 : tys 71 = .fn := by kernel_rfl
@[go_sem] theorem tys_72 : tys 72 = .struct [.v (.string ⟨#[]⟩), .v (.string ⟨#[]⟩)] := by kernel_rfl
@[go_sem] theorem tys_73 : tys 73 = .struct [.v (.string ⟨#[]⟩), .v (.string ⟨#[]⟩)] := by kernel_rfl
@[go_sem] theorem tys_74 : tys 74 = .fn := by kernel_rfl
@[go_sem] theorem tys_76 : tys 76 = .fn := by kernel_rfl
@[go_sem] theorem tys_77 : tys 77 = .ptr := by kernel_rfl
@[go_sem] theorem tys_78 : tys 78 = .struct [.agg [.v (.int .i64 0), .v (.int .i64 0)], .sl .nil [], .v (.string ⟨#[]⟩), .v (.string ⟨#[]⟩)] := by kernel_rfl
@[go_sem] theorem tys_79 : tys 79 = .struct [.agg [.v (.int .i64 0), .v (.int .i64 0)], .sl .nil [], .v (.string ⟨#[]⟩), .v (.string ⟨#[]⟩)] := by kernel_rfl
@[go_sem] theorem tys_80 : tys 80 = .fn := by kernel_rfl
@[go_sem] theorem tys_81 : tys 81 = .fn := by kernel_rfl
@[go_sem] theorem tys_83 : tys 83 = .fn := by kernel_rfl
@[go_sem] theorem tys_84 : tys 84 = .fn := by kernel_rfl
@[go_sem] theorem tys_85 : tys 85 = .slice 150 := by kernel_rfl
@[go_sem] theorem tys_86 : tys 86 = .struct [.sl .nil [], .sl .nil [], .sl .nil []] := by kernel_rfl
@[go_sem] theorem tys_87 : tys 87 = .struct [.sl .nil [], .sl .nil [], .sl .nil []] := by kernel_rfl
@[go_sem] theorem tys_88 : tys 88 = .fn := by kernel_rfl
@[go_sem] theorem tys_89 : tys 89 = .ptr := by kernel_rfl
@[go_sem] theorem tys_90 : tys 90 = .struct [.agg [.v (.int .i64 0), .v (.int .i64 0)], .v (.string ⟨#[]⟩), .dg Dg.zero, .v (.pointer none), .v (.pointer none), .agg [.v (.bool false), .v (.string ⟨#[]⟩)], .sl .nil []] := by kernel_rfl
@[go_sem] theorem tys_91 : tys 91 = .struct [.agg [.v (.int .i64 0), .v (.int .i64 0)], .v (.string ⟨#[]⟩), .dg Dg.zero, .v (.pointer none), .v (.pointer none), .agg [.v (.bool false), .v (.string ⟨#[]⟩)], .sl .nil []] := by kernel_rfl
@[go_sem] theorem tys_93 : tys 93 = .fn := by kernel_rfl
@[go_sem] theorem tys_94 : tys 94 = .fn := by kernel_rfl
@[go_sem] theorem tys_95 : tys 95 = .fn := by kernel_rfl
@[go_sem] theorem tys_96 : tys 96 = .iface := by kernel_rfl
@[go_sem] theorem tys_97 : tys 97 = .iface := by kernel_rfl
@[go_sem] theorem tys_99 : tys 99 = .fn := by kernel_rfl
@[go_sem] theorem tys_100 : tys 100 = .struct [] := by kernel_rfl
@[go_sem] theorem tys_101 : tys 101 = .struct [] := by kernel_rfl
@[go_sem] theorem tys_103 : tys 103 = .ptr := by kernel_rfl
@[go_sem] theorem tys_104 : tys 104 = .struct [.agg [.v (.int .i64 0), .v (.int .i64 0)], .sl .nil [], .v (.string ⟨#[]⟩), .v (.string ⟨#[]⟩), .sl .nil []] := by kernel_rfl
@[go_sem] theorem tys_105 : tys 105 = .struct [.agg [.v (.int .i64 0), .v (.int .i64 0)], .sl .nil [], .v (.string ⟨#[]⟩), .v (.string ⟨#[]⟩), .sl .nil []] := by kernel_rfl
@[go_sem] theorem tys_106 : tys 106 = .fn := by kernel_rfl
@[go_sem] theorem tys_107 : tys 107 = .fn := by kernel_rfl
@[go_sem] theorem tys_108 : tys 108 = .fn := by kernel_rfl
@[go_sem] theorem tys_110 : tys 110 = .fn := by kernel_rfl
@[go_sem] theorem tys_111 : tys 111 = .fn := by kernel_rfl
@[go_sem] theorem tys_112 : tys 112 = .fn := by kernel_rfl
@[go_sem] theorem tys_114 : tys 114 = .fn := by kernel_rfl
@[go_sem] theorem tys_116 : tys 116 = .fn := by kernel_rfl
@[go_sem] theorem tys_117 : tys 117 = .fn := by kernel_rfl
@[go_sem] theorem tys_118 : tys 118 = .fn := by kernel_rfl
@[go_sem] theorem tys_120 : tys 120 = .fn := by kernel_rfl
@[go_sem] theorem tys_121 : tys 121 = .fn := by kernel_rfl
@[go_sem] theorem tys_122 : tys 122 = .ptr := by kernel_rfl
@[go_sem] theorem tys_123 : tys 123 = .struct [.agg [.v (.int .i64 0), .v (.int .i64 0)], .sl .nil [], .v (.string ⟨#[]⟩), .v (.string ⟨#[]⟩), .sl .nil []] := by kernel_rfl
@[go_sem] theorem tys_124 : tys 124 = .struct [.agg [.v (.int .i64 0), .v (.int .i64 0)], .sl .nil [], .v (.string ⟨#[]⟩), .v (.string ⟨#[]⟩), .sl .nil []] := by kernel_rfl
@[go_sem] theorem tys_125 : tys 125 = .fn := by kernel_rfl
@[go_sem] theorem tys_126 : tys 126 = .int .u32 := by kernel_rfl
@[go_sem] theorem tys_127 : tys 127 = .struct [.sl .nil [], .v (.int .u32 0), .dg Dg.zero, .v (.string ⟨#[]⟩), .v (.string ⟨#[]⟩), .v (.bool false), .v (.bool false)] := by kernel_rfl
@[go_sem] theorem tys_128 : tys 128 = .struct [.sl .nil [], .v (.int .u32 0), .dg Dg.zero, .v (.string ⟨#[]⟩), .v (.string ⟨#[]⟩), .v (.bool false), .v (.bool false)] := by kernel_rfl
@[go_sem] theorem tys_129 : tys 129 = .ptr := by kernel_rfl
@[go_sem] theorem tys_130 : tys 130 = .struct [.v (.string ⟨#[]⟩), .v (.int .i64 0), .v (.int .i64 0)] := by kernel_rfl
@[go_sem] theorem tys_131 : tys 131 = .struct [.v (.string ⟨#[]⟩), .v (.int .i64 0), .v (.int .i64 0)] := by kernel_rfl
@[go_sem] theorem tys_132 : tys 132 = .fn := by kernel_rfl
@[go_sem] theorem tys_134 : tys 134 = .fn := by kernel_rfl
@[go_sem] theorem tys_135 : tys 135 = .fn := by kernel_rfl
@[go_sem] theorem tys_136 : tys 136 = .fn := by kernel_rfl
@[go_sem] theorem tys_137 : tys 137 = .struct [] := by kernel_rfl
@[go_sem] theorem tys_139 : tys 139 = .fn := by kernel_rfl
@[go_sem] theorem tys_140 : tys 140 = .fn := by kernel_rfl
@[go_sem] theorem tys_141 : tys 141 = .fn := by kernel_rfl
@[go_sem] theorem tys_142 : tys 142 = .ptr := by kernel_rfl
@[go_sem] theorem tys_143 : tys 143 = .fn := by kernel_rfl
@[go_sem] theorem tys_144 : tys 144 = .fn := by kernel_rfl
@[go_sem] theorem tys_145 : tys 145 = .fn := by kernel_rfl
@[go_sem] theorem tys_146 : tys 146 = .fn := by kernel_rfl
@[go_sem] theorem tys_147 : tys 147 = .fn := by kernel_rfl
@[go_sem] theorem tys_148 : tys 148 = .fn := by kernel_rfl
@[go_sem] theorem tys_149 : tys 149 = .struct [.v (.int .u32 0), .dg Dg.zero] := by kernel_rfl
@[go_sem] theorem tys_150 : tys 150 = .struct [.v (.int .u32 0), .dg Dg.zero] := by kernel_rfl
@[go_sem] theorem tys_151 : tys 151 = .int .u64 := by kernel_rfl
@[go_sem] theorem tys_152 : tys 152 = .fn := by kernel_rfl
@[go_sem] theorem tys_154 : tys 154 = .fn := by kernel_rfl
@[go_sem] theorem tys_155 : tys 155 = .fn := by kernel_rfl
@[go_sem] theorem tys_156 : tys 156 = .struct [.v (.string ⟨#[]⟩), .v (.string ⟨#[]⟩), .v (.bool false), .v (.bool false)] := by kernel_rfl
@[go_sem] theorem tys_157 : tys 157 = .struct [.v (.string ⟨#[]⟩), .v (.string ⟨#[]⟩), .v (.bool false), .v (.bool false)] := by kernel_rfl
@[go_sem] theorem tys_158 : tys 158 = .fn := by kernel_rfl
@[go_sem] theorem tys_159 : tys 159 = .fn := by kernel_rfl
@[go_sem] theorem tys_160 : tys 160 = .fn := by kernel_rfl
@[go_sem] theorem tys_161 : tys 161 = .fn := by kernel_rfl
@[go_sem] theorem tys_162 : tys 162 = .fn := by kernel_rfl
@[go_sem] theorem tys_163 : tys 163 = .int .u64 := by kernel_rfl
@[go_sem] theorem tys_164 : tys 164 = .fn := by kernel_rfl
@[go_sem] theorem tys_165 : tys 165 = .fn := by kernel_rfl
@[go_sem] theorem tys_166 : tys 166 = .fn := by kernel_rfl
@[go_sem] theorem tys_167 : tys 167 = .fn := by kernel_rfl
@[go_sem] theorem tys_168 : tys 168 = .fn := by kernel_rfl
@[go_sem] theorem tys_169 : tys 169 = .fn := by kernel_rfl
@[go_sem] theorem tys_170 : tys 170 = .fn := by kernel_rfl
@[go_sem] theorem tys_171 : tys 171 = .ptr := by kernel_rfl
@[go_sem] theorem tys_172 : tys 172 = .fn := by kernel_rfl
@[go_sem] theorem tys_174 : tys 174 = .fn := by kernel_rfl
@[go_sem] theorem tys_175 : tys 175 = .ptr := by kernel_rfl
@[go_sem] theorem tys_176 : tys 176 = .fn := by kernel_rfl
@[go_sem] theorem tys_177 : tys 177 = .fn := by kernel_rfl
@[go_sem] theorem tys_178 : tys 178 = .struct [.v (.bool false), .v (.string ⟨#[]⟩), .v (.int .i64 0), .v (.int .i64 0)] := by kernel_rfl
@[go_sem] theorem tys_179 : tys 179 = .struct [.v (.bool false), .v (.string ⟨#[]⟩), .v (.int .i64 0), .v (.int .i64 0)] := by kernel_rfl
@[go_sem] theorem tys_180 : tys 180 = .ptr := by kernel_rfl
@[go_sem] theorem tys_181 : tys 181 = .fn := by kernel_rfl
@[go_sem] theorem tys_182 : tys 182 = .struct [.v (.int .i64 0), .v (.int .i64 0)] := by kernel_rfl
@[go_sem] theorem tys_183 : tys 183 = .struct [.v (.int .i64 0), .v (.int .i64 0)] := by kernel_rfl
@[go_sem] theorem tys_184 : tys 184 = .fn := by kernel_rfl
@[go_sem] theorem tys_185 : tys 185 = .slice 126 := by kernel_rfl
@[go_sem] theorem tys_186 : tys 186 = .struct [.sl .nil [], .sl .nil []] := by kernel_rfl
@[go_sem] theorem tys_187 : tys 187 = .struct [.sl .nil [], .sl .nil []] := by kernel_rfl
@[go_sem] theorem tys_188 : tys 188 = .fn := by kernel_rfl
@[go_sem] theorem tys_189 : tys 189 = .fn := by kernel_rfl
@[go_sem] theorem tys_190 : tys 190 = .fn := by kernel_rfl
@[go_sem] theorem tys_191 : tys 191 = .fn := by kernel_rfl
@[go_sem] theorem tys_192 : tys 192 = .fn := by kernel_rfl
@[go_sem] theorem tys_193 : tys 193 = .fn := by kernel_rfl
@[go_sem] theorem tys_194 : tys 194 = .fn := by kernel_rfl
@[go_sem] theorem tys_195 : tys 195 = .fn := by kernel_rfl
@[go_sem] theorem tys_196 : tys 196 = .fn := by kernel_rfl
@[go_sem] theorem tys_197 : tys 197 = .fn := by kernel_rfl
@[go_sem] theorem tys_198 : tys 198 = .fn := by kernel_rfl
@[go_sem] theorem tys_201 : tys 201 = .fn := by kernel_rfl
@[go_sem] theorem tys_204 : tys 204 = .fn := by kernel_rfl
@[go_sem] theorem tys_206 : tys 206 = .fn := by kernel_rfl
@[go_sem] theorem tys_207 : tys 207 = .fn := by kernel_rfl
@[go_sem] theorem tys_208 : tys 208 = .fn := by kernel_rfl
@[go_sem] theorem tys_209 : tys 209 = .fn := by kernel_rfl
@[go_sem] theorem tys_210 : tys 210 = .fn := by kernel_rfl
@[go_sem] theorem tys_211 : tys 211 = .fn := by kernel_rfl
@[go_sem] theorem tys_212 : tys 212 = .fn := by kernel_rfl
@[go_sem] theorem tys_213 : tys 213 = .fn := by kernel_rfl
@[go_sem] theorem tys_214 : tys 214 = .fn := by kernel_rfl
@[go_sem] theorem tys_215 : tys 215 = .fn := by kernel_rfl
@[go_sem] theorem tys_216 : tys 216 = .fn := by kernel_rfl
@[go_sem] theorem tys_217 : tys 217 = .fn := by kernel_rfl
@[go_sem] theorem tys_218 : tys 218 = .fn := by kernel_rfl
@[go_sem] theorem tys_219 : tys 219 = .fn := by kernel_rfl
@[go_sem] theorem tys_220 : tys 220 = .ptr := by kernel_rfl
@[go_sem] theorem tys_222 : tys 222 = .fn := by kernel_rfl
@[go_sem] theorem tys_223 : tys 223 = .fn := by kernel_rfl
@[go_sem] theorem tys_224 : tys 224 = .ptr := by kernel_rfl
@[go_sem] theorem tys_225 : tys 225 = .ptr := by kernel_rfl
@[go_sem] theorem tys_226 : tys 226 = .fn := by kernel_rfl
@[go_sem] theorem tys_227 : tys 227 = .fn := by kernel_rfl
@[go_sem] theorem tys_228 : tys 228 = .fn := by kernel_rfl
@[go_sem] theorem tys_229 : tys 229 = .fn := by kernel_rfl
@[go_sem] theorem tys_230 : tys 230 = .fn := by kernel_rfl
@[go_sem] theorem tys_231 : tys 231 = .fn := by kernel_rfl
@[go_sem] theorem tys_232 : tys 232 = .fn := by kernel_rfl
@[go_sem] theorem tys_233 : tys 233 = .fn := by kernel_rfl
@[go_sem] theorem tys_234 : tys 234 = .fn := by kernel_rfl
@[go_sem] theorem tys_235 : tys 235 = .fn := by kernel_rfl
@[go_sem] theorem tys_236 : tys 236 = .fn := by kernel_rfl
@[go_sem] theorem tys_237 : tys 237 = .fn := by kernel_rfl
@[go_sem] theorem tys_238 : tys 238 = .struct [.v (.bool false), .sl .nil []] := by kernel_rfl
@[go_sem] theorem tys_239 : tys 239 = .struct [.v (.bool false), .sl .nil []] := by kernel_rfl
@[go_sem] theorem tys_240 : tys 240 = .fn := by kernel_rfl
@[go_sem] theorem tys_241 : tys 241 = .struct [.v (.pointer none), .v (.pointer none), .v (.pointer none), .v (.string ⟨#[]⟩)] := by kernel_rfl
@[go_sem] theorem tys_242 : tys 242 = .struct [.v (.pointer none), .v (.pointer none), .v (.pointer none), .v (.string ⟨#[]⟩)] := by kernel_rfl
@[go_sem] theorem tys_246 : tys 246 = .int .u8 := by kernel_rfl
@[go_sem] theorem tys_247 : tys 247 = .int .u8 := by kernel_rfl
@[go_sem] theorem tys_248 : tys 248 = .fn := by kernel_rfl
@[go_sem] theorem tys_249 : tys 249 = .ptr := by kernel_rfl
@[go_sem] theorem tys_250 : tys 250 = .int .i32 := by kernel_rfl
@[go_sem] theorem tys_251 : tys 251 = .int .i32 := by kernel_rfl
@[go_sem] theorem tys_252 : tys 252 = .struct [.v (.int .u64 0), .v (.int .u64 0), .v (.int .u32 0), .v (.int .u8 0), .v (.int .u8 0), .v (.int .u8 0), .v (.int .u8 0), .v .nilFunc, .v (.pointer none), .v (.int .i32 0), .v (.int .i32 0)] := by kernel_rfl
@[go_sem] theorem tys_253 : tys 253 = .struct [.v (.int .u64 0), .v (.int .u64 0), .v (.int .u32 0), .v (.int .u8 0), .v (.int .u8 0), .v (.int .u8 0), .v (.int .u8 0), .v .nilFunc, .v (.pointer none), .v (.int .i32 0), .v (.int .i32 0)] := by kernel_rfl
theorem tyOk_1 : TyOk Tryz.prog 1 (.fn) := tyOk_mk Tryz.underlying1 (⟨_, _, _, rfl⟩) (by kernel_rfl) (by kernel_rfl)
theorem tyOk_2 : TyOk Tryz.prog 2 (.int .i64) := tyOk_mk Tryz.underlying2 (rfl) (by kernel_rfl) (by kernel_rfl)
theorem tyOk_3 : TyOk Tryz.prog 3 (.int .i64) := tyOk_mk Tryz.underlying3 (rfl) (by kernel_rfl) (by kernel_rfl)
theorem tyOk_4 : TyOk Tryz.prog 4 (.bool) := tyOk_mk Tryz.underlying4 (rfl) (by kernel_rfl) (by kernel_rfl)
theorem tyOk_5 : TyOk Tryz.prog 5 (.int .u8) := tyOk_mk Tryz.underlying5 (rfl) (by kernel_rfl) (by kernel_rfl)
theorem tyOk_6 : TyOk Tryz.prog 6 (.int .u8) := tyOk_mk Tryz.underlying6 (rfl) (by kernel_rfl) (by kernel_rfl)
theorem tyOk_7 : TyOk Tryz.prog 7 (.struct [.v (.int .i64 0), .v (.int .i64 0), .v (.bool false), .v (.int .u8 0)]) := tyOk_mk Tryz.underlying7 (isDesc_struct (by kernel_rfl)) (by kernel_rfl) (by kernel_rfl)
theorem tyOk_8 : TyOk Tryz.prog 8 (.struct [.v (.int .i64 0), .v (.int .i64 0), .v (.bool false), .v (.int .u8 0)]) := tyOk_mk Tryz.underlying8 (isDesc_struct (by kernel_rfl)) (by kernel_rfl) (by kernel_rfl)
theorem tyOk_9 : TyOk Tryz.prog 9 (.str) := tyOk_mk Tryz.underlying9 (rfl) (by kernel_rfl) (by kernel_rfl)
theorem tyOk_10 : TyOk Tryz.prog 10 (.str) := tyOk_mk Tryz.underlying10 (rfl) (by kernel_rfl) (by kernel_rfl)
theorem tyOk_11 : TyOk Tryz.prog 11 (.str) := tyOk_mk Tryz.underlying11 (rfl) (by kernel_rfl) (by kernel_rfl)
theorem tyOk_12 : TyOk Tryz.prog 12 (.int .u64) := tyOk_mk Tryz.underlying12 (rfl) (by kernel_rfl) (by kernel_rfl)
theorem tyOk_13 : TyOk Tryz.prog 13 (.struct [.v (.string ⟨#[]⟩), .v (.int .u64 0)]) := tyOk_mk Tryz.underlying13 (isDesc_struct (by kernel_rfl)) (by kernel_rfl) (by kernel_rfl)
theorem tyOk_14 : TyOk Tryz.prog 14 (.struct [.v (.string ⟨#[]⟩), .v (.int .u64 0)]) := tyOk_mk Tryz.underlying14 (isDesc_struct (by kernel_rfl)) (by kernel_rfl) (by kernel_rfl)
theorem tyOk_15 : TyOk Tryz.prog 15 (.ptr) := tyOk_mk Tryz.underlying15 (⟨_, rfl⟩) (by kernel_rfl) (by kernel_rfl)
theorem tyOk_16 : TyOk Tryz.prog 16 (.ptr) := tyOk_mk Tryz.underlying16 (⟨_, rfl⟩) (by kernel_rfl) (by kernel_rfl)
theorem tyOk_17 : TyOk Tryz.prog 17 (.ptr) := tyOk_mk Tryz.underlying17 (⟨_, rfl⟩) (by kernel_rfl) (by kernel_rfl)
theorem tyOk_18 : TyOk Tryz.prog 18 (.struct [.v (.pointer none)]) := tyOk_mk Tryz.underlying18 (isDesc_struct (by kernel_rfl)) (by kernel_rfl) (by kernel_rfl)
theorem tyOk_19 : TyOk Tryz.prog 19 (.struct [.v (.pointer none)]) := tyOk_mk Tryz.underlying19 (isDesc_struct (by kernel_rfl)) (by kernel_rfl) (by kernel_rfl)
theorem tyOk_20 : TyOk Tryz.prog 20 (.iface) := tyOk_mk Tryz.underlying20 (⟨_, rfl⟩) (by kernel_rfl) (by kernel_rfl)
theorem tyOk_21 : TyOk Tryz.prog 21 (.int .i32) := tyOk_mk Tryz.underlying21 (rfl) (by kernel_rfl) (by kernel_rfl)
theorem tyOk_22 : TyOk Tryz.prog 22 (.fn) := tyOk_mk Tryz.underlying22 (⟨_, _, _, rfl⟩) (by kernel_rfl) (by kernel_rfl)
theorem tyOk_23 : TyOk Tryz.prog 23 (.struct [.v (.int .i64 0), .v (.int .i64 0)]) := tyOk_mk Tryz.underlying23 (isDesc_struct (by kernel_rfl)) (by kernel_rfl) (by kernel_rfl)
theorem tyOk_24 : TyOk Tryz.prog 24 (.struct [.v (.int .i64 0), .v (.int .i64 0)]) := tyOk_mk Tryz.underlying24 (isDesc_struct (by kernel_rfl)) (by kernel_rfl) (by kernel_rfl)
theorem tyOk_25 : TyOk Tryz.prog 25 (.struct [.v (.string ⟨#[]⟩), .v (.string ⟨#[]⟩)]) := tyOk_mk Tryz.underlying25 (isDesc_struct (by kernel_rfl)) (by kernel_rfl) (by kernel_rfl)
theorem tyOk_26 : TyOk Tryz.prog 26 (.struct [.v (.string ⟨#[]⟩), .v (.string ⟨#[]⟩)]) := tyOk_mk Tryz.underlying26 (isDesc_struct (by kernel_rfl)) (by kernel_rfl) (by kernel_rfl)
theorem tyOk_27 : TyOk Tryz.prog 27 (.fn) := tyOk_mk Tryz.underlying27 (⟨_, _, _, rfl⟩) (by kernel_rfl) (by kernel_rfl)
theorem tyOk_28 : TyOk Tryz.prog 28 (.fn) := tyOk_mk Tryz.underlying28 (⟨_, _, _, rfl⟩) (by kernel_rfl) (by kernel_rfl)
theorem tyOk_29 : TyOk Tryz.prog 29 (.slice 5) := tyOk_mk Tryz.underlying29 (rfl) (by kernel_rfl) (by kernel_rfl)
theorem tyOk_30 : TyOk Tryz.prog 30 (.struct [.agg [.v (.int .i64 0), .v (.int .i64 0)], .sl .nil [], .v (.string ⟨#[]⟩), .v (.string ⟨#[]⟩), .v (.string ⟨#[]⟩), .v (.string ⟨#[]⟩), .v (.string ⟨#[]⟩)]) := tyOk_mk Tryz.underlying30 (isDesc_struct (by kernel_rfl)) (by kernel_rfl) (by kernel_rfl)
theorem tyOk_31 : TyOk Tryz.prog 31 (.struct [.agg [.v (.int .i64 0), .v (.int .i64 0)], .sl .nil [], .v (.string ⟨#[]⟩), .v (.string ⟨#[]⟩), .v (.string ⟨#[]⟩), .v (.string ⟨#[]⟩), .v (.string ⟨#[]⟩)]) := tyOk_mk Tryz.underlying31 (isDesc_struct (by kernel_rfl)) (by kernel_rfl) (by kernel_rfl)
theorem tyOk_32 : TyOk Tryz.prog 32 (.int .i64) := tyOk_mk Tryz.underlying32 (rfl) (by kernel_rfl) (by kernel_rfl)
theorem tyOk_34 : TyOk Tryz.prog 34 (.fn) := tyOk_mk Tryz.underlying34 (⟨_, _, _, rfl⟩) (by kernel_rfl) (by kernel_rfl)
theorem tyOk_35 : TyOk Tryz.prog 35 (.dig) := tyOk_mk Tryz.underlying35 (isDesc_dig Tryz.underlying5 (by kernel_rfl)) (by kernel_rfl) (by kernel_rfl)
theorem tyOk_36 : TyOk Tryz.prog 36 (.dig) := tyOk_mk Tryz.underlying36 (isDesc_dig Tryz.underlying5 (by kernel_rfl)) (by kernel_rfl) (by kernel_rfl)
theorem tyOk_37 : TyOk Tryz.prog 37 (.fn) := tyOk_mk Tryz.underlying37 (⟨_, _, _, rfl⟩) (by kernel_rfl) (by kernel_rfl)
theorem tyOk_38 : TyOk Tryz.prog 38 (.fn) := tyOk_mk Tryz.underlying38 (⟨_, _, _, rfl⟩) (by kernel_rfl) (by kernel_rfl)
theorem tyOk_39 : TyOk Tryz.prog 39 (.fn) := tyOk_mk Tryz.underlying39 (⟨_, _, _, rfl⟩) (by kernel_rfl) (by kernel_rfl)
theorem tyOk_40 : TyOk Tryz.prog 40 (.fn) := tyOk_mk Tryz.underlying40 (⟨_, _, _, rfl⟩) (by kernel_rfl) (by kernel_rfl)
theorem tyOk_41 : TyOk Tryz.prog 41 (.struct [.v (.bool false), .v (.string ⟨#[]⟩)]) := tyOk_mk Tryz.underlying41 (isDesc_struct (by kernel_rfl)) (by kernel_rfl) (by kernel_rfl)
theorem tyOk_42 : TyOk Tryz.prog 42 (.struct [.v (.bool false), .v (.string ⟨#[]⟩)]) := tyOk_mk Tryz.underlying42 (isDesc_struct (by kernel_rfl)) (by kernel_rfl) (by kernel_rfl)
theorem tyOk_44 : TyOk Tryz.prog 44 (.fn) := tyOk_mk Tryz.underlying44 (⟨_, _, _, rfl⟩) (by kernel_rfl) (by kernel_rfl)
theorem tyOk_45 : TyOk Tryz.prog 45 (.fn) := tyOk_mk Tryz.underlying45 (⟨_, _, _, rfl⟩) (by kernel_rfl) (by kernel_rfl)
theorem tyOk_46 : TyOk Tryz.prog 46 (.slice 73) := tyOk_mk Tryz.underlying46 (rfl) (by kernel_rfl) (by kernel_rfl)
theorem tyOk_48 : TyOk Tryz.prog 48 (.fn) := tyOk_mk Tryz.underlying48 (⟨_, _, _, rfl⟩) (by kernel_rfl) (by kernel_rfl)
theorem tyOk_49 : TyOk Tryz.prog 49 (.fn) := tyOk_mk Tryz.underlying49 (⟨_, _, _, rfl⟩) (by kernel_rfl) (by kernel_rfl)
theorem tyOk_51 : TyOk Tryz.prog 51 (.fn) := tyOk_mk Tryz.underlying51 (⟨_, _, _, rfl⟩) (by kernel_rfl) (by kernel_rfl)
theorem tyOk_52 : TyOk Tryz.prog 52 (.fn) := tyOk_mk Tryz.underlying52 (⟨_, _, _, rfl⟩) (by kernel_rfl) (by kernel_rfl)
theorem tyOk_53 : TyOk Tryz.prog 53 (.slice 9) := tyOk_mk Tryz.underlying53 (rfl) (by kernel_rfl) (by kernel_rfl)
theorem tyOk_54 : TyOk Tryz.prog 54 (.slice 3) := tyOk_mk Tryz.underlying54 (rfl) (by kernel_rfl) (by kernel_rfl)
theorem tyOk_56 : TyOk Tryz.prog 56 (.fn) := tyOk_mk Tryz.underlying56 (⟨_, _, _, rfl⟩) (by kernel_rfl) (by kernel_rfl)
theorem tyOk_57 : TyOk Tryz.prog 57 (.fn) := tyOk_mk Tryz.underlying57 (⟨_, _, _, rfl⟩) (by kernel_rfl) (by kernel_rfl)
theorem tyOk_59 : TyOk Tryz.prog 59 (.fn) := tyOk_mk Tryz.underlying59 (⟨_, _, _, rfl⟩) (by kernel_rfl) (by kernel_rfl)
theorem tyOk_60 : TyOk Tryz.prog 60 (.fn) := tyOk_mk Tryz.underlying60 (⟨_, _, _, rfl⟩) (by kernel_rfl) (by kernel_rfl)
theorem tyOk_61 : TyOk Tryz.prog 61 (.struct [.v (.string ⟨#[]⟩), .v .nilFunc]) := tyOk_mk Tryz.underlying61 (isDesc_struct (by kernel_rfl)) (by kernel_rfl) (by kernel_rfl)
theorem tyOk_62 : TyOk Tryz.prog 62 (.struct [.v (.string ⟨#[]⟩), .v .nilFunc]) := tyOk_mk Tryz.underlying62 (isDesc_struct (by kernel_rfl)) (by kernel_rfl) (by kernel_rfl)
theorem tyOk_63 : TyOk Tryz.prog 63 (.fn) := tyOk_mk Tryz.underlying63 (⟨_, _, _, rfl⟩) (by kernel_rfl) (by kernel_rfl)
theorem tyOk_64 : TyOk Tryz.prog 64 (.fn) := tyOk_mk Tryz.underlying64 (⟨_, _, _, rfl⟩) (by kernel_rfl) (by kernel_rfl)
theorem tyOk_65 : TyOk Tryz.prog 65 (.fn) := tyOk_mk Tryz.underlying65 (⟨_, _, _, rfl⟩) (by kernel_rfl) (by kernel_rfl)
theorem tyOk_66 : TyOk Tryz.prog 66 (.struct [.agg [.v (.bool false), .v (.string ⟨#[]⟩)], .sl .nil [], .sl .nil []]) := tyOk_mk Tryz.underlying66 (isDesc_struct (by kernel_rfl)) (by kernel_rfl) (by kernel_rfl)
theorem tyOk_67 : TyOk Tryz.prog 67 (.struct [.agg [.v (.bool false), .v (.string ⟨#[]⟩)], .sl .nil [], .sl .nil []]) := tyOk_mk Tryz.underlying67 (isDesc_struct (by kernel_rfl)) (by kernel_rfl) (by kernel_rfl)
theorem tyOk_69 : TyOk Tryz.prog 69 (.fn) := tyOk_mk Tryz.underlying69 (⟨_, _, _, rfl⟩) (by kernel_rfl) (by kernel_rfl)
theorem tyOk_70 : TyOk Tryz.prog 70 (.fn) := tyOk_mk Tryz.underlying70 (⟨_, _, _, rfl⟩) (by kernel_rfl) (by kernel_rfl)
theorem tyOk_71 : TyOk Tryz.prog 71 (.fn) := tyOk_mk Tryz.underlying71 (⟨_, _, _, rfl⟩) (by kernel_rfl) (by kernel_rfl)
theorem tyOk_72 : TyOk Tryz.prog 72 (.struct [.v (.string ⟨#[]⟩), .v (.string ⟨#[]⟩)]) := tyOk_mk Tryz.underlying72 (isDesc_struct (by kernel_rfl)) (by kernel_rfl) (by kernel_rfl)
theorem tyOk_73 : TyOk Tryz.prog 73 (.struct [.v (.string ⟨#[]⟩), .v (.string ⟨#[]⟩)]) := tyOk_mk Tryz.underlying73 (isDesc_struct (by kernel_rfl)) (by kernel_rfl) (by kernel_rfl)
theorem tyOk_74 : TyOk Tryz.prog 74 (.fn) := tyOk_mk Tryz.underlying74 (⟨_, _, _, rfl⟩) (by kernel_rfl) (by kernel_rfl)
theorem tyOk_76 : TyOk Tryz.prog 76 (.fn) := tyOk_mk Tryz.underlying76 (⟨_, _, _, rfl⟩) (by kernel_rfl) (by kernel_rfl)
theorem tyOk_77 : TyOk Tryz.prog 77 (.ptr) := tyOk_mk Tryz.underlying77 (⟨_, rfl⟩) (by kernel_rfl) (by kernel_rfl)
theorem tyOk_78 : TyOk Tryz.prog 78 (.struct [.agg [.v (.int .i64 0), .v (.int .i64 0)], .sl .nil [], .v (.string ⟨#[]⟩), .v (.string ⟨#[]⟩)]) := tyOk_mk Tryz.underlying78 (isDesc_struct (by kernel_rfl)) (by kernel_rfl) (by kernel_rfl)
theorem tyOk_79 : TyOk Tryz.prog 79 (.struct [.agg [.v (.int .i64 0), .v (.int .i64 0)], .sl .nil [], .v (.string ⟨#[]⟩), .v (.string ⟨#[]⟩)]) := tyOk_mk Tryz.underlying79 (isDesc_struct (by kernel_rfl)) (by kernel_rfl) (by kernel_rfl)
theorem tyOk_80 : TyOk Tryz.prog 80 (.fn) := tyOk_mk Tryz.underlying80 (⟨_, _, _, rfl⟩) (by kernel_rfl) (by kernel_rfl)
theorem tyOk_81 : TyOk Tryz.prog 81 (.fn) := tyOk_mk Tryz.underlying81 (⟨_, _, _, rfl⟩) (by kernel_rfl) (by kernel_rfl)
theorem tyOk_83 : TyOk Tryz.prog 83 (.fn) := tyOk_mk Tryz.underlying83 (⟨_, _, _, rfl⟩) (by kernel_rfl) (by kernel_rfl)
theorem tyOk_84 : TyOk Tryz.prog 84 (.fn) := tyOk_mk Tryz.underlying84 (⟨_, _, _, rfl⟩) (by kernel_rfl) (by kernel_rfl)
theorem tyOk_85 : TyOk Tryz.prog 85 (.slice 150) := tyOk_mk Tryz.underlying85 (rfl) (by kernel_rfl) (by kernel_rfl)
theorem tyOk_86 : TyOk Tryz.prog 86 (.struct [.sl .nil [], .sl .nil [], .sl .nil []]) := tyOk_mk Tryz.underlying86 (isDesc_struct (by kernel_rfl)) (by kernel_rfl) (by kernel_rfl)
theorem tyOk_87 : TyOk Tryz.prog 87 (.struct [.sl .nil [], .sl .nil [], .sl .nil []]) := tyOk_mk Tryz.underlying87 (isDesc_struct (by kernel_rfl)) (by kernel_rfl) (by kernel_rfl)
theorem tyOk_88 : TyOk Tryz.prog 88 (.fn) := tyOk_mk Tryz.underlying88 (⟨_, _, _, rfl⟩) (by kernel_rfl) (by kernel_rfl)
theorem tyOk_89 : TyOk Tryz.prog 89 (.ptr) := tyOk_mk Tryz.underlying89 (⟨_, rfl⟩) (by kernel_rfl) (by kernel_rfl)
theorem tyOk_90 : TyOk Tryz.prog 90 (.struct [.agg [.v (.int .i64 0), .v (.int .i64 0)], .v (.string ⟨#[]⟩), .dg Dg.zero, .v (.pointer none), .v (.pointer none), .agg [.v (.bool false), .v (.string ⟨#[]⟩)], .sl .nil []]) := tyOk_mk Tryz.underlying90 (isDesc_struct (by kernel_rfl)) (by kernel_rfl) (by kernel_rfl)
theorem tyOk_91 : TyOk Tryz.prog 91 (.struct [.agg [.v (.int .i64 0), .v (.int .i64 0)], .v (.string ⟨#[]⟩), .dg Dg.zero, .v (.pointer none), .v (.pointer none), .agg [.v (.bool false), .v (.string ⟨#[]⟩)], .sl .nil []]) := tyOk_mk Tryz.underlying91 (isDesc_struct (by kernel_rfl)) (by kernel_rfl) (by kernel_rfl)
theorem tyOk_93 : TyOk Tryz.prog 93 (.fn) := tyOk_mk Tryz.underlying93 (⟨_, _, _, rfl⟩) (by kernel_rfl) (by kernel_rfl)
theorem tyOk_94 : TyOk Tryz.prog 94 (.fn) := tyOk_mk Tryz.underlying94 (⟨_, _, _, rfl⟩) (by kernel_rfl) (by kernel_rfl)
theorem tyOk_95 : TyOk Tryz.prog 95 (.fn) := tyOk_mk Tryz.underlying95 (⟨_, _, _, rfl⟩) (by kernel_rfl) (by kernel_rfl)
theorem tyOk_96 : TyOk Tryz.prog 96 (.iface) := tyOk_mk Tryz.underlying96 (⟨_, rfl⟩) (by kernel_rfl) (by kernel_rfl)
theorem tyOk_97 : TyOk Tryz.prog 97 (.iface) := tyOk_mk Tryz.underlying97 (⟨_, rfl⟩) (by kernel_rfl) (by kernel_rfl)
theorem tyOk_99 : TyOk Tryz.prog 99 (.fn) := tyOk_mk Tryz.underlying99 (⟨_, _, _, rfl⟩) (by kernel_rfl) (by kernel_rfl)
theorem tyOk_100 : TyOk Tryz.prog 100 (.struct []) := tyOk_mk Tryz.underlying100 (isDesc_struct (by kernel_rfl)) (by kernel_rfl) (by kernel_rfl)
theorem tyOk_101 : TyOk Tryz.prog 101 (.struct []) := tyOk_mk Tryz.underlying101 (isDesc_struct (by kernel_rfl)) (by kernel_rfl) (by kernel_rfl)
theorem tyOk_103 : TyOk Tryz.prog 103 (.ptr) := tyOk_mk Tryz.underlying103 (⟨_, rfl⟩) (by kernel_rfl) (by kernel_rfl)
theorem tyOk_104 : TyOk Tryz.prog 104 (.struct [.agg [.v (.int .i64 0), .v (.int .i64 0)], .sl .nil [], .v (.string ⟨#[]⟩), .v (.string ⟨#[]⟩), .sl .nil []]) := tyOk_mk Tryz.underlying104 (isDesc_struct (by kernel_rfl)) (by kernel_rfl) (by kernel_rfl)
theorem tyOk_105 : TyOk Tryz.prog 105 (.struct [.agg [.v (.int .i64 0), .v (.int .i64 0)], .sl .nil [], .v (.string ⟨#[]⟩), .v (.string ⟨#[]⟩), .sl .nil []]) := tyOk_mk Tryz.underlying105 (isDesc_struct (by kernel_rfl)) (by kernel_rfl) (by kernel_rfl)
theorem tyOk_106 : TyOk Tryz.prog 106 (.fn) := tyOk_mk Tryz.underlying106 (⟨_, _, _, rfl⟩) (by kernel_rfl) (by kernel_rfl)
theorem tyOk_107 : TyOk Tryz.prog 107 (.fn) := tyOk_mk Tryz.underlying107 (⟨_, _, _, rfl⟩) (by kernel_rfl) (by kernel_rfl)
theorem tyOk_108 : TyOk Tryz.prog 108 (.fn) := tyOk_mk Tryz.underlying108 (⟨_, _, _, rfl⟩) (by kernel_rfl) (by kernel_rfl)
theorem tyOk_110 : TyOk Tryz.prog 110 (.fn) := tyOk_mk Tryz.underlying110 (⟨_, _, _, rfl⟩) (by kernel_rfl) (by kernel_rfl)
theorem tyOk_111 : TyOk Tryz.prog 111 (.fn) := tyOk_mk Tryz.underlying111 (⟨_, _, _, rfl⟩) (by kernel_rfl) (by kernel_rfl)
theorem tyOk_112 : TyOk Tryz.prog 112 (.fn) := tyOk_mk Tryz.underlying112 (⟨_, _, _, rfl⟩) (by kernel_rfl) (by kernel_rfl)
theorem tyOk_114 : TyOk Tryz.prog 114 (.fn) := tyOk_mk Tryz.underlying114 (⟨_, _, _, rfl⟩) (by kernel_rfl) (by kernel_rfl)
theorem tyOk_116 : TyOk Tryz.prog 116 (.fn) := tyOk_mk Tryz.underlying116 (⟨_, _, _, rfl⟩) (by kernel_rfl) (by kernel_rfl)
theorem tyOk_117 : TyOk Tryz.prog 117 (.fn) := tyOk_mk Tryz.underlying117 (⟨_, _, _, rfl⟩) (by kernel_rfl) (by kernel_rfl)
theorem tyOk_118 : TyOk Tryz.prog 118 (.fn) := tyOk_mk Tryz.underlying118 (⟨_, _, _, rfl⟩) (by kernel_rfl) (by kernel_rfl)
theorem tyOk_120 : TyOk Tryz.prog 120 (.fn) := tyOk_mk Tryz.underlying120 (⟨_, _, _, rfl⟩) (by kernel_rfl) (by kernel_rfl)
theorem tyOk_121 : TyOk Tryz.prog 121 (.fn) := tyOk_mk Tryz.underlying121 (⟨_, _, _, rfl⟩) (by kernel_rfl) (by kernel_rfl)
theorem tyOk_122 : TyOk Tryz.prog 122 (.ptr) := tyOk_mk Tryz.underlying122 (⟨_, rfl⟩) (by kernel_rfl) (by kernel_rfl)
theorem tyOk_123 : TyOk Tryz.prog 123 (.struct [.agg [.v (.int .i64 0), .v (.int .i64 0)], .sl .nil [], .v (.string ⟨#[]⟩), .v (.string ⟨#[]⟩), .sl .nil []]) := tyOk_mk Tryz.underlying123 (isDesc_struct (by kernel_rfl)) (by kernel_rfl) (by kernel_rfl)
theorem tyOk_124 : TyOk Tryz.prog 124 (.struct [.agg [.v (.int .i64 0), .v (.int .i64 0)], .sl .nil [], .v (.string ⟨#[]⟩), .v (.string ⟨#[]⟩), .sl .nil []]) := tyOk_mk Tryz.underlying124 (isDesc_struct (by kernel_rfl)) (by kernel_rfl) (by kernel_rfl)
theorem tyOk_125 : TyOk Tryz.prog 125 (.fn) := tyOk_mk Tryz.underlying125 (⟨_, _, _, rfl⟩) (by kernel_rfl) (by kernel_rfl)
theorem tyOk_126 : TyOk Tryz.prog 126 (.int .u32) := tyOk_mk Tryz.underlying126 (rfl) (by kernel_rfl) (by kernel_rfl)
theorem tyOk_127 : TyOk Tryz.prog 127 (.struct [.sl .nil [], .v (.int .u32 0), .dg Dg.zero, .v (.string ⟨#[]⟩), .v (.string ⟨#[]⟩), .v (.bool false), .v (.bool false)]) := tyOk_mk Tryz.underlying127 (isDesc_struct (by kernel_rfl)) (by kernel_rfl) (by kernel_rfl)
theorem tyOk_128 : TyOk Tryz.prog 128 (.struct [.sl .nil [], .v (.int .u32 0), .dg Dg.zero, .v (.string ⟨#[]⟩), .v (.string ⟨#[]⟩), .v (.bool false), .v (.bool false)]) := tyOk_mk Tryz.underlying128 (isDesc_struct (by kernel_rfl)) (by kernel_rfl) (by kernel_rfl)
theorem tyOk_129 : TyOk Tryz.prog 129 (.ptr) := tyOk_mk Tryz.underlying129 (⟨_, rfl⟩) (by kernel_rfl) (by kernel_rfl)
theorem tyOk_130 : TyOk Tryz.prog 130 (.struct [.v (.string ⟨#[]⟩), .v (.int .i64 0), .v (.int .i64 0)]) := tyOk_mk Tryz.underlying130 (isDesc_struct (by kernel_rfl)) (by kernel_rfl) (by kernel_rfl)
theorem tyOk_131 : TyOk Tryz.prog 131 (.struct [.v (.string ⟨#[]⟩), .v (.int .i64 0), .v (.int .i64 0)]) := tyOk_mk Tryz.underlying131 (isDesc_struct (by kernel_rfl)) (by kernel_rfl) (by kernel_rfl)
theorem tyOk_132 : TyOk Tryz.prog 132 (.fn) := tyOk_mk Tryz.underlying132 (⟨_, _, _, rfl⟩) (by kernel_rfl) (by kernel_rfl)
theorem tyOk_134 : TyOk Tryz.prog 134 (.fn) := tyOk_mk Tryz.underlying134 (⟨_, _, _, rfl⟩) (by kernel_rfl) (by kernel_rfl)
theorem tyOk_135 : TyOk Tryz.prog 135 (.fn) := tyOk_mk Tryz.underlying135 (⟨_, _, _, rfl⟩) (by kernel_rfl) (by kernel_rfl)
theorem tyOk_136 : TyOk Tryz.prog 136 (.fn) := tyOk_mk Tryz.underlying136 (⟨_, _, _, rfl⟩) (by kernel_rfl) (by kernel_rfl)
theorem tyOk_137 : TyOk Tryz.prog 137 (.struct []) := tyOk_mk Tryz.underlying137 (isDesc_struct (by kernel_rfl)) (by kernel_rfl) (by kernel_rfl)
theorem tyOk_139 : TyOk Tryz.prog 139 (.fn) := tyOk_mk Tryz.underlying139 (⟨_, _, _, rfl⟩) (by kernel_rfl) (by kernel_rfl)
theorem tyOk_140 : TyOk Tryz.prog 140 (.fn) := tyOk_mk Tryz.underlying140 (⟨_, _, _, rfl⟩) (by kernel_rfl) (by kernel_rfl)
theorem tyOk_141 : TyOk Tryz.prog 141 (.fn) := tyOk_mk Tryz.underlying141 (⟨_, _, _, rfl⟩) (by kernel_rfl) (by kernel_rfl)
theorem tyOk_142 : TyOk Tryz.prog 142 (.ptr) := tyOk_mk Tryz.underlying142 (⟨_, rfl⟩) (by kernel_rfl) (by kernel_rfl)
theorem tyOk_143 : TyOk Tryz.prog 143 (.fn) := tyOk_mk Tryz.underlying143 (⟨_, _, _, rfl⟩) (by kernel_rfl) (by kernel_rfl)
theorem tyOk_144 : TyOk Tryz.prog 144 (.fn) := tyOk_mk Tryz.underlying144 (⟨_, _, _, rfl⟩) (by kernel_rfl) (by kernel_rfl)
theorem tyOk_145 : TyOk Tryz.prog 145 (.fn) := tyOk_mk Tryz.underlying145 (⟨_, _, _, rfl⟩) (by kernel_rfl) (by kernel_rfl)
theorem tyOk_146 : TyOk Tryz.prog 146 (.fn) := tyOk_mk Tryz.underlying146 (⟨_, _, _, rfl⟩) (by kernel_rfl) (by kernel_rfl)
theorem tyOk_147 : TyOk Tryz.prog 147 (.fn) := tyOk_mk Tryz.underlying147 (⟨_, _, _, rfl⟩) (by kernel_rfl) (by kernel_rfl)
theorem tyOk_148 : TyOk Tryz.prog 148 (.fn) := tyOk_mk Tryz.underlying148 (⟨_, _, _, rfl⟩) (by kernel_rfl) (by kernel_rfl)
theorem tyOk_149 : TyOk Tryz.prog 149 (.struct [.v (.int .u32 0), .dg Dg.zero]) := tyOk_mk Tryz.underlying149 (isDesc_struct (by kernel_rfl)) (by kernel_rfl) (by kernel_rfl)
theorem tyOk_150 : TyOk Tryz.prog 150 (.struct [.v (.int .u32 0), .dg Dg.zero]) := tyOk_mk Tryz.underlying150 (isDesc_struct (by kernel_rfl)) (by kernel_rfl) (by kernel_rfl)
theorem tyOk_151 : TyOk Tryz.prog 151 (.int .u64) := tyOk_mk Tryz.underlying151 (rfl) (by kernel_rfl) (by kernel_rfl)
theorem tyOk_152 : TyOk Tryz.prog 152 (.fn) := tyOk_mk Tryz.underlying152 (⟨_, _, _, rfl⟩) (by kernel_rfl) (by kernel_rfl)
theorem tyOk_154 : TyOk Tryz.prog 154 (.fn) := tyOk_mk Tryz.underlying154 (⟨_, _, _, rfl⟩) (by kernel_rfl) (by kernel_rfl)
theorem tyOk_155 : TyOk Tryz.prog 155 (.fn) := tyOk_mk Tryz.underlying155 (⟨_, _, _, rfl⟩) (by kernel_rfl) (by kernel_rfl)
theorem tyOk_156 : TyOk Tryz.prog 156 (.struct [.v (.string ⟨#[]⟩), .v (.string ⟨#[]⟩), .v (.bool false), .v (.bool false)]) := tyOk_mk Tryz.underlying156 (isDesc_struct (by kernel_rfl)) (by kernel_rfl) (by kernel_rfl)
theorem tyOk_157 : TyOk Tryz.prog 157 (.struct [.v (.string ⟨#[]⟩), .v (.string ⟨#[]⟩), .v (.bool false), .v (.bool false)]) := tyOk_mk Tryz.underlying157 (isDesc_struct (by kernel_rfl)) (by kernel_rfl) (by kernel_rfl)
theorem tyOk_158 : TyOk Tryz.prog 158 (.fn) := tyOk_mk Tryz.underlying158 (⟨_, _, _, rfl⟩) (by kernel_rfl) (by kernel_rfl)
theorem tyOk_159 : TyOk Tryz.prog 159 (.fn) := tyOk_mk Tryz.underlying159 (⟨_, _, _, rfl⟩) (by kernel_rfl) (by kernel_rfl)
theorem tyOk_160 : TyOk Tryz.prog 160 (.fn) := tyOk_mk Tryz.underlying160 (⟨_, _, _, rfl⟩) (by kernel_rfl) (by kernel_rfl)
theorem tyOk_161 : TyOk Tryz.prog 161 (.fn) := tyOk_mk Tryz.underlying161 (⟨_, _, _, rfl⟩) (by kernel_rfl) (by kernel_rfl)
theorem tyOk_162 : TyOk Tryz.prog 162 (.fn) := tyOk_mk Tryz.underlying162 (⟨_, _, _, rfl⟩) (by kernel_rfl) (by kernel_rfl)
theorem tyOk_163 : TyOk Tryz.prog 163 (.int .u64) := tyOk_mk Tryz.underlying163 (rfl) (by kernel_rfl) (by kernel_rfl)
theorem tyOk_164 : TyOk Tryz.prog 164 (.fn) := tyOk_mk Tryz.underlying164 (⟨_, _, _, rfl⟩) (by kernel_rfl) (by kernel_rfl)
theorem tyOk_165 : TyOk Tryz.prog 165 (.fn) := tyOk_mk Tryz.underlying165 (⟨_, _, _, rfl⟩) (by kernel_rfl) (by kernel_rfl)
theorem tyOk_166 : TyOk Tryz.prog 166 (.fn) := tyOk_mk Tryz.underlying166 (⟨_, _, _, rfl⟩) (by kernel_rfl) (by kernel_rfl)
theorem tyOk_167 : TyOk Tryz.prog 167 (.fn) := tyOk_mk Tryz.underlying167 (⟨_, _, _, rfl⟩) (by kernel_rfl) (by kernel_rfl)
theorem tyOk_168 : TyOk Tryz.prog 168 (.fn) := tyOk_mk Tryz.underlying168 (⟨_, _, _, rfl⟩) (by kernel_rfl) (by kernel_rfl)
theorem tyOk_169 : TyOk Tryz.prog 169 (.fn) := tyOk_mk Tryz.underlying169 (⟨_, _, _, rfl⟩) (by kernel_rfl) (by kernel_rfl)
theorem tyOk_170 : TyOk Tryz.prog 170 (.fn) := tyOk_mk Tryz.underlying170 (⟨_, _, _, rfl⟩) (by kernel_rfl) (by kernel_rfl)
theorem tyOk_171 : TyOk Tryz.prog 171 (.ptr) := tyOk_mk Tryz.underlying171 (⟨_, rfl⟩) (by kernel_rfl) (by kernel_rfl)
theorem tyOk_172 : TyOk Tryz.prog 172 (.fn) := tyOk_mk Tryz.underlying172 (⟨_, _, _, rfl⟩) (by kernel_rfl) (by kernel_rfl)
theorem tyOk_174 : TyOk Tryz.prog 174 (.fn) := tyOk_mk Tryz.underlying174 (⟨_, _, _, rfl⟩) (by kernel_rfl) (by kernel_rfl)
theorem tyOk_175 : TyOk Tryz.prog 175 (.ptr) := tyOk_mk Tryz.underlying175 (⟨_, rfl⟩) (by kernel_rfl) (by kernel_rfl)
theorem tyOk_176 : TyOk Tryz.prog 176 (.fn) := tyOk_mk Tryz.underlying176 (⟨_, _, _, rfl⟩) (by kernel_rfl) (by kernel_rfl)
theorem tyOk_177 : TyOk Tryz.prog 177 (.fn) := tyOk_mk Tryz.underlying177 (⟨_, _, _, rfl⟩) (by kernel_rfl) (by kernel_rfl)
theorem tyOk_178 : TyOk Tryz.prog 178 (.struct [.v (.bool false), .v (.string ⟨#[]⟩), .v (.int .i64 0), .v (.int .i64 0)]) := tyOk_mk Tryz.underlying178 (isDesc_struct (by kernel_rfl)) (by kernel_rfl) (by kernel_rfl)
theorem tyOk_179 : TyOk Tryz.prog 179 (.struct [.v (.bool false), .v (.string ⟨#[]⟩), .v (.int .i64 0), .v (.int .i64 0)]) := tyOk_mk Tryz.underlying179 (isDesc_struct (by kernel_rfl)) (by kernel_rfl) (by kernel_rfl)
theorem tyOk_180 : TyOk Tryz.prog 180 (.ptr) := tyOk_mk Tryz.underlying180 (⟨_, rfl⟩) (by kernel_rfl) (by kernel_rfl)
theorem tyOk_181 : TyOk Tryz.prog 181 (.fn) := tyOk_mk Tryz.underlying181 (⟨_, _, _, rfl⟩) (by kernel_rfl) (by kernel_rfl)
theorem tyOk_182 : TyOk Tryz.prog 182 (.struct [.v (.int .i64 0), .v (.int .i64 0)]) := tyOk_mk Tryz.underlying182 (isDesc_struct (by kernel_rfl)) (by kernel_rfl) (by kernel_rfl)
theorem tyOk_183 : TyOk Tryz.prog 183 (.struct [.v (.int .i64 0), .v (.int .i64 0)]) := tyOk_mk Tryz.underlying183 (isDesc_struct (by kernel_rfl)) (by kernel_rfl) (by kernel_rfl)
theorem tyOk_184 : TyOk Tryz.prog 184 (.fn) := tyOk_mk Tryz.underlying184 (⟨_, _, _, rfl⟩) (by kernel_rfl) (by kernel_rfl)
theorem tyOk_185 : TyOk Tryz.prog 185 (.slice 126) := tyOk_mk Tryz.underlying185 (rfl) (by kernel_rfl) (by kernel_rfl)
theorem tyOk_186 : TyOk Tryz.prog 186 (.struct [.sl .nil [], .sl .nil []]) := tyOk_mk Tryz.underlying186 (isDesc_struct (by kernel_rfl)) (by kernel_rfl) (by kernel_rfl)
theorem tyOk_187 : TyOk Tryz.prog 187 (.struct [.sl .nil [], .sl .nil []]) := tyOk_mk Tryz.underlying187 (isDesc_struct (by kernel_rfl)) (by kernel_rfl) (by kernel_rfl)
theorem tyOk_188 : TyOk Tryz.prog 188 (.fn) := tyOk_mk Tryz.underlying188 (⟨_, _, _, rfl⟩) (by kernel_rfl) (by kernel_rfl)
theorem tyOk_189 : TyOk Tryz.prog 189 (.fn) := tyOk_mk Tryz.underlying189 (⟨_, _, _, rfl⟩) (by kernel_rfl) (by kernel_rfl)
theorem tyOk_190 : TyOk Tryz.prog 190 (.fn) := tyOk_mk Tryz.underlying190 (⟨_, _, _, rfl⟩) (by kernel_rfl) (by kernel_rfl)
theorem tyOk_191 : TyOk Tryz.prog 191 (.fn) := tyOk_mk Tryz.underlying191 (⟨_, _, _, rfl⟩) (by kernel_rfl) (by kernel_rfl)
theorem tyOk_192 : TyOk Tryz.prog 192 (.fn) := tyOk_mk Tryz.underlying192 (⟨_, _, _, rfl⟩) (by kernel_rfl) (by kernel_rfl)
theorem tyOk_193 : TyOk Tryz.prog 193 (.fn) := tyOk_mk Tryz.underlying193 (⟨_, _, _, rfl⟩) (by kernel_rfl) (by kernel_rfl)
theorem tyOk_194 : TyOk Tryz.prog 194 (.fn) := tyOk_mk Tryz.underlying194 (⟨_, _, _, rfl⟩) (by kernel_rfl) (by kernel_rfl)
theorem tyOk_195 : TyOk Tryz.prog 195 (.fn) := tyOk_mk Tryz.underlying195 (⟨_, _, _, rfl⟩) (by kernel_rfl) (by kernel_rfl)
theorem tyOk_196 : TyOk Tryz.prog 196 (.fn) := tyOk_mk Tryz.underlying196 (⟨_, _, _, rfl⟩) (by kernel_rfl) (by kernel_rfl)
theorem tyOk_197 : TyOk Tryz.prog 197 (.fn) := tyOk_mk Tryz.underlying197 (⟨_, _, _, rfl⟩) (by kernel_rfl) (by kernel_rfl)
theorem tyOk_198 : TyOk Tryz.prog 198 (.fn) := tyOk_mk Tryz.underlying198 (⟨_, _, _, rfl⟩) (by kernel_rfl) (by kernel_rfl)
theorem tyOk_201 : TyOk Tryz.prog 201 (.fn) := tyOk_mk Tryz.underlying201 (⟨_, _, _, rfl⟩) (by kernel_rfl) (by kernel_rfl)
theorem tyOk_204 : TyOk Tryz.prog 204 (.fn) := tyOk_mk Tryz.underlying204 (⟨_, _, _, rfl⟩) (by kernel_rfl) (by kernel_rfl)
theorem tyOk_206 : TyOk Tryz.prog 206 (.fn) := tyOk_mk Tryz.underlying206 (⟨_, _, _, rfl⟩) (by kernel_rfl) (by kernel_rfl)
theorem tyOk_207 : TyOk Tryz.prog 207 (.fn) := tyOk_mk Tryz.underlying207 (⟨_, _, _, rfl⟩) (by kernel_rfl) (by kernel_rfl)
theorem tyOk_208 : TyOk Tryz.prog 208 (.fn) := tyOk_mk Tryz.underlying208 (⟨_, _, _, rfl⟩) (by kernel_rfl) (by kernel_rfl)
theorem tyOk_209 : TyOk Tryz.prog 209 (.fn) := tyOk_mk Tryz.underlying209 (⟨_, _, _, rfl⟩) (by kernel_rfl) (by kernel_rfl)
theorem tyOk_210 : TyOk Tryz.prog 210 (.fn) := tyOk_mk Tryz.underlying210 (⟨_, _, _, rfl⟩) (by kernel_rfl) (by kernel_rfl)
theorem tyOk_211 : TyOk Tryz.prog 211 (.fn) := tyOk_mk Tryz.underlying211 (⟨_, _, _, rfl⟩) (by kernel_rfl) (by kernel_rfl)
theorem tyOk_212 : TyOk Tryz.prog 212 (.fn) := tyOk_mk Tryz.underlying212 (⟨_, _, _, rfl⟩) (by kernel_rfl) (by kernel_rfl)
theorem tyOk_213 : TyOk Tryz.prog 213 (.fn) := tyOk_mk Tryz.underlying213 (⟨_, _, _, rfl⟩) (by kernel_rfl) (by kernel_rfl)
theorem tyOk_214 : TyOk Tryz.prog 214 (.fn) := tyOk_mk Tryz.underlying214 (⟨_, _, _, rfl⟩) (by kernel_rfl) (by kernel_rfl)
theorem tyOk_215 : TyOk Tryz.prog 215 (.fn) := tyOk_mk Tryz.underlying215 (⟨_, _, _, rfl⟩) (by kernel_rfl) (by kernel_rfl)
theorem tyOk_216 : TyOk Tryz.prog 216 (.fn) := tyOk_mk Tryz.underlying216 (⟨_, _, _, rfl⟩) (by kernel_rfl) (by kernel_rfl)
theorem tyOk_217 : TyOk Tryz.prog 217 (.fn) := tyOk_mk Tryz.underlying217 (⟨_, _, _, rfl⟩) (by kernel_rfl) (by kernel_rfl)
theorem tyOk_218 : TyOk Tryz.prog 218 (.fn) := tyOk_mk Tryz.underlying218 (⟨_, _, _, rfl⟩) (by kernel_rfl) (by kernel_rfl)
theorem tyOk_219 : TyOk Tryz.prog 219 (.fn) := tyOk_mk Tryz.underlying219 (⟨_, _, _, rfl⟩) (by kernel_rfl) (by kernel_rfl)
theorem tyOk_220 : TyOk Tryz.prog 220 (.ptr) := tyOk_mk Tryz.underlying220 (⟨_, rfl⟩) (by kernel_rfl) (by kernel_rfl)
theorem tyOk_222 : TyOk Tryz.prog 222 (.fn) := tyOk_mk Tryz.underlying222 (⟨_, _, _, rfl⟩) (by kernel_rfl) (by kernel_rfl)
theorem tyOk_223 : TyOk Tryz.prog 223 (.fn) := tyOk_mk Tryz.underlying223 (⟨_, _, _, rfl⟩) (by kernel_rfl) (by kernel_rfl)
theorem tyOk_224 : TyOk Tryz.prog 224 (.ptr) := tyOk_mk Tryz.underlying224 (⟨_, rfl⟩) (by kernel_rfl) (by kernel_rfl)
theorem tyOk_225 : TyOk Tryz.prog 225 (.ptr) := tyOk_mk Tryz.underlying225 (⟨_, rfl⟩) (by kernel_rfl) (by kernel_rfl)
theorem tyOk_226 : TyOk Tryz.prog 226 (.fn) := tyOk_mk Tryz.underlying226 (⟨_, _, _, rfl⟩) (by kernel_rfl) (by kernel_rfl)
theorem tyOk_227 : TyOk Tryz.prog 227 (.fn) := tyOk_mk Tryz.underlying227 (⟨_, _, _, rfl⟩) (by kernel_rfl) (by kernel_rfl)
theorem tyOk_228 : TyOk Tryz.prog 228 (.fn) := tyOk_mk Tryz.underlying228 (⟨_, _, _, rfl⟩) (by kernel_rfl) (by kernel_rfl)
theorem tyOk_229 : TyOk Tryz.prog 229 (.fn) := tyOk_mk Tryz.underlying229 (⟨_, _, _, rfl⟩) (by kernel_rfl) (by kernel_rfl)
theorem tyOk_230 : TyOk Tryz.prog 230 (.fn) := tyOk_mk Tryz.underlying230 (⟨_, _, _, rfl⟩) (by kernel_rfl) (by kernel_rfl)
theorem tyOk_231 : TyOk Tryz.prog 231 (.fn) := tyOk_mk Tryz.underlying231 (⟨_, _, _, rfl⟩) (by kernel_rfl) (by kernel_rfl)
theorem tyOk_232 : TyOk Tryz.prog 232 (.fn) := tyOk_mk Tryz.underlying232 (⟨_, _, _, rfl⟩) (by kernel_rfl) (by kernel_rfl)
theorem tyOk_233 : TyOk Tryz.prog 233 (.fn) := tyOk_mk Tryz.underlying233 (⟨_, _, _, rfl⟩) (by kernel_rfl) (by kernel_rfl)
theorem tyOk_234 : TyOk Tryz.prog 234 (.fn) := tyOk_mk Tryz.underlying234 (⟨_, _, _, rfl⟩) (by kernel_rfl) (by kernel_rfl)
theorem tyOk_235 : TyOk Tryz.prog 235 (.fn) := tyOk_mk Tryz.underlying235 (⟨_, _, _, rfl⟩) (by kernel_rfl) (by kernel_rfl)
theorem tyOk_236 : TyOk Tryz.prog 236 (.fn) := tyOk_mk Tryz.underlying236 (⟨_, _, _, rfl⟩) (by kernel_rfl) (by kernel_rfl)
theorem tyOk_237 : TyOk Tryz.prog 237 (.fn) := tyOk_mk Tryz.underlying237 (⟨_, _, _, rfl⟩) (by kernel_rfl) (by kernel_rfl)
theorem tyOk_238 : TyOk Tryz.prog 238 (.struct [.v (.bool false), .sl .nil []]) := tyOk_mk Tryz.underlying238 (isDesc_struct (by kernel_rfl)) (by kernel_rfl) (by kernel_rfl)
theorem tyOk_239 : TyOk Tryz.prog 239 (.struct [.v (.bool false), .sl .nil []]) := tyOk_mk Tryz.underlying239 (isDesc_struct (by kernel_rfl)) (by kernel_rfl) (by kernel_rfl)
theorem tyOk_240 : TyOk Tryz.prog 240 (.fn) := tyOk_mk Tryz.underlying240 (⟨_, _, _, rfl⟩) (by kernel_rfl) (by kernel_rfl)
theorem tyOk_241 : TyOk Tryz.prog 241 (.struct [.v (.pointer none), .v (.pointer none), .v (.pointer none), .v (.string ⟨#[]⟩)]) := tyOk_mk Tryz.underlying241 (isDesc_struct (by kernel_rfl)) (by kernel_rfl) (by kernel_rfl)
theorem tyOk_242 : TyOk Tryz.prog 242 (.struct [.v (.pointer none), .v (.pointer none), .v (.pointer none), .v (.string ⟨#[]⟩)]) := tyOk_mk Tryz.underlying242 (isDesc_struct (by kernel_rfl)) (by kernel_rfl) (by kernel_rfl)
theorem tyOk_246 : TyOk Tryz.prog 246 (.int .u8) := tyOk_mk Tryz.underlying246 (rfl) (by kernel_rfl) (by kernel_rfl)
theorem tyOk_247 : TyOk Tryz.prog 247 (.int .u8) := tyOk_mk Tryz.underlying247 (rfl) (by kernel_rfl) (by kernel_rfl)
theorem tyOk_248 : TyOk Tryz.prog 248 (.fn) := tyOk_mk Tryz.underlying248 (⟨_, _, _, rfl⟩) (by kernel_rfl) (by kernel_rfl)
theorem tyOk_249 : TyOk Tryz.prog 249 (.ptr) := tyOk_mk Tryz.underlying249 (⟨_, rfl⟩) (by kernel_rfl) (by kernel_rfl)
theorem tyOk_250 : TyOk Tryz.prog 250 (.int .i32) := tyOk_mk Tryz.underlying250 (rfl) (by kernel_rfl) (by kernel_rfl)
theorem tyOk_251 : TyOk Tryz.prog 251 (.int .i32) := tyOk_mk Tryz.underlying251 (rfl) (by kernel_rfl) (by kernel_rfl)
theorem tyOk_252 : TyOk Tryz.prog 252 (.struct [.v (.int .u64 0), .v (.int .u64 0), .v (.int .u32 0), .v (.int .u8 0), .v (.int .u8 0), .v (.int .u8 0), .v (.int .u8 0), .v .nilFunc, .v (.pointer none), .v (.int .i32 0), .v (.int .i32 0)]) := tyOk_mk Tryz.underlying252 (isDesc_struct (by kernel_rfl)) (by kernel_rfl) (by kernel_rfl)
theorem tyOk_253 : TyOk Tryz.prog 253 (.struct [.v (.int .u64 0), .v (.int .u64 0), .v (.int .u32 0), .v (.int .u8 0), .v (.int .u8 0), .v (.int .u8 0), .v (.int .u8 0), .v .nilFunc, .v (.pointer none), .v (.int .i32 0), .v (.int .i32 0)]) := tyOk_mk Tryz.underlying253 (isDesc_struct (by kernel_rfl)) (by kernel_rfl) (by kernel_rfl)

set_option maxRecDepth 100000 in
theorem tysL_ok : ∀ p ∈ tysL, TyOk Tryz.prog p.1 p.2 := by
  unfold tysL
  refine List.forall_mem_cons.2 ⟨tyOk_1, ?_⟩
  refine List.forall_mem_cons.2 ⟨tyOk_2, ?_⟩
  refine List.forall_mem_cons.2 ⟨tyOk_3, ?_⟩
  refine List.forall_mem_cons.2 ⟨tyOk_4, ?_⟩
  refine List.forall_mem_cons.2 ⟨tyOk_5, ?_⟩
  refine List.forall_mem_cons.2 ⟨tyOk_6, ?_⟩
  refine List.forall_mem_cons.2 ⟨tyOk_7, ?_⟩
  refine List.forall_mem_cons.2 ⟨tyOk_8, ?_⟩
  refine List.forall_mem_cons.2 ⟨tyOk_9, ?_⟩
  refine List.forall_mem_cons.2 ⟨tyOk_10, ?_⟩
  refine List.forall_mem_cons.2 ⟨tyOk_11, ?_⟩
  refine List.forall_mem_cons.2 ⟨tyOk_12, ?_⟩
  refine List.forall_mem_cons.2 ⟨tyOk_13, ?_⟩
  refine List.forall_mem_cons.2 ⟨tyOk_14, ?_⟩
  refine List.forall_mem_cons.2 ⟨tyOk_15, ?_⟩
  refine List.forall_mem_cons.2 ⟨tyOk_16, ?_⟩
  refine List.forall_mem_cons.2 ⟨tyOk_17, ?_⟩
  refine List.forall_mem_cons.2 ⟨tyOk_18, ?_⟩
  refine List.forall_mem_cons.2 ⟨tyOk_19, ?_⟩
  refine List.forall_mem_cons.2 ⟨tyOk_20, ?_⟩
  refine List.forall_mem_cons.2 ⟨tyOk_21, ?_⟩
  refine List.forall_mem_cons.2 ⟨tyOk_22, ?_⟩
  refine List.forall_mem_cons.2 ⟨tyOk_23, ?_⟩
  refine List.forall_mem_cons.2 ⟨tyOk_24, ?_⟩
  refine List.forall_mem_cons.2 ⟨tyOk_25, ?_⟩
  refine List.forall_mem_cons.2 ⟨tyOk_26, ?_⟩
  refine List.forall_mem_cons.2 ⟨tyOk_27, ?_⟩
  refine List.forall_mem_cons.2 ⟨tyOk_28, ?_⟩
  refine List.forall_mem_cons.2 ⟨tyOk_29, ?_⟩
  refine List.forall_mem_cons.2 ⟨tyOk_30, ?_⟩
  refine List.forall_mem_cons.2 ⟨tyOk_31, ?_⟩
  refine List.forall_mem_cons.2 ⟨tyOk_32, ?_⟩
  refine List.forall_mem_cons.2 ⟨tyOk_34, ?_⟩
  refine List.forall_mem_cons.2 ⟨tyOk_35, ?_⟩
  refine List.forall_mem_cons.2 ⟨tyOk_36, ?_⟩
  refine List.forall_mem_cons.2 ⟨tyOk_37, ?_⟩
  refine List.forall_mem_cons.2 ⟨tyOk_38, ?_⟩
  refine List.forall_mem_cons.2 ⟨tyOk_39, ?_⟩
  refine List.forall_mem_cons.2 ⟨tyOk_40, ?_⟩
  refine List.forall_mem_cons.2 ⟨tyOk_41, ?_⟩
  refine List.forall_mem_cons.2 ⟨tyOk_42, ?_⟩
  refine List.forall_mem_cons.2 ⟨tyOk_44, ?_⟩
  refine List.forall_mem_cons.2 ⟨tyOk_45, ?_⟩
  refine List.forall_mem_cons.2 ⟨tyOk_46, ?_⟩
  refine List.forall_mem_cons.2 ⟨tyOk_48, ?_⟩
  refine List.forall_mem_cons.2 ⟨tyOk_49, ?_⟩
  refine List.forall_mem_cons.2 ⟨tyOk_51, ?_⟩
  refine List.forall_mem_cons.2 ⟨tyOk_52, ?_⟩
  refine List.forall_mem_cons.2 ⟨tyOk_53, ?_⟩
  refine List.forall_mem_cons.2 ⟨tyOk_54, ?_⟩
  refine List.forall_mem_cons.2 ⟨tyOk_56, ?_⟩
  refine List.forall_mem_cons.2 ⟨tyOk_57, ?_⟩
  refine List.forall_mem_cons.2 ⟨tyOk_59, ?_⟩
  refine List.forall_mem_cons.2 ⟨tyOk_60, ?_⟩
  refine List.forall_mem_cons.2 ⟨tyOk_61, ?_⟩
  refine List.forall_mem_cons.2 ⟨tyOk_62, ?_⟩
  refine List.forall_mem_cons.2 ⟨tyOk_63, ?_⟩
  refine List.forall_mem_cons.2 ⟨tyOk_64, ?_⟩
  refine List.forall_mem_cons.2 ⟨tyOk_65, ?_⟩
  refine List.forall_mem_cons.2 ⟨tyOk_66, ?_⟩
  refine List.forall_mem_cons.2 ⟨tyOk_67, ?_⟩
  refine List.forall_mem_cons.2 ⟨tyOk_69, ?_⟩
  refine List.forall_mem_cons.2 ⟨tyOk_70, ?_⟩
  refine List.forall_mem_cons.2 ⟨tyOk_71, ?_⟩
  refine List.forall_mem_cons.2 ⟨tyOk_72, ?_⟩
  refine List.forall_mem_cons.2 ⟨tyOk_73, ?_⟩
  refine List.forall_mem_cons.2 ⟨tyOk_74, ?_⟩
  refine List.forall_mem_cons.2 ⟨tyOk_76, ?_⟩
  refine List.forall_mem_cons.2 ⟨tyOk_77, ?_⟩
  refine List.forall_mem_cons.2 ⟨tyOk_78, ?_⟩
  refine List.forall_mem_cons.2 ⟨tyOk_79, ?_⟩
  refine List.forall_mem_cons.2 ⟨tyOk_80, ?_⟩
  refine List.forall_mem_cons.2 ⟨tyOk_81, ?_⟩
  refine List.forall_mem_cons.2 ⟨tyOk_83, ?_⟩
  refine List.forall_mem_cons.2 ⟨tyOk_84, ?_⟩
  refine List.forall_mem_cons.2 ⟨tyOk_85, ?_⟩
  refine List.forall_mem_cons.2 ⟨tyOk_86, ?_⟩
  refine List.forall_mem_cons.2 ⟨tyOk_87, ?_⟩
  refine List.forall_mem_cons.2 ⟨tyOk_88, ?_⟩
  refine List.forall_mem_cons.2 ⟨tyOk_89, ?_⟩
  refine List.forall_mem_cons.2 ⟨tyOk_90, ?_⟩
  refine List.forall_mem_cons.2 ⟨tyOk_91, ?_⟩
  refine List.forall_mem_cons.2 ⟨tyOk_93, ?_⟩
  refine List.forall_mem_cons.2 ⟨tyOk_94, ?_⟩
  refine List.forall_mem_cons.2 ⟨tyOk_95, ?_⟩
  refine List.forall_mem_cons.2 ⟨tyOk_96, ?_⟩
  refine List.forall_mem_cons.2 ⟨tyOk_97, ?_⟩
  refine List.forall_mem_cons.2 ⟨tyOk_99, ?_⟩
  refine List.forall_mem_cons.2 ⟨tyOk_100, ?_⟩
  refine List.forall_mem_cons.2 ⟨tyOk_101, ?_⟩
  refine List.forall_mem_cons.2 ⟨tyOk_103, ?_⟩
  refine List.forall_mem_cons.2 ⟨tyOk_104, ?_⟩
  refine List.forall_mem_cons.2 ⟨tyOk_105, ?_⟩
  refine List.forall_mem_cons.2 ⟨tyOk_106, ?_⟩
  refine List.forall_mem_cons.2 ⟨tyOk_107, ?_⟩
  refine List.forall_mem_cons.2 ⟨tyOk_108, ?_⟩
  refine List.forall_mem_cons.2 ⟨tyOk_110, ?_⟩
  refine List.forall_mem_cons.2 ⟨tyOk_111, ?_⟩
  refine List.forall_mem_cons.2 ⟨tyOk_112, ?_⟩
  refine List.forall_mem_cons.2 ⟨tyOk_114, ?_⟩
  refine List.forall_mem_cons.2 ⟨tyOk_116, ?_⟩
  refine List.forall_mem_cons.2 ⟨tyOk_117, ?_⟩
  refine List.forall_mem_cons.2 ⟨tyOk_118, ?_⟩
  refine List.forall_mem_cons.2 ⟨tyOk_120, ?_⟩
  refine List.forall_mem_cons.2 ⟨tyOk_121, ?_⟩
  refine List.forall_mem_cons.2 ⟨tyOk_122, ?_⟩
  refine List.forall_mem_cons.2 ⟨tyOk_123, ?_⟩
  refine List.forall_mem_cons.2 ⟨tyOk_124, ?_⟩
  refine List.forall_mem_cons.2 ⟨tyOk_125, ?_⟩
  refine List.forall_mem_cons.2 ⟨tyOk_126, ?_⟩
  refine List.forall_mem_cons.2 ⟨tyOk_127, ?_⟩
  refine List.forall_mem_cons.2 ⟨tyOk_128, ?_⟩
  refine List.forall_mem_cons.2 ⟨tyOk_129, ?_⟩
  refine List.forall_mem_cons.2 ⟨tyOk_130, ?_⟩
  refine List.forall_mem_cons.2 ⟨tyOk_131, ?_⟩
  refine List.forall_mem_cons.2 ⟨tyOk_132, ?_⟩
  refine List.forall_mem_cons.2 ⟨tyOk_134, ?_⟩
  refine List.forall_mem_cons.2 ⟨tyOk_135, ?_⟩
  refine List.forall_mem_cons.2 ⟨tyOk_136, ?_⟩
  refine List.forall_mem_cons.2 ⟨tyOk_137, ?_⟩
  refine List.forall_mem_cons.2 ⟨tyOk_139, ?_⟩
  refine List.forall_mem_cons.2 ⟨tyOk_140, ?_⟩
  refine List.forall_mem_cons.2 ⟨tyOk_141, ?_⟩
  refine List.forall_mem_cons.2 ⟨tyOk_142, ?_⟩
  refine List.forall_mem_cons.2 ⟨tyOk_143, ?_⟩
  refine List.forall_mem_cons.2 ⟨tyOk_144, ?_⟩
  refine List.forall_mem_cons.2 ⟨tyOk_145, ?_⟩
  refine List.forall_mem_cons.2 ⟨tyOk_146, ?_⟩
  refine List.forall_mem_cons.2 ⟨tyOk_147, ?_⟩
  refine List.forall_mem_cons.2 ⟨tyOk_148, ?_⟩
  refine List.forall_mem_cons.2 ⟨tyOk_149, ?_⟩
  refine List.forall_mem_cons.2 ⟨tyOk_150, ?_⟩
  refine List.forall_mem_cons.2 ⟨tyOk_151, ?_⟩
  refine List.forall_mem_cons.2 ⟨tyOk_152, ?_⟩
  refine List.forall_mem_cons.2 ⟨tyOk_154, ?_⟩
  refine List.forall_mem_cons.2 ⟨tyOk_155, ?_⟩
  refine List.forall_mem_cons.2 ⟨tyOk_156, ?_⟩
  refine List.forall_mem_cons.2 ⟨tyOk_157, ?_⟩
  refine List.forall_mem_cons.2 ⟨tyOk_158, ?_⟩
  refine List.forall_mem_cons.2 ⟨tyOk_159, ?_⟩
  refine List.forall_mem_cons.2 ⟨tyOk_160, ?_⟩
  refine List.forall_mem_cons.2 ⟨tyOk_161, ?_⟩
  refine List.forall_mem_cons.2 ⟨tyOk_162, ?_⟩
  refine List.forall_mem_cons.2 ⟨tyOk_163, ?_⟩
  refine List.forall_mem_cons.2 ⟨tyOk_164, ?_⟩
  refine List.forall_mem_cons.2 ⟨tyOk_165, ?_⟩
  refine List.forall_mem_cons.2 ⟨tyOk_166, ?_⟩
  refine List.forall_mem_cons.2 ⟨tyOk_167, ?_⟩
  refine List.forall_mem_cons.2 ⟨tyOk_168, ?_⟩
  refine List.forall_mem_cons.2 ⟨tyOk_169, ?_⟩
  refine List.forall_mem_cons.2 ⟨tyOk_170, ?_⟩
  refine List.forall_mem_cons.2 ⟨tyOk_171, ?_⟩
  refine List.forall_mem_cons.2 ⟨tyOk_172, ?_⟩
  refine List.forall_mem_cons.2 ⟨tyOk_174, ?_⟩
  refine List.forall_mem_cons.2 ⟨tyOk_175, ?_⟩
  refine List.forall_mem_cons.2 ⟨tyOk_176, ?_⟩
  refine List.forall_mem_cons.2 ⟨tyOk_177, ?_⟩
  refine List.forall_mem_cons.2 ⟨tyOk_178, ?_⟩
  refine List.forall_mem_cons.2 ⟨tyOk_179, ?_⟩
  refine List.forall_mem_cons.2 ⟨tyOk_180, ?_⟩
  refine List.forall_mem_cons.2 ⟨tyOk_181, ?_⟩
  refine List.forall_mem_cons.2 ⟨tyOk_182, ?_⟩
  refine List.forall_mem_cons.2 ⟨tyOk_183, ?_⟩
  refine List.forall_mem_cons.2 ⟨tyOk_184, ?_⟩
  refine List.forall_mem_cons.2 ⟨tyOk_185, ?_⟩
  refine List.forall_mem_cons.2 ⟨tyOk_186, ?_⟩
  refine List.forall_mem_cons.2 ⟨tyOk_187, ?_⟩
  refine List.forall_mem_cons.2 ⟨tyOk_188, ?_⟩
  refine List.forall_mem_cons.2 ⟨tyOk_189, ?_⟩
  refine List.forall_mem_cons.2 ⟨tyOk_190, ?_⟩
  refine List.forall_mem_cons.2 ⟨tyOk_191, ?_⟩
  refine List.forall_mem_cons.2 ⟨tyOk_192, ?_⟩
  refine List.forall_mem_cons.2 ⟨tyOk_193, ?_⟩
  refine List.forall_mem_cons.2 ⟨tyOk_194, ?_⟩
  refine List.forall_mem_cons.2 ⟨tyOk_195, ?_⟩
  refine List.forall_mem_cons.2 ⟨tyOk_196, ?_⟩
  refine List.forall_mem_cons.2 ⟨tyOk_197, ?_⟩
  refine List.forall_mem_cons.2 ⟨tyOk_198, ?_⟩
  refine List.forall_mem_cons.2 ⟨tyOk_201, ?_⟩
  refine List.forall_mem_cons.2 ⟨tyOk_204, ?_⟩
  refine List.forall_mem_cons.2 ⟨tyOk_206, ?_⟩
  refine List.forall_mem_cons.2 ⟨tyOk_207, ?_⟩
  refine List.forall_mem_cons.2 ⟨tyOk_208, ?_⟩
  refine List.forall_mem_cons.2 ⟨tyOk_209, ?_⟩
  refine List.forall_mem_cons.2 ⟨tyOk_210, ?_⟩
  refine List.forall_mem_cons.2 ⟨tyOk_211, ?_⟩
  refine List.forall_mem_cons.2 ⟨tyOk_212, ?_⟩
  refine List.forall_mem_cons.2 ⟨tyOk_213, ?_⟩
  refine List.forall_mem_cons.2 ⟨tyOk_214, ?_⟩
  refine List.forall_mem_cons.2 ⟨tyOk_215, ?_⟩
  refine List.forall_mem_cons.2 ⟨tyOk_216, ?_⟩
  refine List.forall_mem_cons.2 ⟨tyOk_217, ?_⟩
  refine List.forall_mem_cons.2 ⟨tyOk_218, ?_⟩
  refine List.forall_mem_cons.2 ⟨tyOk_219, ?_⟩
  refine List.forall_mem_cons.2 ⟨tyOk_220, ?_⟩
  refine List.forall_mem_cons.2 ⟨tyOk_222, ?_⟩
  refine List.forall_mem_cons.2 ⟨tyOk_223, ?_⟩
  refine List.forall_mem_cons.2 ⟨tyOk_224, ?_⟩
  refine List.forall_mem_cons.2 ⟨tyOk_225, ?_⟩
  refine List.forall_mem_cons.2 ⟨tyOk_226, ?_⟩
  refine List.forall_mem_cons.2 ⟨tyOk_227, ?_⟩
  refine List.forall_mem_cons.2 ⟨tyOk_228, ?_⟩
  refine List.forall_mem_cons.2 ⟨tyOk_229, ?_⟩
  refine List.forall_mem_cons.2 ⟨tyOk_230, ?_⟩
  refine List.forall_mem_cons.2 ⟨tyOk_231, ?_⟩
  refine List.forall_mem_cons.2 ⟨tyOk_232, ?_⟩
  refine List.forall_mem_cons.2 ⟨tyOk_233, ?_⟩
  refine List.forall_mem_cons.2 ⟨tyOk_234, ?_⟩
  refine List.forall_mem_cons.2 ⟨tyOk_235, ?_⟩
  refine List.forall_mem_cons.2 ⟨tyOk_236, ?_⟩
  refine List.forall_mem_cons.2 ⟨tyOk_237, ?_⟩
  refine List.forall_mem_cons.2 ⟨tyOk_238, ?_⟩
  refine List.forall_mem_cons.2 ⟨tyOk_239, ?_⟩
  refine List.forall_mem_cons.2 ⟨tyOk_240, ?_⟩
  refine List.forall_mem_cons.2 ⟨tyOk_241, ?_⟩
  refine List.forall_mem_cons.2 ⟨tyOk_242, ?_⟩
  refine List.forall_mem_cons.2 ⟨tyOk_246, ?_⟩
  refine List.forall_mem_cons.2 ⟨tyOk_247, ?_⟩
  refine List.forall_mem_cons.2 ⟨tyOk_248, ?_⟩
  refine List.forall_mem_cons.2 ⟨tyOk_249, ?_⟩
  refine List.forall_mem_cons.2 ⟨tyOk_250, ?_⟩
  refine List.forall_mem_cons.2 ⟨tyOk_251, ?_⟩
  refine List.forall_mem_cons.2 ⟨tyOk_252, ?_⟩
  refine List.forall_mem_cons.2 ⟨tyOk_253, ?_⟩
  exact fun p h => (by cases h)

theorem tys_ok : TysOk Tryz.prog tys := fun t ht => tysL_ok _ (tysAt_mem tysL t ht)

set_option maxRecDepth 100000 in
theorem tysL_dig : ∀ p ∈ tysL, p.2 = .dig → Tryz.prog.eqGuardType Tryz.prog.depth p.1 = false := by
  unfold tysL
  refine List.forall_mem_cons.2 ⟨fun h => (by cases h), ?_⟩
  refine List.forall_mem_cons.2 ⟨fun h => (by cases h), ?_⟩
  refine List.forall_mem_cons.2 ⟨fun h => (by cases h), ?_⟩
  refine List.forall_mem_cons.2 ⟨fun h => (by cases h), ?_⟩
  refine List.forall_mem_cons.2 ⟨fun h => (by cases h), ?_⟩
  refine List.forall_mem_cons.2 ⟨fun h => (by cases h), ?_⟩
  refine List.forall_mem_cons.2 ⟨fun h => (by cases h), ?_⟩
  refine List.forall_mem_cons.2 ⟨fun h => (by cases h), ?_⟩
  refine List.forall_mem_cons.2 ⟨fun h => (by cases h), ?_⟩
  refine List.forall_mem_cons.2 ⟨fun h => (by cases h), ?_⟩
  refine List.forall_mem_cons.2 ⟨fun h => (by cases h), ?_⟩
  refine List.forall_mem_cons.2 ⟨fun h => (by cases h), ?_⟩
  refine List.forall_mem_cons.2 ⟨fun h => (by cases h), ?_⟩
  refine List.forall_mem_cons.2 ⟨fun h => (by cases h), ?_⟩
  refine List.forall_mem_cons.2 ⟨fun h => (by cases h), ?_⟩
  refine List.forall_mem_cons.2 ⟨fun h => (by cases h), ?_⟩
  refine List.forall_mem_cons.2 ⟨fun h => (by cases h), ?_⟩
  refine List.forall_mem_cons.2 ⟨fun h => (by cases h), ?_⟩
  refine List.forall_mem_cons.2 ⟨fun h => (by cases h), ?_⟩
  refine List.forall_mem_cons.2 ⟨fun h => (by cases h), ?_⟩
  refine List.forall_mem_cons.2 ⟨fun h => (by cases h), ?_⟩
  refine List.forall_mem_cons.2 ⟨fun h => (by cases h), ?_⟩
  refine List.forall_mem_cons.2 ⟨fun h => (by cases h), ?_⟩
  refine List.forall_mem_cons.2 ⟨fun h => (by cases h), ?_⟩
  refine List.forall_mem_cons.2 ⟨fun h => (by cases h), ?_⟩
  refine List.forall_mem_cons.2 ⟨fun h => (by cases h), ?_⟩
  refine List.forall_mem_cons.2 ⟨fun h => (by cases h), ?_⟩
  refine List.forall_mem_cons.2 ⟨fun h => (by cases h), ?_⟩
  refine List.forall_mem_cons.2 ⟨fun h => (by cases h), ?_⟩
  refine List.forall_mem_cons.2 ⟨fun h => (by cases h), ?_⟩
  refine List.forall_mem_cons.2 ⟨fun h => (by cases h), ?_⟩
  refine List.forall_mem_cons.2 ⟨fun h => (by cases h), ?_⟩
  refine List.forall_mem_cons.2 ⟨fun h => (by cases h), ?_⟩
  refine List.forall_mem_cons.2 ⟨fun _ => by kernel_rfl, ?_⟩
  refine List.forall_mem_cons.2 ⟨fun _ => by kernel_rfl, ?_⟩
  refine List.forall_mem_cons.2 ⟨fun h => (by cases h), ?_⟩
  refine List.forall_mem_cons.2 ⟨fun h => (by cases h), ?_⟩
  refine List.forall_mem_cons.2 ⟨fun h => (by cases h), ?_⟩
  refine List.forall_mem_cons.2 ⟨fun h => (by cases h), ?_⟩
  refine List.forall_mem_cons.2 ⟨fun h => (by cases h), ?_⟩
  refine List.forall_mem_cons.2 ⟨fun h => (by cases h), ?_⟩
  refine List.forall_mem_cons.2 ⟨fun h => (by cases h), ?_⟩
  refine List.forall_mem_cons.2 ⟨fun h => (by cases h), ?_⟩
  refine List.forall_mem_cons.2 ⟨fun h => (by cases h), ?_⟩
  refine List.forall_mem_cons.2 ⟨fun h => (by cases h), ?_⟩
  refine List.forall_mem_cons.2 ⟨fun h => (by cases h), ?_⟩
  refine List.forall_mem_cons.2 ⟨fun h => (by cases h), ?_⟩
  refine List.forall_mem_cons.2 ⟨fun h => (by cases h), ?_⟩
  refine List.forall_mem_cons.2 ⟨fun h => (by cases h), ?_⟩
  refine List.forall_mem_cons.2 ⟨fun h => (by cases h), ?_⟩
  refine List.forall_mem_cons.2 ⟨fun h => (by cases h), ?_⟩
  refine List.forall_mem_cons.2 ⟨fun h => (by cases h), ?_⟩
  refine List.forall_mem_cons.2 ⟨fun h => (by cases h), ?_⟩
  refine List.forall_mem_cons.2 ⟨fun h => (by cases h), ?_⟩
  refine List.forall_mem_cons.2 ⟨fun h => (by cases h), ?_⟩
  refine List.forall_mem_cons.2 ⟨fun h => (by cases h), ?_⟩
  refine List.forall_mem_cons.2 ⟨fun h => (by cases h), ?_⟩
  refine List.forall_mem_cons.2 ⟨fun h => (by cases h), ?_⟩
  refine List.forall_mem_cons.2 ⟨fun h => (by cases h), ?_⟩
  refine List.forall_mem_cons.2 ⟨fun h => (by cases h), ?_⟩
  refine List.forall_mem_cons.2 ⟨fun h => (by cases h), ?_⟩
  refine List.forall_mem_cons.2 ⟨fun h => (by cases h), ?_⟩
  refine List.forall_mem_cons.2 ⟨fun h => (by cases h), ?_⟩
  refine List.forall_mem_cons.2 ⟨fun h => (by cases h), ?_⟩
  refine List.forall_mem_cons.2 ⟨fun h => (by cases h), ?_⟩
  refine List.forall_mem_cons.2 ⟨fun h => (by cases h), ?_⟩
  refine List.forall_mem_cons.2 ⟨fun h => (by cases h), ?_⟩
  refine List.forall_mem_cons.2 ⟨fun h => (by cases h), ?_⟩
  refine List.forall_mem_cons.2 ⟨fun h => (by cases h), ?_⟩
  refine List.forall_mem_cons.2 ⟨fun h => (by cases h), ?_⟩
  refine List.forall_mem_cons.2 ⟨fun h => (by cases h), ?_⟩
  refine List.forall_mem_cons.2 ⟨fun h => (by cases h), ?_⟩
  refine List.forall_mem_cons.2 ⟨fun h => (by cases h), ?_⟩
  refine List.forall_mem_cons.2 ⟨fun h => (by cases h), ?_⟩
  refine List.forall_mem_cons.2 ⟨fun h => (by cases h), ?_⟩
  refine List.forall_mem_cons.2 ⟨fun h => (by cases h), ?_⟩
  refine List.forall_mem_cons.2 ⟨fun h => (by cases h), ?_⟩
  refine List.forall_mem_cons.2 ⟨fun h => (by cases h), ?_⟩
  refine List.forall_mem_cons.2 ⟨fun h => (by cases h), ?_⟩
  refine List.forall_mem_cons.2 ⟨fun h => (by cases h), ?_⟩
  refine List.forall_mem_cons.2 ⟨fun h => (by cases h), ?_⟩
  refine List.forall_mem_cons.2 ⟨fun h => (by cases h), ?_⟩
  refine List.forall_mem_cons.2 ⟨fun h => (by cases h), ?_⟩
  refine List.forall_mem_cons.2 ⟨fun h => (by cases h), ?_⟩
  refine List.forall_mem_cons.2 ⟨fun h => (by cases h), ?_⟩
  refine List.forall_mem_cons.2 ⟨fun h => (by cases h), ?_⟩
  refine List.forall_mem_cons.2 ⟨fun h => (by cases h), ?_⟩
  refine List.forall_mem_cons.2 ⟨fun h => (by cases h), ?_⟩
  refine List.forall_mem_cons.2 ⟨fun h => (by cases h), ?_⟩
  refine List.forall_mem_cons.2 ⟨fun h => (by cases h), ?_⟩
  refine List.forall_mem_cons.2 ⟨fun h => (by cases h), ?_⟩
  refine List.forall_mem_cons.2 ⟨fun h => (by cases h), ?_⟩
  refine List.forall_mem_cons.2 ⟨fun h => (by cases h), ?_⟩
  refine List.forall_mem_cons.2 ⟨fun h => (by cases h), ?_⟩
  refine List.forall_mem_cons.2 ⟨fun h => (by cases h), ?_⟩
  refine List.forall_mem_cons.2 ⟨fun h => (by cases h), ?_⟩
  refine List.forall_mem_cons.2 ⟨fun h => (by cases h), ?_⟩
  refine List.forall_mem_cons.2 ⟨fun h => (by cases h), ?_⟩
  refine List.forall_mem_cons.2 ⟨fun h => (by cases h), ?_⟩
  refine List.forall_mem_cons.2 ⟨fun h => (by cases h), ?_⟩
  refine List.forall_mem_cons.2 ⟨fun h => (by cases h), ?_⟩
  refine List.forall_mem_cons.2 ⟨fun h => (by cases h), ?_⟩
  refine List.forall_mem_cons.2 ⟨fun h => (by cases h), ?_⟩
  refine List.forall_mem_cons.2 ⟨fun h => (by cases h), ?_⟩
  refine List.forall_mem_cons.2 ⟨fun h => (by cases h), ?_⟩
  refine List.forall_mem_cons.2 ⟨fun h => (by cases h), ?_⟩
  refine List.forall_mem_cons.2 ⟨fun h => (by cases h), ?_⟩
  refine List.forall_mem_cons.2 ⟨fun h => (by cases h), ?_⟩
  refine List.forall_mem_cons.2 ⟨fun h => (by cases h), ?_⟩
  refine List.forall_mem_cons.2 ⟨fun h => (by cases h), ?_⟩
  refine List.forall_mem_cons.2 ⟨fun h => (by cases h), ?_⟩
  refine List.forall_mem_cons.2 ⟨fun h => (by cases h), ?_⟩
  refine List.forall_mem_cons.2 ⟨fun h => (by cases h), ?_⟩
  refine List.forall_mem_cons.2 ⟨fun h => (by cases h), ?_⟩
  refine List.forall_mem_cons.2 ⟨fun h => (by cases h), ?_⟩
  refine List.forall_mem_cons.2 ⟨fun h => (by cases h), ?_⟩
  refine List.forall_mem_cons.2 ⟨fun h => (by cases h), ?_⟩
  refine List.forall_mem_cons.2 ⟨fun h => (by cases h), ?_⟩
  refine List.forall_mem_cons.2 ⟨fun h => (by cases h), ?_⟩
  refine List.forall_mem_cons.2 ⟨fun h => (by cases h), ?_⟩
  refine List.forall_mem_cons.2 ⟨fun h => (by cases h), ?_⟩
  refine List.forall_mem_cons.2 ⟨fun h => (by cases h), ?_⟩
  refine List.forall_mem_cons.2 ⟨fun h => (by cases h), ?_⟩
  refine List.forall_mem_cons.2 ⟨fun h => (by cases h), ?_⟩
  refine List.forall_mem_cons.2 ⟨fun h => (by cases h), ?_⟩
  refine List.forall_mem_cons.2 ⟨fun h => (by cases h), ?_⟩
  refine List.forall_mem_cons.2 ⟨fun h => (by cases h), ?_⟩
  refine List.forall_mem_cons.2 ⟨fun h => (by cases h), ?_⟩
  refine List.forall_mem_cons.2 ⟨fun h => (by cases h), ?_⟩
  refine List.forall_mem_cons.2 ⟨fun h => (by cases h), ?_⟩
  refine List.forall_mem_cons.2 ⟨fun h => (by cases h), ?_⟩
  refine List.forall_mem_cons.2 ⟨fun h => (by cases h), ?_⟩
  refine List.forall_mem_cons.2 ⟨fun h => (by cases h), ?_⟩
  refine List.forall_mem_cons.2 ⟨fun h => (by cases h), ?_⟩
  refine List.forall_mem_cons.2 ⟨fun h => (by cases h), ?_⟩
  refine List.forall_mem_cons.2 ⟨fun h => (by cases h), ?_⟩
  refine List.forall_mem_cons.2 ⟨fun h => (by cases h), ?_⟩
  refine List.forall_mem_cons.2 ⟨fun h => (by cases h), ?_⟩
  refine List.forall_mem_cons.2 ⟨fun h => (by cases h), ?_⟩
  refine List.forall_mem_cons.2 ⟨fun h => (by cases h), ?_⟩
  refine List.forall_mem_cons.2 ⟨fun h => (by cases h), ?_⟩
  refine List.forall_mem_cons.2 ⟨fun h => (by cases h), ?_⟩
  refine List.forall_mem_cons.2 ⟨fun h => (by cases h), ?_⟩
  refine List.forall_mem_cons.2 ⟨fun h => (by cases h), ?_⟩
  refine List.forall_mem_cons.2 ⟨fun h => (by cases h), ?_⟩
  refine List.forall_mem_cons.2 ⟨fun h => (by cases h), ?_⟩
  refine List.forall_mem_cons.2 ⟨fun h => (by cases h), ?_⟩
  refine List.forall_mem_cons.2 ⟨fun h => (by cases h), ?_⟩
  refine List.forall_mem_cons.2 ⟨fun h => (by cases h), ?_⟩
  refine List.forall_mem_cons.2 ⟨fun h => (by cases h), ?_⟩
  refine List.forall_mem_cons.2 ⟨fun h => (by cases h), ?_⟩
  refine List.forall_mem_cons.2 ⟨fun h => (by cases h), ?_⟩
  refine List.forall_mem_cons.2 ⟨fun h => (by cases h), ?_⟩
  refine List.forall_mem_cons.2 ⟨fun h => (by cases h), ?_⟩
  refine List.forall_mem_cons.2 ⟨fun h => (by cases h), ?_⟩
  refine List.forall_mem_cons.2 ⟨fun h => (by cases h), ?_⟩
  refine List.forall_mem_cons.2 ⟨fun h => (by cases h), ?_⟩
  refine List.forall_mem_cons.2 ⟨fun h => (by cases h), ?_⟩
  refine List.forall_mem_cons.2 ⟨fun h => (by cases h), ?_⟩
  refine List.forall_mem_cons.2 ⟨fun h => (by cases h), ?_⟩
  refine List.forall_mem_cons.2 ⟨fun h => (by cases h), ?_⟩
  refine List.forall_mem_cons.2 ⟨fun h => (by cases h), ?_⟩
  refine List.forall_mem_cons.2 ⟨fun h => (by cases h), ?_⟩
  refine List.forall_mem_cons.2 ⟨fun h => (by cases h), ?_⟩
  refine List.forall_mem_cons.2 ⟨fun h => (by cases h), ?_⟩
  refine List.forall_mem_cons.2 ⟨fun h => (by cases h), ?_⟩
  refine List.forall_mem_cons.2 ⟨fun h => (by cases h), ?_⟩
  refine List.forall_mem_cons.2 ⟨fun h => (by cases h), ?_⟩
  refine List.forall_mem_cons.2 ⟨fun h => (by cases h), ?_⟩
  refine List.forall_mem_cons.2 ⟨fun h => (by cases h), ?_⟩
  refine List.forall_mem_cons.2 ⟨fun h => (by cases h), ?_⟩
  refine List.forall_mem_cons.2 ⟨fun h => (by cases h), ?_⟩
  refine List.forall_mem_cons.2 ⟨fun h => (by cases h), ?_⟩
  refine List.forall_mem_cons.2 ⟨fun h => (by cases h), ?_⟩
  refine List.forall_mem_cons.2 ⟨fun h => (by cases h), ?_⟩
  refine List.forall_mem_cons.2 ⟨fun h => (by cases h), ?_⟩
  refine List.forall_mem_cons.2 ⟨fun h => (by cases h), ?_⟩
  refine List.forall_mem_cons.2 ⟨fun h => (by cases h), ?_⟩
  refine List.forall_mem_cons.2 ⟨fun h => (by cases h), ?_⟩
  refine List.forall_mem_cons.2 ⟨fun h => (by cases h), ?_⟩
  refine List.forall_mem_cons.2 ⟨fun h => (by cases h), ?_⟩
  refine List.forall_mem_cons.2 ⟨fun h => (by cases h), ?_⟩
  refine List.forall_mem_cons.2 ⟨fun h => (by cases h), ?_⟩
  refine List.forall_mem_cons.2 ⟨fun h => (by cases h), ?_⟩
  refine List.forall_mem_cons.2 ⟨fun h => (by cases h), ?_⟩
  refine List.forall_mem_cons.2 ⟨fun h => (by cases h), ?_⟩
  refine List.forall_mem_cons.2 ⟨fun h => (by cases h), ?_⟩
  refine List.forall_mem_cons.2 ⟨fun h => (by cases h), ?_⟩
  refine List.forall_mem_cons.2 ⟨fun h => (by cases h), ?_⟩
  refine List.forall_mem_cons.2 ⟨fun h => (by cases h), ?_⟩
  refine List.forall_mem_cons.2 ⟨fun h => (by cases h), ?_⟩
  refine List.forall_mem_cons.2 ⟨fun h => (by cases h), ?_⟩
  refine List.forall_mem_cons.2 ⟨fun h => (by cases h), ?_⟩
  refine List.forall_mem_cons.2 ⟨fun h => (by cases h), ?_⟩
  refine List.forall_mem_cons.2 ⟨fun h => (by cases h), ?_⟩
  refine List.forall_mem_cons.2 ⟨fun h => (by cases h), ?_⟩
  refine List.forall_mem_cons.2 ⟨fun h => (by cases h), ?_⟩
  refine List.forall_mem_cons.2 ⟨fun h => (by cases h), ?_⟩
  refine List.forall_mem_cons.2 ⟨fun h => (by cases h), ?_⟩
  refine List.forall_mem_cons.2 ⟨fun h => (by cases h), ?_⟩
  refine List.forall_mem_cons.2 ⟨fun h => (by cases h), ?_⟩
  refine List.forall_mem_cons.2 ⟨fun h => (by cases h), ?_⟩
  refine List.forall_mem_cons.2 ⟨fun h => (by cases h), ?_⟩
  refine List.forall_mem_cons.2 ⟨fun h => (by cases h), ?_⟩
  refine List.forall_mem_cons.2 ⟨fun h => (by cases h), ?_⟩
  refine List.forall_mem_cons.2 ⟨fun h => (by cases h), ?_⟩
  refine List.forall_mem_cons.2 ⟨fun h => (by cases h), ?_⟩
  refine List.forall_mem_cons.2 ⟨fun h => (by cases h), ?_⟩
  refine List.forall_mem_cons.2 ⟨fun h => (by cases h), ?_⟩
  refine List.forall_mem_cons.2 ⟨fun h => (by cases h), ?_⟩
  refine List.forall_mem_cons.2 ⟨fun h => (by cases h), ?_⟩
  refine List.forall_mem_cons.2 ⟨fun h => (by cases h), ?_⟩
  refine List.forall_mem_cons.2 ⟨fun h => (by cases h), ?_⟩
  refine List.forall_mem_cons.2 ⟨fun h => (by cases h), ?_⟩
  refine List.forall_mem_cons.2 ⟨fun h => (by cases h), ?_⟩
  refine List.forall_mem_cons.2 ⟨fun h => (by cases h), ?_⟩
  refine List.forall_mem_cons.2 ⟨fun h => (by cases h), ?_⟩
  refine List.forall_mem_cons.2 ⟨fun h => (by cases h), ?_⟩
  refine List.forall_mem_cons.2 ⟨fun h => (by cases h), ?_⟩
  refine List.forall_mem_cons.2 ⟨fun h => (by cases h), ?_⟩
  refine List.forall_mem_cons.2 ⟨fun h => (by cases h), ?_⟩
  refine List.forall_mem_cons.2 ⟨fun h => (by cases h), ?_⟩
  refine List.forall_mem_cons.2 ⟨fun h => (by cases h), ?_⟩
  refine List.forall_mem_cons.2 ⟨fun h => (by cases h), ?_⟩
  exact fun p h => (by cases h)

theorem cmp_ok : ∀ t ks, cmpTys t = some ks → CmpOk Tryz.prog t ks := by
  intro t ks h
  unfold cmpTys at h
  split at h <;> first | (cases h; done) | skip
  · simp only [Option.some.injEq] at h; subst h; exact ⟨by kernel_rfl, by kernel_rfl, by kernel_rfl, by kernel_rfl⟩
  · simp only [Option.some.injEq] at h; subst h; exact ⟨by kernel_rfl, by kernel_rfl, by kernel_rfl, by kernel_rfl⟩
  · simp only [Option.some.injEq] at h; subst h; exact ⟨by kernel_rfl, by kernel_rfl, by kernel_rfl, by kernel_rfl⟩
  · simp only [Option.some.injEq] at h; subst h; exact ⟨by kernel_rfl, by kernel_rfl, by kernel_rfl, by kernel_rfl⟩
  · simp only [Option.some.injEq] at h; subst h; exact ⟨by kernel_rfl, by kernel_rfl, by kernel_rfl, by kernel_rfl⟩
  · simp only [Option.some.injEq] at h; subst h; exact ⟨by kernel_rfl, by kernel_rfl, by kernel_rfl, by kernel_rfl⟩
  · simp only [Option.some.injEq] at h; subst h; exact ⟨by kernel_rfl, by kernel_rfl, by kernel_rfl, by kernel_rfl⟩
  · simp only [Option.some.injEq] at h; subst h; exact ⟨by kernel_rfl, by kernel_rfl, by kernel_rfl, by kernel_rfl⟩
  · simp only [Option.some.injEq] at h; subst h; exact ⟨by kernel_rfl, by kernel_rfl, by kernel_rfl, by kernel_rfl⟩

theorem prg : Prg Tryz.prog tys := ⟨tys_ok, fun t ht => tysL_dig (t, tys t) (tysAt_mem tysL t (fun h => nomatch ht.symm.trans h)) ht, by kernel_rfl, cmp_ok⟩

end Go.Proofs.YtcaggadjkccbiaaGreat
