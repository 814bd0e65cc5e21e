/- The table of the program's types; contracts of its first functions, and of the drawings. -/
import Derived.Test.YtnbpbehlemaeoaaB3
import Derived.Test.YtnbpbehlemaeoaaProg
import Derived.KernelRfl
namespace Go.Proofs.Ytnbpbehlemaeoaa
open Go.IL

def tabL : List (Nat × TI) := [
  (1, ⟨1, 8, false, [.raw .nilFunc], .func⟩),
  (2, ⟨1, 8, false, [.int .i64 0], .int .i64⟩),
  (3, ⟨1, 8, false, [.int .i64 0], .int .i64⟩),
  (4, ⟨1, 1, false, [.bool false], .bool⟩),
  (5, ⟨1, 1, false, [.int .u8 0], .int .u8⟩),
  (6, ⟨1, 1, false, [.int .u8 0], .int .u8⟩),
  (7, ⟨4, 24, true, [.int .i64 0, .int .i64 0, .bool false, .int .u8 0], .struct [(0, 1, false), (1, 1, false), (2, 1, false), (3, 1, false)]⟩),
  (8, ⟨4, 24, true, [.int .i64 0, .int .i64 0, .bool false, .int .u8 0], .struct [(0, 1, false), (1, 1, false), (2, 1, false), (3, 1, false)]⟩),
  (9, ⟨1, 16, false, [.str ⟨#[]⟩], .str⟩),
  (10, ⟨1, 16, false, [.str ⟨#[]⟩], .str⟩),
  (11, ⟨1, 16, false, [.str ⟨#[]⟩], .str⟩),
  (12, ⟨1, 8, false, [.int .u64 0], .int .u64⟩),
  (13, ⟨2, 24, true, [.str ⟨#[]⟩, .int .u64 0], .struct [(0, 1, false), (1, 1, false)]⟩),
  (14, ⟨2, 24, true, [.str ⟨#[]⟩, .int .u64 0], .struct [(0, 1, false), (1, 1, false)]⟩),
  (15, ⟨1, 8, false, [.nilp], .ptr 149⟩),
  (16, ⟨1, 8, false, [.nilp], .ptr 152⟩),
  (17, ⟨1, 8, false, [.nilp], .ptr 160⟩),
  (18, ⟨1, 8, true, [.nilp], .struct [(0, 1, false)]⟩),
  (19, ⟨1, 8, true, [.nilp], .struct [(0, 1, false)]⟩),
  (21, ⟨1, 4, false, [.int .i32 0], .int .i32⟩),
  (22, ⟨1, 8, false, [.raw .nilFunc], .func⟩),
  (23, ⟨1, 24, false, [.nils], .slice 3⟩),
  (25, ⟨1, 8, false, [.raw .nilFunc], .func⟩),
  (26, ⟨1, 8, false, [.int .i64 0], .int .i64⟩),
  (27, ⟨1, 8, false, [.raw .nilFunc], .func⟩),
  (28, ⟨1, 8, false, [.raw .nilFunc], .func⟩),
  (29, ⟨1, 8, false, [.raw .nilFunc], .func⟩),
  (30, ⟨1, 8, false, [.raw .nilFunc], .func⟩),
  (31, ⟨1, 24, false, [.nils], .slice 5⟩),
  (32, ⟨3, 40, true, [.int .i64 0, .int .i64 0, .nils], .struct [(0, 1, false), (1, 1, false), (2, 1, false)]⟩),
  (33, ⟨3, 40, true, [.int .i64 0, .int .i64 0, .nils], .struct [(0, 1, false), (1, 1, false), (2, 1, false)]⟩),
  (34, ⟨1, 8, false, [.int .i64 0], .int .i64⟩),
  (36, ⟨1, 8, false, [.raw .nilFunc], .func⟩),
  (37, ⟨1, 8, false, [.raw .nilFunc], .func⟩),
  (38, ⟨1, 8, false, [.raw .nilFunc], .func⟩),
  (39, ⟨1, 8, false, [.raw .nilFunc], .func⟩),
  (40, ⟨1, 8, false, [.raw .nilFunc], .func⟩),
  (41, ⟨1, 8, false, [.raw .nilFunc], .func⟩),
  (42, ⟨1, 8, false, [.raw .nilFunc], .func⟩),
  (43, ⟨2, 16, true, [.int .i64 0, .int .i64 0], .struct [(0, 1, false), (1, 1, false)]⟩),
  (44, ⟨2, 16, true, [.int .i64 0, .int .i64 0], .struct [(0, 1, false), (1, 1, false)]⟩),
  (45, ⟨1, 8, false, [.raw .nilFunc], .func⟩),
  (46, ⟨1, 8, false, [.raw .nilFunc], .func⟩),
  (47, ⟨1, 24, false, [.nils], .slice 70⟩),
  (48, ⟨1, 8, false, [.raw .nilFunc], .func⟩),
  (49, ⟨1, 8, false, [.raw .nilFunc], .func⟩),
  (50, ⟨1, 8, false, [.raw .nilFunc], .func⟩),
  (51, ⟨1, 8, false, [.raw .nilFunc], .func⟩),
  (52, ⟨1, 8, false, [.raw .nilFunc], .func⟩),
  (53, ⟨1, 8, false, [.raw (.map none)], .map 3 4⟩),
  (54, ⟨1, 8, false, [.raw .nilFunc], .func⟩),
  (55, ⟨4, 32, true, [.int .i64 0, .int .i64 0, .int .i64 0, .int .i64 0], .struct [(0, 1, false), (1, 1, false), (2, 1, false), (3, 1, false)]⟩),
  (56, ⟨4, 32, true, [.int .i64 0, .int .i64 0, .int .i64 0, .int .i64 0], .struct [(0, 1, false), (1, 1, false), (2, 1, false), (3, 1, false)]⟩),
  (57, ⟨1, 8, false, [.raw .nilFunc], .func⟩),
  (58, ⟨1, 8, false, [.raw .nilFunc], .func⟩),
  (59, ⟨1, 8, false, [.raw .nilFunc], .func⟩),
  (60, ⟨1, 8, false, [.raw .nilFunc], .func⟩),
  (61, ⟨1, 24, false, [.nils], .slice 33⟩),
  (62, ⟨1, 8, false, [.raw .nilFunc], .func⟩),
  (63, ⟨1, 24, false, [.nils], .slice 68⟩),
  (64, ⟨1, 8, false, [.raw .nilFunc], .func⟩),
  (65, ⟨1, 8, false, [.raw .nilFunc], .func⟩),
  (66, ⟨1, 8, false, [.raw .nilFunc], .func⟩),
  (67, ⟨2, 16, true, [.int .i64 0, .int .i64 0], .struct [(0, 1, false), (1, 1, false)]⟩),
  (68, ⟨2, 16, true, [.int .i64 0, .int .i64 0], .struct [(0, 1, false), (1, 1, false)]⟩),
  (69, ⟨2, 16, true, [.int .i64 0, .int .i64 0], .struct [(0, 1, false), (1, 1, false)]⟩),
  (70, ⟨2, 16, true, [.int .i64 0, .int .i64 0], .struct [(0, 1, false), (1, 1, false)]⟩),
  (71, ⟨1, 8, false, [.raw .nilFunc], .func⟩),
  (72, ⟨1, 8, false, [.raw (.map none)], .map 3 74⟩),
  (73, ⟨1, 8, false, [.raw .nilFunc], .func⟩),
  (74, ⟨1, 24, false, [.nils], .slice 9⟩),
  (75, ⟨1, 8, false, [.raw .nilFunc], .func⟩),
  (76, ⟨1, 8, false, [.raw .nilFunc], .func⟩),
  (77, ⟨1, 8, false, [.raw .nilFunc], .func⟩),
  (78, ⟨1, 8, false, [.raw .nilFunc], .func⟩),
  (80, ⟨1, 8, false, [.raw .nilFunc], .func⟩),
  (81, ⟨1, 8, false, [.raw .nilFunc], .func⟩),
  (82, ⟨1, 8, false, [.raw .nilFunc], .func⟩),
  (83, ⟨1, 8, false, [.raw .nilFunc], .func⟩),
  (84, ⟨1, 8, false, [.raw .nilFunc], .func⟩),
  (85, ⟨1, 8, false, [.raw .nilFunc], .func⟩),
  (86, ⟨1, 8, false, [.raw .nilFunc], .func⟩),
  (87, ⟨1, 8, false, [.raw .nilFunc], .func⟩),
  (88, ⟨1, 8, false, [.raw .nilFunc], .func⟩),
  (89, ⟨3, 40, true, [.int .i64 0, .int .i64 0, .nils], .struct [(0, 3, true)]⟩),
  (90, ⟨3, 40, true, [.int .i64 0, .int .i64 0, .nils], .struct [(0, 3, true)]⟩),
  (91, ⟨1, 8, false, [.raw .nilFunc], .func⟩),
  (92, ⟨1, 8, false, [.raw .nilFunc], .func⟩),
  (93, ⟨1, 8, false, [.raw .nilFunc], .func⟩),
  (94, ⟨1, 8, false, [.raw .nilFunc], .func⟩),
  (95, ⟨1, 8, false, [.raw .nilFunc], .func⟩),
  (96, ⟨1, 8, false, [.raw .nilFunc], .func⟩),
  (97, ⟨1, 8, false, [.nilp], .ptr 99⟩),
  (98, ⟨2, 32, true, [.nilp, .nils], .struct [(0, 1, false), (1, 1, false)]⟩),
  (99, ⟨2, 32, true, [.nilp, .nils], .struct [(0, 1, false), (1, 1, false)]⟩),
  (102, ⟨1, 8, false, [.raw .nilFunc], .func⟩),
  (103, ⟨2, 2, true, [.int .u8 0, .int .u8 0], .array 2 5⟩),
  (104, ⟨1, 8, false, [.raw .nilFunc], .func⟩),
  (105, ⟨1, 8, false, [.raw .nilFunc], .func⟩),
  (106, ⟨1, 8, false, [.raw .nilFunc], .func⟩),
  (107, ⟨1, 8, false, [.raw .nilFunc], .func⟩),
  (108, ⟨1, 8, false, [.raw .nilFunc], .func⟩),
  (109, ⟨1, 8, false, [.raw .nilFunc], .func⟩),
  (110, ⟨1, 8, false, [.raw .nilFunc], .func⟩),
  (111, ⟨1, 8, false, [.raw .nilFunc], .func⟩),
  (112, ⟨1, 8, false, [.raw .nilFunc], .func⟩),
  (113, ⟨1, 8, false, [.nilp], .ptr 5⟩),
  (114, ⟨3, 24, true, [.int .i64 0, .int .i64 0, .int .i64 0], .array 3 3⟩),
  (115, ⟨6, 48, true, [.int .i64 0, .int .i64 0, .int .i64 0, .int .i64 0, .int .i64 0, .int .i64 0], .struct [(0, 3, true), (3, 3, true)]⟩),
  (116, ⟨6, 48, true, [.int .i64 0, .int .i64 0, .int .i64 0, .int .i64 0, .int .i64 0, .int .i64 0], .struct [(0, 3, true), (3, 3, true)]⟩),
  (117, ⟨1, 8, false, [.raw .nilFunc], .func⟩),
  (118, ⟨1, 8, false, [.raw .nilFunc], .func⟩),
  (119, ⟨1, 8, false, [.raw .nilFunc], .func⟩),
  (120, ⟨1, 8, false, [.raw .nilFunc], .func⟩),
  (121, ⟨1, 8, false, [.int .u64 0], .int .u64⟩),
  (122, ⟨1, 8, false, [.raw .nilFunc], .func⟩),
  (123, ⟨1, 8, false, [.raw .nilFunc], .func⟩),
  (124, ⟨1, 8, false, [.int .u64 0], .int .u64⟩),
  (125, ⟨1, 8, false, [.raw .nilFunc], .func⟩),
  (127, ⟨1, 8, false, [.raw .nilFunc], .func⟩),
  (128, ⟨1, 8, false, [.raw .nilFunc], .func⟩),
  (129, ⟨1, 8, false, [.raw .nilFunc], .func⟩),
  (130, ⟨1, 8, false, [.int .i64 0], .int .i64⟩),
  (132, ⟨1, 8, false, [.raw .nilFunc], .func⟩),
  (133, ⟨1, 8, false, [.raw .nilFunc], .func⟩),
  (134, ⟨1, 8, false, [.raw .nilFunc], .func⟩),
  (136, ⟨1, 8, false, [.raw .nilFunc], .func⟩),
  (137, ⟨1, 8, false, [.raw .nilFunc], .func⟩),
  (138, ⟨1, 4, false, [.int .u32 0], .int .u32⟩),
  (139, ⟨1, 8, false, [.raw .nilFunc], .func⟩),
  (140, ⟨1, 8, false, [.int .u64 0], .int .u64⟩),
  (141, ⟨1, 8, false, [.raw .nilFunc], .func⟩),
  (142, ⟨1, 8, false, [.raw .nilFunc], .func⟩),
  (143, ⟨1, 8, false, [.raw .nilFunc], .func⟩),
  (144, ⟨1, 8, false, [.nilp], .ptr 3⟩),
  (145, ⟨1, 8, false, [.raw .nilFunc], .func⟩),
  (146, ⟨1, 8, false, [.nilp], .ptr 140⟩),
  (147, ⟨1, 8, false, [.raw .nilFunc], .func⟩),
  (148, ⟨4, 40, true, [.nilp, .nilp, .nilp, .str ⟨#[]⟩], .struct [(0, 1, false), (1, 1, false), (2, 1, false), (3, 1, false)]⟩),
  (149, ⟨4, 40, true, [.nilp, .nilp, .nilp, .str ⟨#[]⟩], .struct [(0, 1, false), (1, 1, false), (2, 1, false), (3, 1, false)]⟩),
  (153, ⟨1, 8, false, [.raw .nilFunc], .func⟩),
  (154, ⟨1, 1, false, [.int .u8 0], .int .u8⟩),
  (155, ⟨1, 1, false, [.int .u8 0], .int .u8⟩),
  (156, ⟨1, 8, false, [.raw .nilFunc], .func⟩),
  (157, ⟨1, 4, false, [.int .i32 0], .int .i32⟩),
  (158, ⟨1, 4, false, [.int .i32 0], .int .i32⟩),
  (159, ⟨11, 48, true, [.int .u64 0, .int .u64 0, .int .u32 0, .int .u8 0, .int .u8 0, .int .u8 0, .int .u8 0, .raw .nilFunc, .nilp, .int .i32 0, .int .i32 0], .struct [(0, 1, false), (1, 1, false), (2, 1, false), (3, 1, false), (4, 1, false), (5, 1, false), (6, 1, false), (7, 1, false), (8, 1, false), (9, 1, false), (10, 1, false)]⟩),
  (160, ⟨11, 48, true, [.int .u64 0, .int .u64 0, .int .u32 0, .int .u8 0, .int .u8 0, .int .u8 0, .int .u8 0, .raw .nilFunc, .nilp, .int .i32 0, .int .i32 0], .struct [(0, 1, false), (1, 1, false), (2, 1, false), (3, 1, false), (4, 1, false), (5, 1, false), (6, 1, false), (7, 1, false), (8, 1, false), (9, 1, false), (10, 1, false)]⟩)]
def tab : Tab := fun T => (tabL.lookup T).getD ⟨0, 0, false, [], .other⟩
theorem tab_1 : tab 1 = ⟨1, 8, false, [.raw .nilFunc], .func⟩ := rfl
theorem tab_2 : tab 2 = ⟨1, 8, false, [.int .i64 0], .int .i64⟩ := rfl
theorem tab_3 : tab 3 = ⟨1, 8, false, [.int .i64 0], .int .i64⟩ := rfl
theorem tab_4 : tab 4 = ⟨1, 1, false, [.bool false], .bool⟩ := rfl
theorem tab_5 : tab 5 = ⟨1, 1, false, [.int .u8 0], .int .u8⟩ := rfl
theorem tab_6 : tab 6 = ⟨1, 1, false, [.int .u8 0], .int .u8⟩ := rfl
theorem tab_7 : tab 7 = ⟨4, 24, true, [.int .i64 0, .int .i64 0, .bool false, .int .u8 0], .struct [(0, 1, false), (1, 1, false), (2, 1, false), (3, 1, false)]⟩ := rfl
theorem tab_8 : tab 8 = ⟨4, 24, true, [.int .i64 0, .int .i64 0, .bool false, .int .u8 0], .struct [(0, 1, false), (1, 1, false), (2, 1, false), (3, 1, false)]⟩ := rfl
theorem tab_9 : tab 9 = ⟨1, 16, false, [.str ⟨#[]⟩], .str⟩ := rfl
theorem tab_10 : tab 10 = ⟨1, 16, false, [.str ⟨#[]⟩], .str⟩ := rfl
theorem tab_11 : tab 11 = ⟨1, 16, false, [.str ⟨#[]⟩], .str⟩ := rfl
theorem tab_12 : tab 12 = ⟨1, 8, false, [.int .u64 0], .int .u64⟩ := rfl
theorem tab_13 : tab 13 = ⟨2, 24, true, [.str ⟨#[]⟩, .int .u64 0], .struct [(0, 1, false), (1, 1, false)]⟩ := rfl
theorem tab_14 : tab 14 = ⟨2, 24, true, [.str ⟨#[]⟩, .int .u64 0], .struct [(0, 1, false), (1, 1, false)]⟩ := rfl
theorem tab_15 : tab 15 = ⟨1, 8, false, [.nilp], .ptr 149⟩ := rfl
theorem tab_16 : tab 16 = ⟨1, 8, false, [.nilp], .ptr 152⟩ := rfl
theorem tab_17 : tab 17 = ⟨1, 8, false, [.nilp], .ptr 160⟩ := rfl
theorem tab_18 : tab 18 = ⟨1, 8, true, [.nilp], .struct [(0, 1, false)]⟩ := rfl
theorem tab_19 : tab 19 = ⟨1, 8, true, [.nilp], .struct [(0, 1, false)]⟩ := rfl
theorem tab_21 : tab 21 = ⟨1, 4, false, [.int .i32 0], .int .i32⟩ := rfl
theorem tab_22 : tab 22 = ⟨1, 8, false, [.raw .nilFunc], .func⟩ := rfl
theorem tab_23 : tab 23 = ⟨1, 24, false, [.nils], .slice 3⟩ := rfl
theorem tab_25 : tab 25 = ⟨1, 8, false, [.raw .nilFunc], .func⟩ := rfl
theorem tab_26 : tab 26 = ⟨1, 8, false, [.int .i64 0], .int .i64⟩ := rfl
theorem tab_27 : tab 27 = ⟨1, 8, false, [.raw .nilFunc], .func⟩ := rfl
theorem tab_28 : tab 28 = ⟨1, 8, false, [.raw .nilFunc], .func⟩ := rfl
theorem tab_29 : tab 29 = ⟨1, 8, false, [.raw .nilFunc], .func⟩ := rfl
theorem tab_30 : tab 30 = ⟨1, 8, false, [.raw .nilFunc], .func⟩ := rfl
theorem tab_31 : tab 31 = ⟨1, 24, false, [.nils], .slice 5⟩ := rfl
theorem tab_32 : tab 32 = ⟨3, 40, true, [.int .i64 0, .int .i64 0, .nils], .struct [(0, 1, false), (1, 1, false), (2, 1, false)]⟩ := rfl
theorem tab_33 : tab 33 = ⟨3, 40, true, [.int .i64 0, .int .i64 0, .nils], .struct [(0, 1, false), (1, 1, false), (2, 1, false)]⟩ := rfl
theorem tab_34 : tab 34 = ⟨1, 8, false, [.int .i64 0], .int .i64⟩ := rfl
theorem tab_36 : tab 36 = ⟨1, 8, false, [.raw .nilFunc], .func⟩ := rfl
theorem tab_37 : tab 37 = ⟨1, 8, false, [.raw .nilFunc], .func⟩ := rfl
theorem tab_38 : tab 38 = ⟨1, 8, false, [.raw .nilFunc], .func⟩ := rfl
theorem tab_39 : tab 39 = ⟨1, 8, false, [.raw .nilFunc], .func⟩ := rfl
theorem tab_40 : tab 40 = ⟨1, 8, false, [.raw .nilFunc], .func⟩ := rfl
theorem tab_41 : tab 41 = ⟨1, 8, false, [.raw .nilFunc], .func⟩ := rfl
theorem tab_42 : tab 42 = ⟨1, 8, false, [.raw .nilFunc], .func⟩ := rfl
theorem tab_43 : tab 43 = ⟨2, 16, true, [.int .i64 0, .int .i64 0], .struct [(0, 1, false), (1, 1, false)]⟩ := rfl
theorem tab_44 : tab 44 = ⟨2, 16, true, [.int .i64 0, .int .i64 0], .struct [(0, 1, false), (1, 1, false)]⟩ := rfl
theorem tab_45 : tab 45 = ⟨1, 8, false, [.raw .nilFunc], .func⟩ := rfl
theorem tab_46 : tab 46 = ⟨1, 8, false, [.raw .nilFunc], .func⟩ := rfl
theorem tab_47 : tab 47 = ⟨1, 24, false, [.nils], .slice 70⟩ := rfl
theorem tab_48 : tab 48 = ⟨1, 8, false, [.raw .nilFunc], .func⟩ := rfl
theorem tab_49 : tab 49 = ⟨1, 8, false, [.raw .nilFunc], .func⟩ := rfl
theorem tab_50 : tab 50 = ⟨1, 8, false, [.raw .nilFunc], .func⟩ := rfl
theorem tab_51 : tab 51 = ⟨1, 8, false, [.raw .nilFunc], .func⟩ := rfl
theorem tab_52 : tab 52 = ⟨1, 8, false, [.raw .nilFunc], .func⟩ := rfl
theorem tab_53 : tab 53 = ⟨1, 8, false, [.raw (.map none)], .map 3 4⟩ := rfl
theorem tab_54 : tab 54 = ⟨1, 8, false, [.raw .nilFunc], .func⟩ := rfl
theorem tab_55 : tab 55 = ⟨4, 32, true, [.int .i64 0, .int .i64 0, .int .i64 0, .int .i64 0], .struct [(0, 1, false), (1, 1, false), (2, 1, false), (3, 1, false)]⟩ := rfl
theorem tab_56 : tab 56 = ⟨4, 32, true, [.int .i64 0, .int .i64 0, .int .i64 0, .int .i64 0], .struct [(0, 1, false), (1, 1, false), (2, 1, false), (3, 1, false)]⟩ := rfl
theorem tab_57 : tab 57 = ⟨1, 8, false, [.raw .nilFunc], .func⟩ := rfl
theorem tab_58 : tab 58 = ⟨1, 8, false, [.raw .nilFunc], .func⟩ := rfl
theorem tab_59 : tab 59 = ⟨1, 8, false, [.raw .nilFunc], .func⟩ := rfl
theorem tab_60 : tab 60 = ⟨1, 8, false, [.raw .nilFunc], .func⟩ := rfl
theorem tab_61 : tab 61 = ⟨1, 24, false, [.nils], .slice 33⟩ := rfl
theorem tab_62 : tab 62 = ⟨1, 8, false, [.raw .nilFunc], .func⟩ := rfl
theorem tab_63 : tab 63 = ⟨1, 24, false, [.nils], .slice 68⟩ := rfl
theorem tab_64 : tab 64 = ⟨1, 8, false, [.raw .nilFunc], .func⟩ := rfl
theorem tab_65 : tab 65 = ⟨1, 8, false, [.raw .nilFunc], .func⟩ := rfl
theorem tab_66 : tab 66 = ⟨1, 8, false, [.raw .nilFunc], .func⟩ := rfl
theorem tab_67 : tab 67 = ⟨2, 16, true, [.int .i64 0, .int .i64 0], .struct [(0, 1, false), (1, 1, false)]⟩ := rfl
theorem tab_68 : tab 68 = ⟨2, 16, true, [.int .i64 0, .int .i64 0], .struct [(0, 1, false), (1, 1, false)]⟩ := rfl
theorem tab_69 : tab 69 = ⟨2, 16, true, [.int .i64 0, .int .i64 0], .struct [(0, 1, false), (1, 1, false)]⟩ := rfl
theorem tab_70 : tab 70 = ⟨2, 16, true, [.int .i64 0, .int .i64 0], .struct [(0, 1, false), (1, 1, false)]⟩ := rfl
theorem tab_71 : tab 71 = ⟨1, 8, false, [.raw .nilFunc], .func⟩ := rfl
theorem tab_72 : tab 72 = ⟨1, 8, false, [.raw (.map none)], .map 3 74⟩ := rfl
theorem tab_73 : tab 73 = ⟨1, 8, false, [.raw .nilFunc], .func⟩ := rfl
theorem tab_74 : tab 74 = ⟨1, 24, false, [.nils], .slice 9⟩ := rfl
theorem tab_75 : tab 75 = ⟨1, 8, false, [.raw .nilFunc], .func⟩ := rfl
theorem tab_76 : tab 76 = ⟨1, 8, false, [.raw .nilFunc], .func⟩ := rfl
theorem tab_77 : tab 77 = ⟨1, 8, false, [.raw .nilFunc], .func⟩ := rfl
theorem tab_78 : tab 78 = ⟨1, 8, false, [.raw .nilFunc], .func⟩ := rfl
theorem tab_80 : tab 80 = ⟨1, 8, false, [.raw .nilFunc], .func⟩ := rfl
theorem tab_81 : tab 81 = ⟨1, 8, false, [.raw .nilFunc], .func⟩ := rfl
theorem tab_82 : tab 82 = ⟨1, 8, false, [.raw .nilFunc], .func⟩ := rfl
theorem tab_83 : tab 83 = ⟨1, 8, false, [.raw .nilFunc], .func⟩ := rfl
theorem tab_84 : tab 84 = ⟨1, 8, false, [.raw .nilFunc], .func⟩ := rfl
theorem tab_85 : tab 85 = ⟨1, 8, false, [.raw .nilFunc], .func⟩ := rfl
theorem tab_86 : tab 86 = ⟨1, 8, false, [.raw .nilFunc], .func⟩ := rfl
theorem tab_87 : tab 87 = ⟨1, 8, false, [.raw .nilFunc], .func⟩ := rfl
theorem tab_88 : tab 88 = ⟨1, 8, false, [.raw .nilFunc], .func⟩ := rfl
theorem tab_89 : tab 89 = ⟨3, 40, true, [.int .i64 0, .int .i64 0, .nils], .struct [(0, 3, true)]⟩ := rfl
theorem tab_90 : tab 90 = ⟨3, 40, true, [.int .i64 0, .int .i64 0, .nils], .struct [(0, 3, true)]⟩ := rfl
theorem tab_91 : tab 91 = ⟨1, 8, false, [.raw .nilFunc], .func⟩ := rfl
theorem tab_92 : tab 92 = ⟨1, 8, false, [.raw .nilFunc], .func⟩ := rfl
theorem tab_93 : tab 93 = ⟨1, 8, false, [.raw .nilFunc], .func⟩ := rfl
theorem tab_94 : tab 94 = ⟨1, 8, false, [.raw .nilFunc], .func⟩ := rfl
theorem tab_95 : tab 95 = ⟨1, 8, false, [.raw .nilFunc], .func⟩ := rfl
theorem tab_96 : tab 96 = ⟨1, 8, false, [.raw .nilFunc], .func⟩ := rfl
theorem tab_97 : tab 97 = ⟨1, 8, false, [.nilp], .ptr 99⟩ := rfl
theorem tab_98 : tab 98 = ⟨2, 32, true, [.nilp, .nils], .struct [(0, 1, false), (1, 1, false)]⟩ := rfl
theorem tab_99 : tab 99 = ⟨2, 32, true, [.nilp, .nils], .struct [(0, 1, false), (1, 1, false)]⟩ := rfl
theorem tab_102 : tab 102 = ⟨1, 8, false, [.raw .nilFunc], .func⟩ := rfl
theorem tab_103 : tab 103 = ⟨2, 2, true, [.int .u8 0, .int .u8 0], .array 2 5⟩ := rfl
theorem tab_104 : tab 104 = ⟨1, 8, false, [.raw .nilFunc], .func⟩ := rfl
theorem tab_105 : tab 105 = ⟨1, 8, false, [.raw .nilFunc], .func⟩ := rfl
theorem tab_106 : tab 106 = ⟨1, 8, false, [.raw .nilFunc], .func⟩ := rfl
theorem tab_107 : tab 107 = ⟨1, 8, false, [.raw .nilFunc], .func⟩ := rfl
theorem tab_108 : tab 108 = ⟨1, 8, false, [.raw .nilFunc], .func⟩ := rfl
theorem tab_109 : tab 109 = ⟨1, 8, false, [.raw .nilFunc], .func⟩ := rfl
theorem tab_110 : tab 110 = ⟨1, 8, false, [.raw .nilFunc], .func⟩ := rfl
theorem tab_111 : tab 111 = ⟨1, 8, false, [.raw .nilFunc], .func⟩ := rfl
theorem tab_112 : tab 112 = ⟨1, 8, false, [.raw .nilFunc], .func⟩ := rfl
theorem tab_113 : tab 113 = ⟨1, 8, false, [.nilp], .ptr 5⟩ := rfl
theorem tab_114 : tab 114 = ⟨3, 24, true, [.int .i64 0, .int .i64 0, .int .i64 0], .array 3 3⟩ := rfl
theorem tab_115 : tab 115 = ⟨6, 48, true, [.int .i64 0, .int .i64 0, .int .i64 0, .int .i64 0, .int .i64 0, .int .i64 0], .struct [(0, 3, true), (3, 3, true)]⟩ := rfl
theorem tab_116 : tab 116 = ⟨6, 48, true, [.int .i64 0, .int .i64 0, .int .i64 0, .int .i64 0, .int .i64 0, .int .i64 0], .struct [(0, 3, true), (3, 3, true)]⟩ := rfl
theorem tab_117 : tab 117 = ⟨1, 8, false, [.raw .nilFunc], .func⟩ := rfl
theorem tab_118 : tab 118 = ⟨1, 8, false, [.raw .nilFunc], .func⟩ := rfl
theorem tab_119 : tab 119 = ⟨1, 8, false, [.raw .nilFunc], .func⟩ := rfl
theorem tab_120 : tab 120 = ⟨1, 8, false, [.raw .nilFunc], .func⟩ := rfl
theorem tab_121 : tab 121 = ⟨1, 8, false, [.int .u64 0], .int .u64⟩ := rfl
theorem tab_122 : tab 122 = ⟨1, 8, false, [.raw .nilFunc], .func⟩ := rfl
theorem tab_123 : tab 123 = ⟨1, 8, false, [.raw .nilFunc], .func⟩ := rfl
theorem tab_124 : tab 124 = ⟨1, 8, false, [.int .u64 0], .int .u64⟩ := rfl
theorem tab_125 : tab 125 = ⟨1, 8, false, [.raw .nilFunc], .func⟩ := rfl
theorem tab_127 : tab 127 = ⟨1, 8, false, [.raw .nilFunc], .func⟩ := rfl
theorem tab_128 : tab 128 = ⟨1, 8, false, [.raw .nilFunc], .func⟩ := rfl
theorem tab_129 : tab 129 = ⟨1, 8, false, [.raw .nilFunc], .func⟩ := rfl
theorem tab_130 : tab 130 = ⟨1, 8, false, [.int .i64 0], .int .i64⟩ := rfl
theorem tab_132 : tab 132 = ⟨1, 8, false, [.raw .nilFunc], .func⟩ := rfl
theorem tab_133 : tab 133 = ⟨1, 8, false, [.raw .nilFunc], .func⟩ := rfl
theorem tab_134 : tab 134 = ⟨1, 8, false, [.raw .nilFunc], .func⟩ := rfl
theorem tab_136 : tab 136 = ⟨1, 8, false, [.raw .nilFunc], .func⟩ := rfl
theorem tab_137 : tab 137 = ⟨1, 8, false, [.raw .nilFunc], .func⟩ := rfl
theorem tab_138 : tab 138 = ⟨1, 4, false, [.int .u32 0], .int .u32⟩ := rfl
theorem tab_139 : tab 139 = ⟨1, 8, false, [.raw .nilFunc], .func⟩ := rfl
theorem tab_140 : tab 140 = ⟨1, 8, false, [.int .u64 0], .int .u64⟩ := rfl
theorem tab_141 : tab 141 = ⟨1, 8, false, [.raw .nilFunc], .func⟩ := rfl
theorem tab_142 : tab 142 = ⟨1, 8, false, [.raw .nilFunc], .func⟩ := rfl
theorem tab_143 : tab 143 = ⟨1, 8, false, [.raw .nilFunc], .func⟩ := rfl
theorem tab_144 : tab 144 = ⟨1, 8, false, [.nilp], .ptr 3⟩ := rfl
theorem tab_145 : tab 145 = ⟨1, 8, false, [.raw .nilFunc], .func⟩ := rfl
theorem tab_146 : tab 146 = ⟨1, 8, false, [.nilp], .ptr 140⟩ := rfl
theorem tab_147 : tab 147 = ⟨1, 8, false, [.raw .nilFunc], .func⟩ := rfl
theorem tab_148 : tab 148 = ⟨4, 40, true, [.nilp, .nilp, .nilp, .str ⟨#[]⟩], .struct [(0, 1, false), (1, 1, false), (2, 1, false), (3, 1, false)]⟩ := rfl
theorem tab_149 : tab 149 = ⟨4, 40, true, [.nilp, .nilp, .nilp, .str ⟨#[]⟩], .struct [(0, 1, false), (1, 1, false), (2, 1, false), (3, 1, false)]⟩ := rfl
theorem tab_153 : tab 153 = ⟨1, 8, false, [.raw .nilFunc], .func⟩ := rfl
theorem tab_154 : tab 154 = ⟨1, 1, false, [.int .u8 0], .int .u8⟩ := rfl
theorem tab_155 : tab 155 = ⟨1, 1, false, [.int .u8 0], .int .u8⟩ := rfl
theorem tab_156 : tab 156 = ⟨1, 8, false, [.raw .nilFunc], .func⟩ := rfl
theorem tab_157 : tab 157 = ⟨1, 4, false, [.int .i32 0], .int .i32⟩ := rfl
theorem tab_158 : tab 158 = ⟨1, 4, false, [.int .i32 0], .int .i32⟩ := rfl
theorem tab_159 : tab 159 = ⟨11, 48, true, [.int .u64 0, .int .u64 0, .int .u32 0, .int .u8 0, .int .u8 0, .int .u8 0, .int .u8 0, .raw .nilFunc, .nilp, .int .i32 0, .int .i32 0], .struct [(0, 1, false), (1, 1, false), (2, 1, false), (3, 1, false), (4, 1, false), (5, 1, false), (6, 1, false), (7, 1, false), (8, 1, false), (9, 1, false), (10, 1, false)]⟩ := rfl
theorem tab_160 : tab 160 = ⟨11, 48, true, [.int .u64 0, .int .u64 0, .int .u32 0, .int .u8 0, .int .u8 0, .int .u8 0, .int .u8 0, .raw .nilFunc, .nilp, .int .i32 0, .int .i32 0], .struct [(0, 1, false), (1, 1, false), (2, 1, false), (3, 1, false), (4, 1, false), (5, 1, false), (6, 1, false), (7, 1, false), (8, 1, false), (9, 1, false), (10, 1, false)]⟩ := rfl
theorem tabL_ok : tabL.all (fun e => tyOk Try.prog e.1 e.2) = true := by kernel_rfl
theorem lookup_mem {α : Type} : ∀ {l : List (Nat × α)} {T : Nat} {x : α}, l.lookup T = some x → (T, x) ∈ l
  | (a, y) :: l, T, x, h => by
    rw [List.lookup_cons] at h
    by_cases e : T = a
    · subst e; simp at h; subst h; simp
    · have : (T == a) = false := by simpa using e
      rw [this] at h
      exact List.mem_cons_of_mem _ (lookup_mem h)
theorem tab_ok : TabOk Try.prog tab := by
  intro T
  cases h : tabL.lookup T with
  | none => simp [tab, h]
  | some ti =>
    have h1 := List.all_eq_true.1 tabL_ok _ (lookup_mem h)
    have h2 : tab T = ti := by simp [tab, h]
    rw [h2]
    split
    · trivial
    · exact h1
attribute [go_sem] tab_1 tab_2 tab_3 tab_4 tab_5 tab_6 tab_7 tab_8 tab_9 tab_10 tab_11 tab_12 tab_13 tab_14 tab_15 tab_16 tab_17 tab_18 tab_19 tab_21 tab_22 tab_23 tab_25 tab_26 tab_27 tab_28 tab_29 tab_30 tab_31 tab_32 tab_33 tab_34 tab_36 tab_37 tab_38 tab_39 tab_40 tab_41 tab_42 tab_43 tab_44 tab_45 tab_46 tab_47 tab_48 tab_49 tab_50 tab_51 tab_52 tab_53 tab_54 tab_55 tab_56 tab_57 tab_58 tab_59 tab_60 tab_61 tab_62 tab_63 tab_64 tab_65 tab_66 tab_67 tab_68 tab_69 tab_70 tab_71 tab_72 tab_73 tab_74 tab_75 tab_76 tab_77 tab_78 tab_80 tab_81 tab_82 tab_83 tab_84 tab_85 tab_86 tab_87 tab_88 tab_89 tab_90 tab_91 tab_92 tab_93 tab_94 tab_95 tab_96 tab_97 tab_98 tab_99 tab_102 tab_103 tab_104 tab_105 tab_106 tab_107 tab_108 tab_109 tab_110 tab_111 tab_112 tab_113 tab_114 tab_115 tab_116 tab_117 tab_118 tab_119 tab_120 tab_121 tab_122 tab_123 tab_124 tab_125 tab_127 tab_128 tab_129 tab_130 tab_132 tab_133 tab_134 tab_136 tab_137 tab_138 tab_139 tab_140 tab_141 tab_142 tab_143 tab_144 tab_145 tab_146 tab_147 tab_148 tab_149 tab_153 tab_154 tab_155 tab_156 tab_157 tab_158 tab_159 tab_160
theorem mixed : Try.prog.follows .mixedOrders = true := by kernel_rfl
end Go.Proofs.Ytnbpbehlemaeoaa

set_option linter.unusedVariables false
set_option linter.unusedSimpArgs false
set_option maxRecDepth 10000
namespace Go.Proofs.Ytnbpbehlemaeoaa
open Go.IL
def ink (W H : Int) (pix : List Int) : SV := .agg [.int .i64 W, .int .i64 H, .sl true (nums .u8 pix)]
attribute [go_sem] ink
def rightS (W H : Int) (pix : List Int) : Bool := decide (0 ≤ W ∧ 0 ≤ H ∧ W ≤ 640 ∧ H ≤ 640 ∧ (pix.length : Int) = W * H) && pix.all fun x => decide (x ≤ 1)
theorem mul_bd {W H a b : Int} (h1 : 0 ≤ W) (h2 : W ≤ a) (h3 : 0 ≤ H) (h4 : H ≤ b) : 0 ≤ W * H ∧ W * H ≤ a * b := ⟨Int.mul_nonneg h1 h3, Int.mul_le_mul h2 h4 h3 (by omega)⟩
theorem right_shape {W H : Int} {pix : List Int} : (decide (W < 0) || decide (H < 0) || decide (640 < W) || decide (640 < H) || (pix.length : Int) != IntKind.i64.wrap (W * H)) = !decide (0 ≤ W ∧ 0 ≤ H ∧ W ≤ 640 ∧ H ≤ 640 ∧ (pix.length : Int) = W * H) := by
  by_cases h : 0 ≤ W ∧ 0 ≤ H ∧ W ≤ 640 ∧ H ≤ 640
  · obtain ⟨h1, h2, h3, h4⟩ := h
    have hb := mul_bd h1 h3 h2 h4
    rw [wrap_eq (by omega) (by omega)]
    generalize W * H = m at *
    by_cases e : (pix.length : Int) = m <;> simp [e, h1, h2, h3, h4, Int.not_lt.2]
  · have : (decide (W < 0) || decide (H < 0) || decide (640 < W) || decide (640 < H)) = true := by
      simp only [Bool.or_eq_true, decide_eq_true_eq]; omega
    rw [this, Bool.true_or]
    have : ¬ (0 ≤ W ∧ 0 ≤ H ∧ W ≤ 640 ∧ H ≤ 640 ∧ (pix.length : Int) = W * H) := fun h' => h ⟨h'.1, h'.2.1, h'.2.2.1, h'.2.2.2.1⟩
    simp [this]
theorem getD_mem {l : List Int} {i : Nat} (h : i < l.length) : l.getD i 0 ∈ l := by simp [h]
theorem refRight (W H : Int) (pix : List Int) (hl : pix.length ≤ 1000000) : FSpec Try.prog 35 [ink W H pix] (.bool (rightS W H pix)) [] := by
  refine FSpec.intro tab_ok Try.func35 rfl rfl rfl (by kernel_rfl) (by simp) fun w0 => ?_
  simp only [argTM, Nat.zero_add, Nat.reduceAdd]
  simp only [ink]
  repeat refine IW.seq ?_
  refine IW.region_seq tab_ok [some 1, some 2] rfl fun X K hX hK => ?_
  simp only [go_sem, if_true, if_false, reduceIte, Nat.reduceEqDiff, Nat.reduceAdd, Nat.reduceLT, Nat.reduceLeDiff, reduceCtorEq]
  refine hK _ _ ?_; clear hX hK X K
  show IW _ _ _ _ _ _ _ _
  repeat refine IW.seq ?_
  refine IW.region_seq tab_ok [some 4, some 5, some 6, some 7, some 8, some 9, some 10, some 11, some 12, some 13, some 14, some 15, some 16, some 17, some 18, some 19, some 20, some 21, some 22, some 23, some 24, some 25, some 26, some 27, some 28, some 29, some 30, some 31, some 32] rfl fun X K hX hK => ?_
  simp only [go_sem, if_true, if_false, reduceIte, Nat.reduceEqDiff, Nat.reduceAdd, Nat.reduceLT, Nat.reduceLeDiff, reduceCtorEq]
  refine hK _ _ ?_; clear hX hK X K
  show IW _ _ _ _ _ _ _ _
  refine IW.cond rfl (fun hb => ?_) (fun hb => ?_)
  · repeat refine IW.seq ?_
    refine IW.region_seq tab_ok [some 2] rfl fun X K hX hK => ?_
    simp only [go_sem, if_true, if_false, reduceIte, Nat.reduceEqDiff, Nat.reduceAdd, Nat.reduceLT, Nat.reduceLeDiff, reduceCtorEq]
    refine hK _ _ ?_; clear hX hK X K
    show IW _ _ _ _ _ _ _ _
    refine IW.ret (Fin.scal rfl rfl ?_)
    rw [right_shape, Bool.not_eq_true'] at hb
    show SV.bool false = SV.bool _
    rw [rightS, hb]; rfl
  · rw [right_shape, Bool.not_eq_false'] at hb
    refine IW.skip ?_
    show IW _ _ _ _ _ _ _ _
    repeat refine IW.seq ?_
    refine IW.region_seq tab_ok [some 3] rfl fun X K hX hK => ?_
    simp only [go_sem, if_true, if_false, reduceIte, Nat.reduceEqDiff, Nat.reduceAdd, Nat.reduceLT, Nat.reduceLeDiff, reduceCtorEq]
    refine hK _ _ ?_; clear hX hK X K
    show IW _ _ _ _ _ _ _ _
    refine IW.block ?_
    refine IW.loop (α := {i : Nat // i ≤ pix.length ∧ ∀ j, j < i → pix.getD j 0 ≤ 1}) (fun i => [(1, .ptr 0 0 0), (3, .int .i64 i.1)]) (fun _ => [some ⟨3, 33, [[.int .i64 W, .int .i64 H, .sl true (nums .u8 pix)]]⟩]) (fun i => pix.length - i.1) ⟨0, by omega, fun j h => absurd h (by omega)⟩ ?_ fun ⟨i, hi, hp⟩ => ?_
    · refine Ent.cut ?_ ?_ <;> simp only [go_sem, if_true, if_false, reduceIte, Nat.reduceEqDiff, Nat.reduceAdd, Nat.reduceLT, Nat.reduceLeDiff, reduceCtorEq]
    · simp only []
      repeat refine IW.seq ?_
      refine IW.region_seq tab_ok [some 33, some 34, some 35, some 36, some 37] rfl fun X K hX hK => ?_
      simp only [go_sem, if_true, if_false, reduceIte, Nat.reduceEqDiff, Nat.reduceAdd, Nat.reduceLT, Nat.reduceLeDiff, reduceCtorEq]
      refine hK _ _ ?_; clear hX hK X K
      show IW _ _ _ _ _ _ _ _
      refine IW.cond rfl (fun hb1 => ?_) (fun hb1 => ?_)
      · refine IW.skip ?_
        show IW _ _ _ _ _ _ _ _
        simp only [decide_eq_true_eq] at hb1
        have hlt : i < pix.length := by omega
        refine IW.seq (IW.block ?_)
        repeat refine IW.seq ?_
        refine IW.region_seq tab_ok [some 40, some 41, some 42, some 43, some 44, some 45] rfl fun X K hX hK => ?_
        simp only [go_sem, if_true, if_false, reduceIte, Nat.reduceEqDiff, Nat.reduceAdd, Nat.reduceLT, Nat.reduceLeDiff, reduceCtorEq, Int.toNat_natCast, nums_at hlt]
        refine ⟨⟨by omega, by omega⟩, ?_⟩
        refine hK _ _ ?_; clear hX hK X K
        show IW _ _ _ _ _ _ _ _
        refine IW.cond rfl (fun hb2 => ?_) (fun hb2 => ?_)
        · repeat refine IW.seq ?_
          refine IW.region_seq tab_ok [some 2] rfl fun X K hX hK => ?_
          simp only [go_sem, if_true, if_false, reduceIte, Nat.reduceEqDiff, Nat.reduceAdd, Nat.reduceLT, Nat.reduceLeDiff, reduceCtorEq]
          refine hK _ _ ?_; clear hX hK X K
          show IW _ _ _ _ _ _ _ _
          refine IW.ret (Fin.scal rfl rfl ?_)
          show SV.bool false = SV.bool _
          have : (pix.all fun x => decide (x ≤ 1)) = false := List.all_eq_false.2 ⟨_, getD_mem hlt, by simpa using hb2⟩
          rw [rightS, this, Bool.and_false]
        · refine IW.skip ?_
          show IW _ _ _ _ _ _ _ _
          have e1 : IntKind.i64.wrap ((i : Int) + 1) = ((i + 1 : Nat) : Int) := (wrap_eq (by omega) (by omega)).trans (by omega)
          repeat refine IW.seq ?_
          refine IW.region_seq tab_ok [some 38, some 39, some 3] rfl fun X K hX hK => ?_
          simp only [go_sem, if_true, if_false, reduceIte, Nat.reduceEqDiff, Nat.reduceAdd, Nat.reduceLT, Nat.reduceLeDiff, reduceCtorEq, e1]
          refine hK _ _ ⟨⟨i + 1, hlt, fun j hj => ?_⟩, by simp only []; omega, ?_⟩
          · rcases Nat.lt_succ_iff_lt_or_eq.1 hj with h | h
            · exact hp j h
            · subst h; simpa using hb2
          · refine Ent.cut ?_ ?_ <;> simp only [go_sem, if_true, if_false, reduceIte, Nat.reduceEqDiff, Nat.reduceAdd, Nat.reduceLT, Nat.reduceLeDiff, reduceCtorEq]
      · refine IW.exit ?_
        show IW _ _ _ _ _ _ _ _
        repeat refine IW.seq ?_
        refine IW.region_seq tab_ok [some 2] rfl fun X K hX hK => ?_
        simp only [go_sem, if_true, if_false, reduceIte, Nat.reduceEqDiff, Nat.reduceAdd, Nat.reduceLT, Nat.reduceLeDiff, reduceCtorEq]
        refine hK _ _ ?_; clear hX hK X K
        show IW _ _ _ _ _ _ _ _
        refine IW.ret (Fin.scal rfl rfl ?_)
        show SV.bool true = SV.bool _
        have : (pix.all fun x => decide (x ≤ 1)) = true := List.all_eq_true.2 fun x hx => by
          obtain ⟨j, hj, rfl⟩ := List.mem_iff_getElem.1 hx
          have := hp j (by simp only [decide_eq_false_iff_not] at hb1; omega)
          simpa [hj] using this
        rw [rightS, this, hb]; rfl
/-- How many of the first n differ. -/
def cnt (p q : List Int) : Nat → Int
  | 0 => 0
  | n + 1 => cnt p q n + if p.getD n 0 ≠ q.getD n 0 then 1 else 0
theorem cnt_bd (p q : List Int) : ∀ n : Nat, 0 ≤ cnt p q n ∧ cnt p q n ≤ n
  | 0 => by simp [cnt]
  | n + 1 => by have := cnt_bd p q n; simp only [cnt]; split <;> omega
def missS (W H : Int) (p : List Int) (W' H' : Int) (q : List Int) : Int := if rightS W H p = true ∧ rightS W' H' q = true ∧ W = W' ∧ H = H' then cnt p q p.length else -1
theorem miss_shape {W H W' H' : Int} {p q : List Int} : (!rightS W H p || !rightS W' H' q || W != W' || H != H') = !decide (rightS W H p = true ∧ rightS W' H' q = true ∧ W = W' ∧ H = H') := by
  cases rightS W H p <;> cases rightS W' H' q <;> simp
  by_cases h1 : W = W' <;> by_cases h2 : H = H' <;> simp [h1, h2]
theorem right_len {W H : Int} {p : List Int} (h : rightS W H p = true) : (p.length : Int) = W * H ∧ 0 ≤ W ∧ 0 ≤ H ∧ W ≤ 640 ∧ H ≤ 640 := by
  simp only [rightS, Bool.and_eq_true, decide_eq_true_eq] at h; exact ⟨h.1.2.2.2.2, h.1.1, h.1.2.1, h.1.2.2.1, h.1.2.2.2.1⟩
theorem refMiss (W H : Int) (p : List Int) (W' H' : Int) (q : List Int) (hl : p.length ≤ 1000000) (hl' : q.length ≤ 1000000) : FSpec Try.prog 24 [ink W H p, ink W' H' q] (.int .i64 (missS W H p W' H' q)) [] := by
  refine FSpec.intro tab_ok Try.func24 rfl rfl rfl (by kernel_rfl) (by simp) fun w0 => ?_
  simp only [argTM, Nat.zero_add, Nat.reduceAdd]
  simp only [ink]
  repeat refine IW.seq ?_
  refine IW.region_seq tab_ok [some 2, some 3, some 4] rfl fun X K hX hK => ?_
  simp only [go_sem, if_true, if_false, reduceIte, Nat.reduceEqDiff, Nat.reduceAdd, Nat.reduceLT, Nat.reduceLeDiff, reduceCtorEq]
  refine hK _ _ ?_; clear hX hK X K
  show IW _ _ _ _ _ _ _ _
  repeat refine IW.seq ?_
  refine IW.region_seq tab_ok [some 7, some 8, some 9, some 10, some 11, some 12, some 13, some 14, some 15, some 16, some 17, some 18, some 19, some 20, some 21, some 22, some 23, some 24, some 25, some 26, some 27, some 28] rfl fun X K hX hK => ?_
  simp only [go_sem, if_true, if_false, reduceIte, Nat.reduceEqDiff, Nat.reduceAdd, Nat.reduceLT, Nat.reduceLeDiff, reduceCtorEq]
  refine hX.quiet _ _ (OpG.of_B rfl (opB_call rfl rfl (FSpec.nz (refRight W H p hl) (by simp [go_sem, if_true, if_false, reduceIte, Nat.reduceEqDiff, Nat.reduceAdd, Nat.reduceLT, Nat.reduceLeDiff, reduceCtorEq, List.map_cons, List.map_nil, List.append_nil, opnd, unc])))) ?_
  simp only [go_sem, if_true, if_false, reduceIte, Nat.reduceEqDiff, Nat.reduceAdd, Nat.reduceLT, Nat.reduceLeDiff, reduceCtorEq]
  refine hX.quiet _ _ (OpG.of_BG rfl rfl rfl (by first | (simp only [go_sem, if_true, if_false, reduceIte, Nat.reduceEqDiff, Nat.reduceAdd, Nat.reduceLT, Nat.reduceLeDiff, reduceCtorEq]; done) | (simp [go_sem, if_true, if_false, reduceIte, Nat.reduceEqDiff, Nat.reduceAdd, Nat.reduceLT, Nat.reduceLeDiff, reduceCtorEq] <;> (intros; simp_all))) fun hc => opB_call rfl rfl (FSpec.nz (refRight W' H' q hl') (by simp [go_sem, if_true, if_false, reduceIte, Nat.reduceEqDiff, Nat.reduceAdd, Nat.reduceLT, Nat.reduceLeDiff, reduceCtorEq, List.map_cons, List.map_nil, List.append_nil, opnd, unc]))) ?_
  simp only [go_sem, if_true, if_false, reduceIte, Nat.reduceEqDiff, Nat.reduceAdd, Nat.reduceLT, Nat.reduceLeDiff, reduceCtorEq]
  refine hK _ _ ?_; clear hX hK X K
  show IW _ _ _ _ _ _ _ _
  refine IW.cond rfl (fun hb => ?_) (fun hb => ?_) <;> rw [miss_shape] at hb
  · repeat refine IW.seq ?_
    refine IW.region_seq tab_ok [some 4] rfl fun X K hX hK => ?_
    simp only [go_sem, if_true, if_false, reduceIte, Nat.reduceEqDiff, Nat.reduceAdd, Nat.reduceLT, Nat.reduceLeDiff, reduceCtorEq]
    refine hK _ _ ?_; clear hX hK X K
    show IW _ _ _ _ _ _ _ _
    refine IW.ret (Fin.scal rfl rfl ?_)
    simp only [Bool.not_eq_true', decide_eq_false_iff_not] at hb
    show SV.int .i64 (-1) = SV.int .i64 _
    rw [missS, if_neg hb]
  · refine IW.skip ?_
    show IW _ _ _ _ _ _ _ _
    simp only [Bool.not_eq_false', decide_eq_true_eq] at hb
    have hlen : p.length = q.length := by
      have h1 := (right_len hb.1).1
      have h2 := (right_len hb.2.1).1
      rw [hb.2.2.1, hb.2.2.2] at h1
      omega
    repeat refine IW.seq ?_
    refine IW.region_seq tab_ok [some 5] rfl fun X K hX hK => ?_
    simp only [go_sem, if_true, if_false, reduceIte, Nat.reduceEqDiff, Nat.reduceAdd, Nat.reduceLT, Nat.reduceLeDiff, reduceCtorEq]
    refine hK _ _ ?_; clear hX hK X K
    show IW _ _ _ _ _ _ _ _
    repeat refine IW.seq ?_
    refine IW.region_seq tab_ok [some 6] rfl fun X K hX hK => ?_
    simp only [go_sem, if_true, if_false, reduceIte, Nat.reduceEqDiff, Nat.reduceAdd, Nat.reduceLT, Nat.reduceLeDiff, reduceCtorEq]
    refine hK _ _ ?_; clear hX hK X K
    show IW _ _ _ _ _ _ _ _
    refine IW.block ?_
    refine IW.loop (α := {i : Nat // i ≤ p.length}) (fun i => [(2, .ptr 0 0 0), (3, .ptr 1 0 0), (5, .int .i64 (cnt p q i)), (6, .int .i64 i.1)]) (fun _ => [some ⟨3, 33, [[.int .i64 W, .int .i64 H, .sl true (nums .u8 p)]]⟩, some ⟨3, 33, [[.int .i64 W', .int .i64 H', .sl true (nums .u8 q)]]⟩]) (fun i => p.length - i.1) ⟨0, by omega⟩ ?_ fun ⟨i, hi⟩ => ?_
    · refine Ent.cut ?_ ?_ <;> simp only [go_sem, if_true, if_false, reduceIte, Nat.reduceEqDiff, Nat.reduceAdd, Nat.reduceLT, Nat.reduceLeDiff, reduceCtorEq, cnt]
    · simp only []
      have hc := cnt_bd p q i
      repeat refine IW.seq ?_
      refine IW.region_seq tab_ok [some 29, some 30, some 31, some 32, some 33] rfl fun X K hX hK => ?_
      simp only [go_sem, if_true, if_false, reduceIte, Nat.reduceEqDiff, Nat.reduceAdd, Nat.reduceLT, Nat.reduceLeDiff, reduceCtorEq]
      refine hK _ _ ?_; clear hX hK X K
      show IW _ _ _ _ _ _ _ _
      refine IW.cond rfl (fun hb1 => ?_) (fun hb1 => ?_)
      · refine IW.skip ?_
        show IW _ _ _ _ _ _ _ _
        simp only [decide_eq_true_eq] at hb1
        have hlt : i < p.length := by omega
        have hlt' : i < q.length := by omega
        refine IW.seq (IW.block ?_)
        repeat refine IW.seq ?_
        refine IW.region_draw tab_ok mixed [some 36, some 37, some 38, some 39, some 40, some 41, some 42, some 43, some 44, some 45, some 46] 11 (by kernel_rfl) rfl fun Xq Xs K hXq hXs hK K1 hK1 => ?_
        simp only [go_sem, if_true, if_false, reduceIte, Nat.reduceEqDiff, Nat.reduceAdd, Nat.reduceLT, Nat.reduceLeDiff, reduceCtorEq, Int.toNat_natCast, nums_at hlt, nums_at hlt']

        refine ⟨⟨by omega, by omega⟩, ⟨by omega, by omega⟩, ?_⟩
        refine hK1 _ _ ?_; clear hXq hK1 K1 Xq
        simp only [List.drop_zero, List.drop_succ_cons, go_sem, if_true, if_false, reduceIte, Nat.reduceEqDiff, Nat.reduceAdd, Nat.reduceLT, Nat.reduceLeDiff, reduceCtorEq]
        refine hK _ _ ?_; clear hXs hK K Xs
        show IW _ _ _ _ _ _ _ _
        have e1 : IntKind.i64.wrap ((i : Int) + 1) = ((i + 1 : Nat) : Int) := (wrap_eq (by omega) (by omega)).trans (by omega)
        have e2 : IntKind.i64.wrap (cnt p q i + 1) = cnt p q i + 1 := wrap_eq (by omega) (by omega)
        refine IW.cond rfl (fun hb2 => ?_) (fun hb2 => ?_)
        · repeat refine IW.seq ?_
          refine IW.region_seq tab_ok [some 47, some 48, some 5] rfl fun X K hX hK => ?_
          simp only [go_sem, if_true, if_false, reduceIte, Nat.reduceEqDiff, Nat.reduceAdd, Nat.reduceLT, Nat.reduceLeDiff, reduceCtorEq, e2]
          refine hK _ _ ?_; clear hX hK X K
          show IW _ _ _ _ _ _ _ _
          repeat refine IW.seq ?_
          refine IW.region_seq tab_ok [some 34, some 35, some 6] rfl fun X K hX hK => ?_
          simp only [go_sem, if_true, if_false, reduceIte, Nat.reduceEqDiff, Nat.reduceAdd, Nat.reduceLT, Nat.reduceLeDiff, reduceCtorEq, e1]
          refine hK _ _ ⟨⟨i + 1, hlt⟩, by simp only []; omega, ?_⟩
          simp only [bne_iff_ne, ne_eq] at hb2
          refine Ent.cut ?_ ?_ <;> simp only [go_sem, if_true, if_false, reduceIte, Nat.reduceEqDiff, Nat.reduceAdd, Nat.reduceLT, Nat.reduceLeDiff, reduceCtorEq, cnt, ne_eq, hb2, not_false_eq_true]
        · refine IW.skip ?_
          show IW _ _ _ _ _ _ _ _
          repeat refine IW.seq ?_
          refine IW.region_seq tab_ok [some 34, some 35, some 6] rfl fun X K hX hK => ?_
          simp only [go_sem, if_true, if_false, reduceIte, Nat.reduceEqDiff, Nat.reduceAdd, Nat.reduceLT, Nat.reduceLeDiff, reduceCtorEq, e1]
          refine hK _ _ ⟨⟨i + 1, hlt⟩, by simp only []; omega, ?_⟩
          simp only [bne_eq_false_iff_eq] at hb2
          refine Ent.cut ?_ ?_ <;> simp only [go_sem, if_true, if_false, reduceIte, Nat.reduceEqDiff, Nat.reduceAdd, Nat.reduceLT, Nat.reduceLeDiff, reduceCtorEq, cnt, hb2, ne_eq, not_true_eq_false, Int.add_zero]
      · refine IW.exit ?_
        show IW _ _ _ _ _ _ _ _
        repeat refine IW.seq ?_
        refine IW.region_seq tab_ok [some 49, some 4] rfl fun X K hX hK => ?_
        simp only [go_sem, if_true, if_false, reduceIte, Nat.reduceEqDiff, Nat.reduceAdd, Nat.reduceLT, Nat.reduceLeDiff, reduceCtorEq]
        refine hK _ _ ?_; clear hX hK X K
        show IW _ _ _ _ _ _ _ _
        refine IW.ret (Fin.scal rfl rfl ?_)
        simp only [decide_eq_false_iff_not] at hb1
        have : i = p.length := by omega
        subst this
        show SV.int .i64 _ = SV.int .i64 _
        rw [missS, if_pos hb]
end Go.Proofs.Ytnbpbehlemaeoaa

set_option linter.unusedVariables false
set_option linter.unusedSimpArgs false
set_option maxRecDepth 10000
namespace Go.Proofs.Ytnbpbehlemaeoaa
open Go.IL
/-- The font's image: a struct about an ink. -/
def img (W H : Int) (pix : List Int) : SV := .agg [.int .i64 W, .int .i64 H, .sl true (nums .u8 pix)]
attribute [go_sem] img
theorem pBig (x : Int) : FSpec Try.prog 84 [.int .u8 x] (.bool (decide (1 < x))) [] := by
  refine FSpec.intro tab_ok Try.func84 rfl rfl rfl (by kernel_rfl) (by simp) fun w0 => ?_
  simp only [argTM, Nat.zero_add, Nat.reduceAdd]
  repeat refine IW.seq ?_
  refine IW.region_seq tab_ok [some 2] rfl fun X K hX hK => ?_
  simp only [go_sem, if_true, if_false, reduceIte, Nat.reduceEqDiff, Nat.reduceAdd, Nat.reduceLT, Nat.reduceLeDiff, reduceCtorEq]
  refine hK _ _ ?_; clear hX hK X K
  show IW _ _ _ _ _ _ _ _
  repeat refine IW.seq ?_
  refine IW.region_seq tab_ok [some 3, some 4, some 2] rfl fun X K hX hK => ?_
  simp only [go_sem, if_true, if_false, reduceIte, Nat.reduceEqDiff, Nat.reduceAdd, Nat.reduceLT, Nat.reduceLeDiff, reduceCtorEq]
  refine hK _ _ ?_; clear hX hK X K
  show IW _ _ _ _ _ _ _ _
  refine IW.ret (Fin.scal rfl rfl ?_)
  rfl
/-- The first place of one greater than 1. -/
def bigAt : List Int → Nat → Int
  | [], _ => -1
  | x :: l, i => if 1 < x then i else bigAt l (i + 1)
theorem fIndexFunc (xs : List Int) (hl : xs.length ≤ 1000000) : ∃ n : Int, (0 ≤ n ↔ (xs.all fun x => decide (x ≤ 1)) = false) ∧ FSpec Try.prog 92 [.sl true (nums .u8 xs), .clo 84 []] (.int .i64 n) [] := by
  refine ⟨bigAt xs 0, ?_, ?_⟩
  · have key : ∀ (l : List Int) (i : Nat), 0 ≤ bigAt l i ↔ (l.all fun x => decide (x ≤ 1)) = false := by
      intro l
      induction l with
      | nil => intro i; simp [bigAt]
      | cons x l ih =>
        intro i
        simp only [bigAt, List.all_cons]
        by_cases h : 1 < x
        · rw [if_pos h]
          have : decide (x ≤ 1) = false := by simp; omega
          simp [this]
        · rw [if_neg h, ih]
          have : decide (x ≤ 1) = true := by simp; omega
          simp [this]
    exact key xs 0
  · refine FSpec.intro tab_ok Try.func92 rfl rfl rfl (by kernel_rfl) (by simp) fun w0 => ?_
    simp only [argTM, Nat.zero_add, Nat.reduceAdd]
    repeat refine IW.seq ?_
    refine IW.region_seq tab_ok [some 4] rfl fun X K hX hK => ?_
    simp only [go_sem, if_true, if_false, reduceIte, Nat.reduceEqDiff, Nat.reduceAdd, Nat.reduceLT, Nat.reduceLeDiff, reduceCtorEq]
    refine hK _ _ ?_; clear hX hK X K
    show IW _ _ _ _ _ _ _ _
    repeat refine IW.seq ?_
    refine IW.region_seq tab_ok [some 6, some 7, some 8] rfl fun X K hX hK => ?_
    simp only [go_sem, if_true, if_false, reduceIte, Nat.reduceEqDiff, Nat.reduceAdd, Nat.reduceLT, Nat.reduceLeDiff, reduceCtorEq]
    refine hK _ _ ?_; clear hX hK X K
    show IW _ _ _ _ _ _ _ _
    refine IW.block ?_
    refine IW.loop (α := {i : Nat // i ≤ xs.length ∧ bigAt xs 0 = bigAt (xs.drop i) i}) (fun i => [(0, .sl true (nums .u8 xs)), (1, .clo 84 []), (7, .int .i64 xs.length), (8, .int .i64 i.1)]) (fun _ => []) (fun i => xs.length - i.1) ⟨0, by omega, rfl⟩ ?_ fun ⟨i, hi, hp⟩ => ?_
    · refine Ent.cut ?_ ?_ <;> simp only [go_sem, if_true, if_false, reduceIte, Nat.reduceEqDiff, Nat.reduceAdd, Nat.reduceLT, Nat.reduceLeDiff, reduceCtorEq]
    · simp only []
      repeat refine IW.seq ?_
      refine IW.region_seq tab_ok [some 9] rfl fun X K hX hK => ?_
      simp only [go_sem, if_true, if_false, reduceIte, Nat.reduceEqDiff, Nat.reduceAdd, Nat.reduceLT, Nat.reduceLeDiff, reduceCtorEq]
      refine hK _ _ ?_; clear hX hK X K
      show IW _ _ _ _ _ _ _ _
      repeat refine IW.seq ?_
      refine IW.cond rfl (fun hb1 => ?_) (fun hb1 => ?_)
      · refine IW.skip ?_
        show IW _ _ _ _ _ _ _ _
        simp only [decide_eq_true_eq] at hb1
        have hlt : i < xs.length := by omega
        refine IW.seq (IW.block ?_)
        repeat refine IW.seq ?_
        refine IW.region_seq tab_ok [some 10, some 5] rfl fun X K hX hK => ?_
        simp only [go_sem, if_true, if_false, reduceIte, Nat.reduceEqDiff, Nat.reduceAdd, Nat.reduceLT, Nat.reduceLeDiff, reduceCtorEq]
        refine hK _ _ ?_; clear hX hK X K
        show IW _ _ _ _ _ _ _ _
        repeat refine IW.seq ?_
        refine IW.region_seq tab_ok [some 11, some 12, some 13, some 14, some 15, some 16] rfl fun X K hX hK => ?_
        simp only [go_sem, if_true, if_false, reduceIte, Nat.reduceEqDiff, Nat.reduceAdd, Nat.reduceLT, Nat.reduceLeDiff, reduceCtorEq, Int.toNat_natCast, nums_at hlt]
        refine ⟨⟨by omega, by omega⟩, ?_⟩
        refine hX.quiet _ _ (OpG.of_B rfl (opB_call rfl rfl (FSpec.nz (pBig (xs.getD i 0)) (by simp [go_sem, if_true, if_false, reduceIte, Nat.reduceEqDiff, Nat.reduceAdd, Nat.reduceLT, Nat.reduceLeDiff, reduceCtorEq, List.map_cons, List.map_nil, List.append_nil, opnd, unc])))) ?_
        simp only [go_sem, if_true, if_false, reduceIte, Nat.reduceEqDiff, Nat.reduceAdd, Nat.reduceLT, Nat.reduceLeDiff, reduceCtorEq]
        refine hK _ _ ?_; clear hX hK X K
        show IW _ _ _ _ _ _ _ _
        have e0 : bigAt (xs.drop i) i = if 1 < xs.getD i 0 then (i : Int) else bigAt (xs.drop (i + 1)) (i + 1) := by
          rw [List.drop_eq_getElem_cons hlt]
          simp [bigAt, hlt]
        repeat refine IW.seq ?_
        refine IW.cond rfl (fun hb2 => ?_) (fun hb2 => ?_)
        · repeat refine IW.seq ?_
          refine IW.region_seq tab_ok [some 17, some 4] rfl fun X K hX hK => ?_
          simp only [go_sem, if_true, if_false, reduceIte, Nat.reduceEqDiff, Nat.reduceAdd, Nat.reduceLT, Nat.reduceLeDiff, reduceCtorEq]
          refine hK _ _ ?_; clear hX hK X K
          show IW _ _ _ _ _ _ _ _
          refine IW.ret (Fin.scal rfl rfl ?_)
          show SV.int .i64 _ = SV.int .i64 _
          rw [hp, e0, if_pos (by simpa using hb2)]
        · refine IW.skip ?_
          show IW _ _ _ _ _ _ _ _
          have e1 : IntKind.i64.wrap ((i : Int) + 1) = ((i + 1 : Nat) : Int) := (wrap_eq (by omega) (by omega)).trans (by omega)
          repeat refine IW.seq ?_
          refine IW.region_seq tab_ok [some 18, some 8] rfl fun X K hX hK => ?_
          simp only [go_sem, if_true, if_false, reduceIte, Nat.reduceEqDiff, Nat.reduceAdd, Nat.reduceLT, Nat.reduceLeDiff, reduceCtorEq, e1]
          refine hK _ _ ⟨⟨i + 1, hlt, ?_⟩, by simp only []; omega, ?_⟩
          · rw [hp, e0, if_neg (by simpa using hb2)]
          · refine Ent.cut ?_ ?_ <;> simp only [go_sem, if_true, if_false, reduceIte, Nat.reduceEqDiff, Nat.reduceAdd, Nat.reduceLT, Nat.reduceLeDiff, reduceCtorEq]
      · refine IW.exit ?_
        show IW _ _ _ _ _ _ _ _
        repeat refine IW.seq ?_
        refine IW.region_seq tab_ok [some 4] rfl fun X K hX hK => ?_
        simp only [go_sem, if_true, if_false, reduceIte, Nat.reduceEqDiff, Nat.reduceAdd, Nat.reduceLT, Nat.reduceLeDiff, reduceCtorEq]
        refine hK _ _ ?_; clear hX hK X K
        show IW _ _ _ _ _ _ _ _
        refine IW.ret (Fin.scal rfl rfl ?_)
        show SV.int .i64 (-1) = SV.int .i64 _
        rw [hp, List.drop_eq_nil_of_le (by simp only [decide_eq_false_iff_not] at hb1; omega)]; rfl
theorem fContainsFunc (xs : List Int) (hl : xs.length ≤ 1000000) : FSpec Try.prog 83 [.sl true (nums .u8 xs), .clo 84 []] (.bool (!xs.all fun x => decide (x ≤ 1))) [] := by
  obtain ⟨n, hn, hs⟩ := fIndexFunc xs hl
  refine FSpec.intro tab_ok Try.func83 rfl rfl rfl (by kernel_rfl) (by simp) fun w0 => ?_
  simp only [argTM, Nat.zero_add, Nat.reduceAdd]
  repeat refine IW.seq ?_
  refine IW.region_seq tab_ok [some 4] rfl fun X K hX hK => ?_
  simp only [go_sem, if_true, if_false, reduceIte, Nat.reduceEqDiff, Nat.reduceAdd, Nat.reduceLT, Nat.reduceLeDiff, reduceCtorEq]
  refine hK _ _ ?_; clear hX hK X K
  show IW _ _ _ _ _ _ _ _
  repeat refine IW.seq ?_
  refine IW.region_seq tab_ok [some 5, some 6, some 7, some 8, some 4] rfl fun X K hX hK => ?_
  simp only [go_sem, if_true, if_false, reduceIte, Nat.reduceEqDiff, Nat.reduceAdd, Nat.reduceLT, Nat.reduceLeDiff, reduceCtorEq]
  refine hX.quiet _ _ (OpG.of_B rfl (opB_call rfl rfl (FSpec.nz (hs) (by simp [go_sem, if_true, if_false, reduceIte, Nat.reduceEqDiff, Nat.reduceAdd, Nat.reduceLT, Nat.reduceLeDiff, reduceCtorEq, List.map_cons, List.map_nil, List.append_nil, opnd, unc])))) ?_
  simp only [go_sem, if_true, if_false, reduceIte, Nat.reduceEqDiff, Nat.reduceAdd, Nat.reduceLT, Nat.reduceLeDiff, reduceCtorEq]
  refine hK _ _ ?_; clear hX hK X K
  show IW _ _ _ _ _ _ _ _
  refine IW.ret (Fin.scal rfl rfl ?_)
  show SV.bool (decide (0 ≤ n)) = SV.bool _
  congr 1
  by_cases h : 0 ≤ n
  · simp only [h, decide_true, hn.1 h, Bool.not_false]
  · have : (xs.all fun x => decide (x ≤ 1)) = true := by
      cases e : (xs.all fun x => decide (x ≤ 1)) with
      | true => rfl
      | false => exact absurd (hn.2 e) h
    simp only [h, decide_false, this, Bool.not_true]
theorem iRight (W H : Int) (pix : List Int) (hl : pix.length ≤ 1000000) : FSpec Try.prog 67 [img W H pix] (.bool (rightS W H pix)) [] := by
  refine FSpec.intro tab_ok Try.func67 rfl rfl rfl (by kernel_rfl) (by simp) fun w0 => ?_
  simp only [argTM, Nat.zero_add, Nat.reduceAdd]
  simp only [img]
  repeat refine IW.seq ?_
  refine IW.region_seq tab_ok [some 1, some 2] rfl fun X K hX hK => ?_
  simp only [go_sem, if_true, if_false, reduceIte, Nat.reduceEqDiff, Nat.reduceAdd, Nat.reduceLT, Nat.reduceLeDiff, reduceCtorEq]
  refine hK _ _ ?_; clear hX hK X K
  show IW _ _ _ _ _ _ _ _
  repeat refine IW.seq ?_
  refine IW.region_seq tab_ok [some 3, some 4, some 5, some 6, some 7, some 8, some 9, some 10, some 11, some 12, some 13, some 14, some 15, some 16, some 17, some 18, some 19, some 20, some 21, some 22, some 23, some 24, some 25, some 26, some 27, some 28, some 29, some 30, some 31, some 32, some 33, some 34, some 35, some 36, some 37, some 38] rfl fun X K hX hK => ?_
  simp only [go_sem, if_true, if_false, reduceIte, Nat.reduceEqDiff, Nat.reduceAdd, Nat.reduceLT, Nat.reduceLeDiff, reduceCtorEq]
  refine hK _ _ ?_; clear hX hK X K
  show IW _ _ _ _ _ _ _ _
  repeat refine IW.seq ?_
  refine IW.cond rfl (fun hb => ?_) (fun hb => ?_) <;> rw [right_shape] at hb
  · repeat refine IW.seq ?_
    refine IW.region_seq tab_ok [some 2] rfl fun X K hX hK => ?_
    simp only [go_sem, if_true, if_false, reduceIte, Nat.reduceEqDiff, Nat.reduceAdd, Nat.reduceLT, Nat.reduceLeDiff, reduceCtorEq]
    refine hK _ _ ?_; clear hX hK X K
    show IW _ _ _ _ _ _ _ _
    refine IW.ret (Fin.scal rfl rfl ?_)
    rw [Bool.not_eq_true'] at hb
    show SV.bool false = SV.bool _
    rw [rightS, hb]; rfl
  · rw [Bool.not_eq_false'] at hb
    refine IW.skip ?_
    show IW _ _ _ _ _ _ _ _
    repeat refine IW.seq ?_
    refine IW.region_seq tab_ok [some 39, some 40, some 41, some 42, some 43, some 2] rfl fun X K hX hK => ?_
    simp only [go_sem, if_true, if_false, reduceIte, Nat.reduceEqDiff, Nat.reduceAdd, Nat.reduceLT, Nat.reduceLeDiff, reduceCtorEq]
    refine hX.quiet _ _ (OpG.of_B rfl (opB_call rfl rfl (FSpec.nz (fContainsFunc pix hl) (by simp [go_sem, if_true, if_false, reduceIte, Nat.reduceEqDiff, Nat.reduceAdd, Nat.reduceLT, Nat.reduceLeDiff, reduceCtorEq, List.map_cons, List.map_nil, List.append_nil, opnd, unc])))) ?_
    simp only [go_sem, if_true, if_false, reduceIte, Nat.reduceEqDiff, Nat.reduceAdd, Nat.reduceLT, Nat.reduceLeDiff, reduceCtorEq]
    refine hK _ _ ?_; clear hX hK X K
    show IW _ _ _ _ _ _ _ _
    refine IW.ret (Fin.scal rfl rfl ?_)
    show SV.bool _ = SV.bool _
    rw [rightS, hb]; simp
theorem fRight (W H : Int) (pix : List Int) (hl : pix.length ≤ 1000000) : FSpec Try.prog 34 [ink W H pix] (.bool (rightS W H pix)) [] := by
  refine FSpec.intro tab_ok Try.func34 rfl rfl rfl (by kernel_rfl) (by simp) fun w0 => ?_
  simp only [argTM, Nat.zero_add, Nat.reduceAdd]
  simp only [ink]
  repeat refine IW.seq ?_
  refine IW.region_seq tab_ok [some 1, some 2] rfl fun X K hX hK => ?_
  simp only [go_sem, if_true, if_false, reduceIte, Nat.reduceEqDiff, Nat.reduceAdd, Nat.reduceLT, Nat.reduceLeDiff, reduceCtorEq]
  refine hK _ _ ?_; clear hX hK X K
  show IW _ _ _ _ _ _ _ _
  repeat refine IW.seq ?_
  refine IW.region_seq tab_ok [some 3, some 4, some 5, some 2] rfl fun X K hX hK => ?_
  simp only [go_sem, if_true, if_false, reduceIte, Nat.reduceEqDiff, Nat.reduceAdd, Nat.reduceLT, Nat.reduceLeDiff, reduceCtorEq]
  refine hX.quiet _ _ (OpG.of_B rfl (opB_call rfl rfl (FSpec.nz (iRight W H pix hl) (by simp [go_sem, if_true, if_false, reduceIte, Nat.reduceEqDiff, Nat.reduceAdd, Nat.reduceLT, Nat.reduceLeDiff, reduceCtorEq, List.map_cons, List.map_nil, List.append_nil, opnd, unc])))) ?_
  simp only [go_sem, if_true, if_false, reduceIte, Nat.reduceEqDiff, Nat.reduceAdd, Nat.reduceLT, Nat.reduceLeDiff, reduceCtorEq]
  refine hK _ _ ?_; clear hX hK X K
  show IW _ _ _ _ _ _ _ _
  refine IW.ret (Fin.scal rfl rfl ?_)
  rfl
end Go.Proofs.Ytnbpbehlemaeoaa

set_option linter.unusedVariables false
set_option linter.unusedSimpArgs false
set_option maxRecDepth 10000
namespace Go.Proofs.Ytnbpbehlemaeoaa
open Go.IL
theorem succ_wrap {i n : Nat} (h : i < n) (hn : n ≤ 9223372036854775807) : IntKind.i64.wrap ((i : Int) + 1) = ((i + 1 : Nat) : Int) := (wrap_eq (by omega) (by omega)).trans (by omega)
theorem divw {a b : Nat} (h : a ≤ 9223372036854775807) : IntKind.i64.wrap ((a : Int).tdiv (b : Int)) = ((a / b : Nat) : Int) := by
  have := Nat.div_le_self a b
  rw [← Int.ofNat_tdiv]
  generalize a / b = q at *
  exact wrap_eq (by omega) (by omega)
theorem fMiss (W H : Int) (p : List Int) (W' H' : Int) (q : List Int) (hl : p.length ≤ 1000000) (hl' : q.length ≤ 1000000) : FSpec Try.prog 23 [ink W H p, ink W' H' q] (.int .i64 (missS W H p W' H' q)) [] := by
  refine FSpec.intro tab_ok Try.func23 rfl rfl rfl (by kernel_rfl) (by simp) fun w0 => ?_
  simp only [argTM, Nat.zero_add, Nat.reduceAdd]
  simp only [ink]
  repeat refine IW.seq ?_
  refine IW.region_seq tab_ok [some 2, some 3, some 4] rfl fun X K hX hK => ?_
  simp only [go_sem, if_true, if_false, reduceIte, Nat.reduceEqDiff, Nat.reduceAdd, Nat.reduceLT, Nat.reduceLeDiff, reduceCtorEq]
  refine hK _ _ ?_; clear hX hK X K
  show IW _ _ _ _ _ _ _ _
  repeat refine IW.seq ?_
  refine IW.region_seq tab_ok [some 8, some 9, some 10, some 11, some 12, some 13, some 14, some 15, some 16, some 17, some 18, some 19, some 20, some 21, some 22, some 23, some 24, some 25, some 26, some 27, some 28, some 29] rfl fun X K hX hK => ?_
  simp only [go_sem, if_true, if_false, reduceIte, Nat.reduceEqDiff, Nat.reduceAdd, Nat.reduceLT, Nat.reduceLeDiff, reduceCtorEq]
  refine hX.quiet _ _ (OpG.of_B rfl (opB_call rfl rfl (FSpec.nz (fRight W H p hl) (by simp [go_sem, if_true, if_false, reduceIte, Nat.reduceEqDiff, Nat.reduceAdd, Nat.reduceLT, Nat.reduceLeDiff, reduceCtorEq, List.map_cons, List.map_nil, List.append_nil, opnd, unc])))) ?_
  simp only [go_sem, if_true, if_false, reduceIte, Nat.reduceEqDiff, Nat.reduceAdd, Nat.reduceLT, Nat.reduceLeDiff, reduceCtorEq]
  refine hX.quiet _ _ (OpG.of_BG rfl rfl rfl (by first | (simp only [go_sem, if_true, if_false, reduceIte, Nat.reduceEqDiff, Nat.reduceAdd, Nat.reduceLT, Nat.reduceLeDiff, reduceCtorEq]; done) | (simp [go_sem, if_true, if_false, reduceIte, Nat.reduceEqDiff, Nat.reduceAdd, Nat.reduceLT, Nat.reduceLeDiff, reduceCtorEq] <;> (intros; simp_all))) fun hc => opB_call rfl rfl (FSpec.nz (fRight W' H' q hl') (by simp [go_sem, if_true, if_false, reduceIte, Nat.reduceEqDiff, Nat.reduceAdd, Nat.reduceLT, Nat.reduceLeDiff, reduceCtorEq, List.map_cons, List.map_nil, List.append_nil, opnd, unc]))) ?_
  simp only [go_sem, if_true, if_false, reduceIte, Nat.reduceEqDiff, Nat.reduceAdd, Nat.reduceLT, Nat.reduceLeDiff, reduceCtorEq]
  refine hK _ _ ?_; clear hX hK X K
  show IW _ _ _ _ _ _ _ _
  repeat refine IW.seq ?_
  refine IW.cond rfl (fun hb => ?_) (fun hb => ?_) <;> rw [miss_shape] at hb
  · repeat refine IW.seq ?_
    refine IW.region_seq tab_ok [some 4] rfl fun X K hX hK => ?_
    simp only [go_sem, if_true, if_false, reduceIte, Nat.reduceEqDiff, Nat.reduceAdd, Nat.reduceLT, Nat.reduceLeDiff, reduceCtorEq]
    refine hK _ _ ?_; clear hX hK X K
    show IW _ _ _ _ _ _ _ _
    refine IW.ret (Fin.scal rfl rfl ?_)
    simp only [Bool.not_eq_true', decide_eq_false_iff_not] at hb
    show SV.int .i64 (-1) = SV.int .i64 _
    rw [missS, if_neg hb]
  · refine IW.skip ?_
    show IW _ _ _ _ _ _ _ _
    simp only [Bool.not_eq_false', decide_eq_true_eq] at hb
    have hlen : p.length = q.length := by
      have h1 := (right_len hb.1).1
      have h2 := (right_len hb.2.1).1
      rw [hb.2.2.1, hb.2.2.2] at h1
      omega
    repeat refine IW.seq ?_
    refine IW.region_seq tab_ok [some 5] rfl fun X K hX hK => ?_
    simp only [go_sem, if_true, if_false, reduceIte, Nat.reduceEqDiff, Nat.reduceAdd, Nat.reduceLT, Nat.reduceLeDiff, reduceCtorEq]
    refine hK _ _ ?_; clear hX hK X K
    show IW _ _ _ _ _ _ _ _
    repeat refine IW.seq ?_
    refine IW.region_seq tab_ok [some 30, some 31, some 32, some 33] rfl fun X K hX hK => ?_
    simp only [go_sem, if_true, if_false, reduceIte, Nat.reduceEqDiff, Nat.reduceAdd, Nat.reduceLT, Nat.reduceLeDiff, reduceCtorEq]
    refine hK _ _ ?_; clear hX hK X K
    show IW _ _ _ _ _ _ _ _
    refine IW.block ?_
    refine IW.loop (α := {i : Nat // i ≤ p.length}) (fun i => [(2, .ptr 0 0 0), (3, .ptr 1 0 0), (31, .sl true (nums .u8 p)), (32, .int .i64 p.length), (5, .int .i64 (cnt p q i)), (33, .int .i64 i.1)]) (fun _ => [some ⟨3, 33, [[.int .i64 W, .int .i64 H, .sl true (nums .u8 p)]]⟩, some ⟨3, 33, [[.int .i64 W', .int .i64 H', .sl true (nums .u8 q)]]⟩]) (fun i => p.length - i.1) ⟨0, by omega⟩ ?_ fun ⟨i, hi⟩ => ?_
    · refine Ent.cut ?_ ?_ <;> simp only [go_sem, if_true, if_false, reduceIte, Nat.reduceEqDiff, Nat.reduceAdd, Nat.reduceLT, Nat.reduceLeDiff, reduceCtorEq, cnt]
    · simp only []
      have hc := cnt_bd p q i
      repeat refine IW.seq ?_
      refine IW.region_seq tab_ok [some 34] rfl fun X K hX hK => ?_
      simp only [go_sem, if_true, if_false, reduceIte, Nat.reduceEqDiff, Nat.reduceAdd, Nat.reduceLT, Nat.reduceLeDiff, reduceCtorEq]
      refine hK _ _ ?_; clear hX hK X K
      show IW _ _ _ _ _ _ _ _
      repeat refine IW.seq ?_
      refine IW.cond rfl (fun hb1 => ?_) (fun hb1 => ?_)
      · refine IW.skip ?_
        show IW _ _ _ _ _ _ _ _
        simp only [decide_eq_true_eq] at hb1
        have hlt : i < p.length := by omega
        have hlt' : i < q.length := by omega
        refine IW.seq (IW.block ?_)
        repeat refine IW.seq ?_
        refine IW.region_seq tab_ok [some 35, some 36, some 37, some 6, some 7] rfl fun X K hX hK => ?_
        simp only [go_sem, if_true, if_false, reduceIte, Nat.reduceEqDiff, Nat.reduceAdd, Nat.reduceLT, Nat.reduceLeDiff, reduceCtorEq, Int.toNat_natCast, nums_at hlt]
        refine ⟨⟨by omega, by omega⟩, ?_⟩
        refine hK _ _ ?_; clear hX hK X K
        show IW _ _ _ _ _ _ _ _
        repeat refine IW.seq ?_
        refine IW.region_seq tab_ok [some 38, some 39, some 40, some 41, some 42, some 43, some 44] rfl fun X K hX hK => ?_
        simp only [go_sem, if_true, if_false, reduceIte, Nat.reduceEqDiff, Nat.reduceAdd, Nat.reduceLT, Nat.reduceLeDiff, reduceCtorEq, Int.toNat_natCast, nums_at hlt']
        refine ⟨⟨by omega, by omega⟩, ?_⟩
        refine hK _ _ ?_; clear hX hK X K
        show IW _ _ _ _ _ _ _ _
        have e1 := succ_wrap hlt (by omega)
        have e2 : IntKind.i64.wrap (cnt p q i + 1) = cnt p q i + 1 := wrap_eq (by omega) (by omega)
        repeat refine IW.seq ?_
        refine IW.cond rfl (fun hb2 => ?_) (fun hb2 => ?_)
        · repeat refine IW.seq ?_
          refine IW.region_seq tab_ok [some 45, some 46, some 5] rfl fun X K hX hK => ?_
          simp only [go_sem, if_true, if_false, reduceIte, Nat.reduceEqDiff, Nat.reduceAdd, Nat.reduceLT, Nat.reduceLeDiff, reduceCtorEq, e2]
          refine hK _ _ ?_; clear hX hK X K
          show IW _ _ _ _ _ _ _ _
          repeat refine IW.seq ?_
          refine IW.region_seq tab_ok [some 47, some 33] rfl fun X K hX hK => ?_
          simp only [go_sem, if_true, if_false, reduceIte, Nat.reduceEqDiff, Nat.reduceAdd, Nat.reduceLT, Nat.reduceLeDiff, reduceCtorEq, e1]
          refine hK _ _ ⟨⟨i + 1, hlt⟩, by simp only []; omega, ?_⟩
          simp only [bne_iff_ne, ne_eq] at hb2
          refine Ent.cut ?_ ?_ <;> simp only [go_sem, if_true, if_false, reduceIte, Nat.reduceEqDiff, Nat.reduceAdd, Nat.reduceLT, Nat.reduceLeDiff, reduceCtorEq, cnt, ne_eq, hb2, not_false_eq_true]
        · refine IW.skip ?_
          show IW _ _ _ _ _ _ _ _
          repeat refine IW.seq ?_
          refine IW.region_seq tab_ok [some 47, some 33] rfl fun X K hX hK => ?_
          simp only [go_sem, if_true, if_false, reduceIte, Nat.reduceEqDiff, Nat.reduceAdd, Nat.reduceLT, Nat.reduceLeDiff, reduceCtorEq, e1]
          refine hK _ _ ⟨⟨i + 1, hlt⟩, by simp only []; omega, ?_⟩
          simp only [bne_eq_false_iff_eq] at hb2
          refine Ent.cut ?_ ?_ <;> simp only [go_sem, if_true, if_false, reduceIte, Nat.reduceEqDiff, Nat.reduceAdd, Nat.reduceLT, Nat.reduceLeDiff, reduceCtorEq, cnt, hb2, ne_eq, not_true_eq_false, Int.add_zero]
      · refine IW.exit ?_
        show IW _ _ _ _ _ _ _ _
        repeat refine IW.seq ?_
        refine IW.region_seq tab_ok [some 48, some 4] rfl fun X K hX hK => ?_
        simp only [go_sem, if_true, if_false, reduceIte, Nat.reduceEqDiff, Nat.reduceAdd, Nat.reduceLT, Nat.reduceLeDiff, reduceCtorEq]
        refine hK _ _ ?_; clear hX hK X K
        show IW _ _ _ _ _ _ _ _
        refine IW.ret (Fin.scal rfl rfl ?_)
        simp only [decide_eq_false_iff_not] at hb1
        have : i = p.length := by omega
        subst this
        show SV.int .i64 _ = SV.int .i64 _
        rw [missS, if_pos hb]
/-- The fraction of those that are equal, n being different. -/
def ratS (n : Int) (all : Nat) : Int × Int :=
  if n < 0 then (0, 1) else if all = 0 then (1, 1) else let a := all - n.toNat; let g := Nat.gcd a all; ((a / g : Nat), (all / g : Nat))
def ratV (r : Int × Int) : SV := .agg [.int .i64 r.1, .int .i64 r.2]
attribute [go_sem] ratV
theorem missS_bd (W H : Int) (p : List Int) (W' H' : Int) (q : List Int) : missS W H p W' H' q ≤ p.length ∧ -1 ≤ missS W H p W' H' q := by
  have := cnt_bd p q p.length
  unfold missS; split <;> omega
theorem fShare (W H : Int) (p : List Int) (W' H' : Int) (q : List Int) (hl : p.length ≤ 1000000) (hl' : q.length ≤ 1000000) : FSpec Try.prog 25 [ink W H p, ink W' H' q] (ratV (ratS (missS W H p W' H' q) p.length)) [] := by
  have hm := missS_bd W H p W' H' q
  have hs := fMiss W H p W' H' q hl hl'
  generalize missS W H p W' H' q = n at *
  refine FSpec.intro tab_ok Try.func25 rfl rfl rfl (by kernel_rfl) (by simp) fun w0 => ?_
  simp only [argTM, Nat.zero_add, Nat.reduceAdd]
  simp only [ink]
  repeat refine IW.seq ?_
  refine IW.region_seq tab_ok [some 2, some 3, some 4] rfl fun X K hX hK => ?_
  simp only [go_sem, if_true, if_false, reduceIte, Nat.reduceEqDiff, Nat.reduceAdd, Nat.reduceLT, Nat.reduceLeDiff, reduceCtorEq]
  refine hK _ _ ?_; clear hX hK X K
  show IW _ _ _ _ _ _ _ _
  repeat refine IW.seq ?_
  refine IW.region_seq tab_ok [some 9, some 10, some 11, some 5] rfl fun X K hX hK => ?_
  simp only [go_sem, if_true, if_false, reduceIte, Nat.reduceEqDiff, Nat.reduceAdd, Nat.reduceLT, Nat.reduceLeDiff, reduceCtorEq]
  refine hX.quiet _ _ (OpG.of_B rfl (opB_call rfl rfl (FSpec.nz (hs) (by simp [go_sem, if_true, if_false, reduceIte, Nat.reduceEqDiff, Nat.reduceAdd, Nat.reduceLT, Nat.reduceLeDiff, reduceCtorEq, List.map_cons, List.map_nil, List.append_nil, opnd, unc])))) ?_
  simp only [go_sem, if_true, if_false, reduceIte, Nat.reduceEqDiff, Nat.reduceAdd, Nat.reduceLT, Nat.reduceLeDiff, reduceCtorEq]
  refine hK _ _ ?_; clear hX hK X K
  show IW _ _ _ _ _ _ _ _
  repeat refine IW.seq ?_
  refine IW.region_seq tab_ok [some 12, some 13] rfl fun X K hX hK => ?_
  simp only [go_sem, if_true, if_false, reduceIte, Nat.reduceEqDiff, Nat.reduceAdd, Nat.reduceLT, Nat.reduceLeDiff, reduceCtorEq]
  refine hK _ _ ?_; clear hX hK X K
  show IW _ _ _ _ _ _ _ _
  repeat refine IW.seq ?_
  refine IW.cond rfl (fun hb => ?_) (fun hb => ?_)
  · repeat refine IW.seq ?_
    refine IW.region_seq tab_ok [some 14, none] rfl fun X K hX hK => ?_
    simp only [go_sem, if_true, if_false, reduceIte, Nat.reduceEqDiff, Nat.reduceAdd, Nat.reduceLT, Nat.reduceLeDiff, reduceCtorEq]
    refine hX.op _ _ rfl (opS_store tab_ok rfl (by simp [go_sem, if_true, if_false, reduceIte, Nat.reduceEqDiff, Nat.reduceAdd, Nat.reduceLT, Nat.reduceLeDiff, reduceCtorEq]) (by simp [go_sem, if_true, if_false, reduceIte, Nat.reduceEqDiff, Nat.reduceAdd, Nat.reduceLT, Nat.reduceLeDiff, reduceCtorEq]) (by simp [go_sem, if_true, if_false, reduceIte, Nat.reduceEqDiff, Nat.reduceAdd, Nat.reduceLT, Nat.reduceLeDiff, reduceCtorEq]) (by simp [go_sem, if_true, if_false, reduceIte, Nat.reduceEqDiff, Nat.reduceAdd, Nat.reduceLT, Nat.reduceLeDiff, reduceCtorEq]) (by simp [go_sem, if_true, if_false, reduceIte, Nat.reduceEqDiff, Nat.reduceAdd, Nat.reduceLT, Nat.reduceLeDiff, reduceCtorEq]) (by simp [go_sem, if_true, if_false, reduceIte, Nat.reduceEqDiff, Nat.reduceAdd, Nat.reduceLT, Nat.reduceLeDiff, reduceCtorEq])) ?_
    simp only [go_sem, if_true, if_false, reduceIte, Nat.reduceEqDiff, Nat.reduceAdd, Nat.reduceLT, Nat.reduceLeDiff, reduceCtorEq]
    refine hK _ _ ?_; clear hX hK X K
    show IW _ _ _ _ _ _ _ _
    refine IW.ret (Fin.cell ⟨trivial, by simp [go_sem, if_true, if_false, reduceIte, Nat.reduceEqDiff, Nat.reduceAdd, Nat.reduceLT, Nat.reduceLeDiff, reduceCtorEq]⟩ rfl rfl ?_)
    simp only [decide_eq_true_eq] at hb
    simp [go_sem, if_true, if_false, reduceIte, Nat.reduceEqDiff, Nat.reduceAdd, Nat.reduceLT, Nat.reduceLeDiff, reduceCtorEq, ratS, hb]
  · refine IW.skip ?_
    show IW _ _ _ _ _ _ _ _
    repeat refine IW.seq ?_
    refine IW.region_seq tab_ok [some 15, some 16, some 17, some 6] rfl fun X K hX hK => ?_
    simp only [go_sem, if_true, if_false, reduceIte, Nat.reduceEqDiff, Nat.reduceAdd, Nat.reduceLT, Nat.reduceLeDiff, reduceCtorEq]
    refine hK _ _ ?_; clear hX hK X K
    show IW _ _ _ _ _ _ _ _
    repeat refine IW.seq ?_
    refine IW.region_seq tab_ok [some 18, some 19] rfl fun X K hX hK => ?_
    simp only [go_sem, if_true, if_false, reduceIte, Nat.reduceEqDiff, Nat.reduceAdd, Nat.reduceLT, Nat.reduceLeDiff, reduceCtorEq]
    refine hK _ _ ?_; clear hX hK X K
    show IW _ _ _ _ _ _ _ _
    repeat refine IW.seq ?_
    refine IW.cond rfl (fun hb2 => ?_) (fun hb2 => ?_)
    · repeat refine IW.seq ?_
      refine IW.region_seq tab_ok [some 20, none] rfl fun X K hX hK => ?_
      simp only [go_sem, if_true, if_false, reduceIte, Nat.reduceEqDiff, Nat.reduceAdd, Nat.reduceLT, Nat.reduceLeDiff, reduceCtorEq]
      refine hX.op _ _ rfl (opS_store tab_ok rfl (by simp [go_sem, if_true, if_false, reduceIte, Nat.reduceEqDiff, Nat.reduceAdd, Nat.reduceLT, Nat.reduceLeDiff, reduceCtorEq]) (by simp [go_sem, if_true, if_false, reduceIte, Nat.reduceEqDiff, Nat.reduceAdd, Nat.reduceLT, Nat.reduceLeDiff, reduceCtorEq]) (by simp [go_sem, if_true, if_false, reduceIte, Nat.reduceEqDiff, Nat.reduceAdd, Nat.reduceLT, Nat.reduceLeDiff, reduceCtorEq]) (by simp [go_sem, if_true, if_false, reduceIte, Nat.reduceEqDiff, Nat.reduceAdd, Nat.reduceLT, Nat.reduceLeDiff, reduceCtorEq]) (by simp [go_sem, if_true, if_false, reduceIte, Nat.reduceEqDiff, Nat.reduceAdd, Nat.reduceLT, Nat.reduceLeDiff, reduceCtorEq]) (by simp [go_sem, if_true, if_false, reduceIte, Nat.reduceEqDiff, Nat.reduceAdd, Nat.reduceLT, Nat.reduceLeDiff, reduceCtorEq])) ?_
      simp only [go_sem, if_true, if_false, reduceIte, Nat.reduceEqDiff, Nat.reduceAdd, Nat.reduceLT, Nat.reduceLeDiff, reduceCtorEq]
      refine hK _ _ ?_; clear hX hK X K
      show IW _ _ _ _ _ _ _ _
      refine IW.ret (Fin.cell ⟨trivial, by simp [go_sem, if_true, if_false, reduceIte, Nat.reduceEqDiff, Nat.reduceAdd, Nat.reduceLT, Nat.reduceLeDiff, reduceCtorEq]⟩ rfl rfl ?_)
      simp only [beq_iff_eq, decide_eq_true_eq, decide_eq_false_iff_not] at hb hb2
      have : p.length = 0 := by omega
      simp [go_sem, if_true, if_false, reduceIte, Nat.reduceEqDiff, Nat.reduceAdd, Nat.reduceLT, Nat.reduceLeDiff, reduceCtorEq, ratS, hb, this]
    · refine IW.skip ?_
      show IW _ _ _ _ _ _ _ _
      simp only [beq_eq_false_iff_ne, ne_eq, decide_eq_false_iff_not] at hb hb2
      obtain ⟨m, rfl⟩ : ∃ m : Nat, n = m := ⟨n.toNat, by omega⟩
      have e1 : IntKind.i64.wrap ((p.length : Int) - (m : Int)) = ((p.length - m : Nat) : Int) := (wrap_eq (by omega) (by omega)).trans (by omega)
      repeat refine IW.seq ?_
      refine IW.region_seq tab_ok [some 21, some 22, some 23, some 24, some 7, some 8] rfl fun X K hX hK => ?_
      simp only [go_sem, if_true, if_false, reduceIte, Nat.reduceEqDiff, Nat.reduceAdd, Nat.reduceLT, Nat.reduceLeDiff, reduceCtorEq, e1]
      refine hK _ _ ?_; clear hX hK X K
      show IW _ _ _ _ _ _ _ _
      refine IW.seq (IW.block ?_)
      refine IW.loop (α := {x : Nat × Nat // Nat.gcd x.1 x.2 = Nat.gcd (p.length - m) p.length ∧ x.1 ≤ p.length ∧ x.2 ≤ p.length}) (fun x => [(4, .ptr 2 0 0), (5, .int .i64 m), (6, .int .i64 p.length), (7, .int .i64 x.1.1), (8, .int .i64 x.1.2)]) (fun _ => [none, none, some ⟨2, 44, [[.int .i64 0, .int .i64 0]]⟩]) (fun x => x.1.1) ⟨(p.length - m, p.length), rfl, by simp only []; omega, Nat.le_refl _⟩ ?_ fun ⟨⟨x, y⟩, hg, hx, hy⟩ => ?_
      · refine Ent.cut ?_ ?_ <;> simp only [go_sem, if_true, if_false, reduceIte, Nat.reduceEqDiff, Nat.reduceAdd, Nat.reduceLT, Nat.reduceLeDiff, reduceCtorEq]
      · simp only [] at hg hx hy ⊢
        repeat refine IW.seq ?_
        refine IW.region_seq tab_ok [some 25, some 26] rfl fun X K hX hK => ?_
        simp only [go_sem, if_true, if_false, reduceIte, Nat.reduceEqDiff, Nat.reduceAdd, Nat.reduceLT, Nat.reduceLeDiff, reduceCtorEq]
        refine hK _ _ ?_; clear hX hK X K
        show IW _ _ _ _ _ _ _ _
        repeat refine IW.seq ?_
        refine IW.cond rfl (fun hb3 => ?_) (fun hb3 => ?_)
        · refine IW.skip ?_
          show IW _ _ _ _ _ _ _ _
          simp only [bne_iff_ne, ne_eq] at hb3
          have h0 : x ≠ 0 := by omega
          refine IW.block ?_
          have e2 : (y : Int).tmod (x : Int) = ((y % x : Nat) : Int) := (Int.ofNat_tmod y x).symm
          repeat refine IW.seq ?_
          refine IW.region_seq tab_ok [some 27, some 28, some 29, some 30, some 7, some 8] rfl fun X K hX hK => ?_
          simp only [go_sem, if_true, if_false, reduceIte, Nat.reduceEqDiff, Nat.reduceAdd, Nat.reduceLT, Nat.reduceLeDiff, reduceCtorEq, e2]
          have := Nat.mod_lt y (by omega : 0 < x)
          refine ⟨by omega, ?_⟩
          refine hK _ _ ⟨⟨(y % x, x), ?_, by simp only []; omega, hx⟩, by simp only []; omega, ?_⟩
          · rw [← hg]; exact (Nat.gcd_rec x y).symm
          · refine Ent.cut ?_ ?_ <;> simp only [go_sem, if_true, if_false, reduceIte, Nat.reduceEqDiff, Nat.reduceAdd, Nat.reduceLT, Nat.reduceLeDiff, reduceCtorEq]
        · refine IW.exit ?_
          show IW _ _ _ _ _ _ _ _
          simp only [bne_eq_false_iff_eq] at hb3
          have h0 : x = 0 := by omega
          subst h0
          rw [Nat.gcd_zero_left] at hg
          subst hg
          have hgp : 0 < Nat.gcd (p.length - m) p.length := Nat.gcd_pos_of_pos_right _ (by omega)
          generalize hG : Nat.gcd (p.length - m) p.length = g at *
          have e3 : IntKind.i64.wrap (((p.length - m : Nat) : Int).tdiv (g : Int)) = (((p.length - m) / g : Nat) : Int) := divw (by omega)
          have e4 : IntKind.i64.wrap ((p.length : Int).tdiv (g : Int)) = ((p.length / g : Nat) : Int) := divw (by omega)
          have hg0 : (g : Int) ≠ 0 := by omega
          repeat refine IW.seq ?_
          refine IW.region_draw tab_ok mixed [some 31, some 32, some 33, some 34, some 35, some 36, some 37, some 38, some 39, none] 9 (by kernel_rfl) rfl fun Xq Xs K hXq hXs hK K1 hK1 => ?_
          simp only [go_sem, if_true, if_false, reduceIte, Nat.reduceEqDiff, Nat.reduceAdd, Nat.reduceLT, Nat.reduceLeDiff, reduceCtorEq, e1, e3, e4]
          refine ⟨hg0, hg0, ?_⟩
          refine hK1 _ _ ?_; clear hXq hK1 K1 Xq
          simp only [List.drop_zero, List.drop_succ_cons, go_sem, if_true, if_false, reduceIte, Nat.reduceEqDiff, Nat.reduceAdd, Nat.reduceLT, Nat.reduceLeDiff, reduceCtorEq]
          refine hXs.op _ _ rfl (opS_store tab_ok rfl (by simp [go_sem, if_true, if_false, reduceIte, Nat.reduceEqDiff, Nat.reduceAdd, Nat.reduceLT, Nat.reduceLeDiff, reduceCtorEq]) (by simp [go_sem, if_true, if_false, reduceIte, Nat.reduceEqDiff, Nat.reduceAdd, Nat.reduceLT, Nat.reduceLeDiff, reduceCtorEq]) (by simp [go_sem, if_true, if_false, reduceIte, Nat.reduceEqDiff, Nat.reduceAdd, Nat.reduceLT, Nat.reduceLeDiff, reduceCtorEq]) (by simp [go_sem, if_true, if_false, reduceIte, Nat.reduceEqDiff, Nat.reduceAdd, Nat.reduceLT, Nat.reduceLeDiff, reduceCtorEq]) (by simp [go_sem, if_true, if_false, reduceIte, Nat.reduceEqDiff, Nat.reduceAdd, Nat.reduceLT, Nat.reduceLeDiff, reduceCtorEq]) (by simp [go_sem, if_true, if_false, reduceIte, Nat.reduceEqDiff, Nat.reduceAdd, Nat.reduceLT, Nat.reduceLeDiff, reduceCtorEq])) ?_
          simp only [go_sem, if_true, if_false, reduceIte, Nat.reduceEqDiff, Nat.reduceAdd, Nat.reduceLT, Nat.reduceLeDiff, reduceCtorEq]
          refine hK _ _ ?_; clear hXs hK K Xs
          show IW _ _ _ _ _ _ _ _
          refine IW.ret (Fin.cell ⟨trivial, by simp [go_sem, if_true, if_false, reduceIte, Nat.reduceEqDiff, Nat.reduceAdd, Nat.reduceLT, Nat.reduceLeDiff, reduceCtorEq]⟩ rfl rfl ?_)
          simp only [ratS, if_neg hb, if_neg (show ¬ p.length = 0 by omega), Int.toNat_natCast, hG]
          rfl
end Go.Proofs.Ytnbpbehlemaeoaa

set_option linter.unusedVariables false
set_option linter.unusedSimpArgs false
set_option maxRecDepth 10000
namespace Go.Proofs.Ytnbpbehlemaeoaa
open Go.IL
theorem refBlank (W H : Nat) (hb : W * H ≤ 1000000) (hw : W ≤ 1000000) (hh : H ≤ 1000000) : FSpec Try.prog 54 [.int .i64 W, .int .i64 H] (imgSV (some (W, H, List.replicate (W * H) 0))) (imgRows (some (W, H, List.replicate (W * H) 0))) := by
  refine FSpec.intro tab_ok Try.func54 rfl rfl rfl (by kernel_rfl) (by simp) fun w0 => ?_
  simp only [argTM, Nat.zero_add, Nat.reduceAdd]
  repeat refine IW.seq ?_
  refine IW.region_seq tab_ok [some 4] rfl fun X K hX hK => ?_
  simp only [go_sem, if_true, if_false, reduceIte, Nat.reduceEqDiff, Nat.reduceAdd, Nat.reduceLT, Nat.reduceLeDiff, reduceCtorEq]
  refine hK _ _ ?_; clear hX hK X K
  show IW _ _ _ _ _ _ _ _
  have e1 : IntKind.i64.wrap ((W : Int) * (H : Int)) = ((W * H : Nat) : Int) := by
    rw [← Int.natCast_mul]; exact wrap_eq (by omega) (by omega)
  repeat refine IW.seq ?_
  refine IW.region_seq tab_ok [some 5, some 6, some 7, some 8, some 9, some 10, some 11, none] rfl fun X K hX hK => ?_
  simp only [go_sem, if_true, if_false, reduceIte, Nat.reduceEqDiff, Nat.reduceAdd, Nat.reduceLT, Nat.reduceLeDiff, reduceCtorEq, e1]
  refine hX.quiet _ _ (OpG.of_B rfl (opB_makeSlice tab_ok (k := .i64) (n := W * H) (by simp only [go_sem, if_true, if_false, reduceIte, Nat.reduceEqDiff, Nat.reduceAdd, Nat.reduceLT, Nat.reduceLeDiff, reduceCtorEq]) rfl (by simp [go_sem, if_true, if_false, reduceIte, Nat.reduceEqDiff, Nat.reduceAdd, Nat.reduceLT, Nat.reduceLeDiff, reduceCtorEq]) (by simp [go_sem, if_true, if_false, reduceIte, Nat.reduceEqDiff, Nat.reduceAdd, Nat.reduceLT, Nat.reduceLeDiff, reduceCtorEq]; omega) (by omega))) ?_
  simp only [go_sem, if_true, if_false, reduceIte, Nat.reduceEqDiff, Nat.reduceAdd, Nat.reduceLT, Nat.reduceLeDiff, reduceCtorEq]
  refine hX.op _ _ rfl (opS_store tab_ok rfl (by simp [go_sem, if_true, if_false, reduceIte, Nat.reduceEqDiff, Nat.reduceAdd, Nat.reduceLT, Nat.reduceLeDiff, reduceCtorEq]) (by simp [go_sem, if_true, if_false, reduceIte, Nat.reduceEqDiff, Nat.reduceAdd, Nat.reduceLT, Nat.reduceLeDiff, reduceCtorEq]) (by simp [go_sem, if_true, if_false, reduceIte, Nat.reduceEqDiff, Nat.reduceAdd, Nat.reduceLT, Nat.reduceLeDiff, reduceCtorEq]) (by simp [go_sem, if_true, if_false, reduceIte, Nat.reduceEqDiff, Nat.reduceAdd, Nat.reduceLT, Nat.reduceLeDiff, reduceCtorEq]) (by simp [go_sem, if_true, if_false, reduceIte, Nat.reduceEqDiff, Nat.reduceAdd, Nat.reduceLT, Nat.reduceLeDiff, reduceCtorEq]) (by simp [go_sem, if_true, if_false, reduceIte, Nat.reduceEqDiff, Nat.reduceAdd, Nat.reduceLT, Nat.reduceLeDiff, reduceCtorEq])) ?_
  simp only [go_sem, if_true, if_false, reduceIte, Nat.reduceEqDiff, Nat.reduceAdd, Nat.reduceLT, Nat.reduceLeDiff, reduceCtorEq]
  refine hK _ _ ?_; clear hX hK X K
  show IW _ _ _ _ _ _ _ _
  refine IW.ret (Fin.cell1 1 ⟨trivial, by simp [go_sem, if_true, if_false, reduceIte, Nat.reduceEqDiff, Nat.reduceAdd, Nat.reduceLT, Nat.reduceLeDiff, reduceCtorEq]⟩ rfl (by simp [go_sem, if_true, if_false, reduceIte, Nat.reduceEqDiff, Nat.reduceAdd, Nat.reduceLT, Nat.reduceLeDiff, reduceCtorEq]) ?_ ?_)
  · simp [go_sem, if_true, if_false, reduceIte, Nat.reduceEqDiff, Nat.reduceAdd, Nat.reduceLT, Nat.reduceLeDiff, reduceCtorEq, imgSV]
  · simp [go_sem, if_true, if_false, reduceIte, Nat.reduceEqDiff, Nat.reduceAdd, Nat.reduceLT, Nat.reduceLeDiff, reduceCtorEq]
def hasS (l : List Int) (n : Int) : Bool := l.any fun x => x == n
theorem refHas (l : List Int) (n : Int) (hl : l.length ≤ 1000000) : FSpec Try.prog 69 [.sl true (nums .i64 l), .int .i64 n] (.bool (hasS l n)) [] := by
  refine FSpec.intro tab_ok Try.func69 rfl rfl rfl (by kernel_rfl) (by simp) fun w0 => ?_
  simp only [argTM, Nat.zero_add, Nat.reduceAdd]
  repeat refine IW.seq ?_
  refine IW.region_seq tab_ok [some 4] rfl fun X K hX hK => ?_
  simp only [go_sem, if_true, if_false, reduceIte, Nat.reduceEqDiff, Nat.reduceAdd, Nat.reduceLT, Nat.reduceLeDiff, reduceCtorEq]
  refine hK _ _ ?_; clear hX hK X K
  show IW _ _ _ _ _ _ _ _
  repeat refine IW.seq ?_
  refine IW.region_seq tab_ok [some 5] rfl fun X K hX hK => ?_
  simp only [go_sem, if_true, if_false, reduceIte, Nat.reduceEqDiff, Nat.reduceAdd, Nat.reduceLT, Nat.reduceLeDiff, reduceCtorEq]
  refine hK _ _ ?_; clear hX hK X K
  show IW _ _ _ _ _ _ _ _
  repeat refine IW.seq ?_
  refine IW.block ?_
  refine IW.loop (α := {i : Nat // i ≤ l.length ∧ ∀ j, j < i → l.getD j 0 ≠ n}) (fun i => [(0, .sl true (nums .i64 l)), (1, .int .i64 n), (5, .int .i64 i.1)]) (fun _ => []) (fun i => l.length - i.1) ⟨0, by omega, fun j h => absurd h (by omega)⟩ ?_ fun ⟨i, hi, hp⟩ => ?_
  · refine Ent.cut ?_ ?_ <;> simp only [go_sem, if_true, if_false, reduceIte, Nat.reduceEqDiff, Nat.reduceAdd, Nat.reduceLT, Nat.reduceLeDiff, reduceCtorEq]
  · simp only []
    repeat refine IW.seq ?_
    refine IW.region_seq tab_ok [some 6, some 7, some 8, some 9] rfl fun X K hX hK => ?_
    simp only [go_sem, if_true, if_false, reduceIte, Nat.reduceEqDiff, Nat.reduceAdd, Nat.reduceLT, Nat.reduceLeDiff, reduceCtorEq]
    refine hK _ _ ?_; clear hX hK X K
    show IW _ _ _ _ _ _ _ _
    repeat refine IW.seq ?_
    refine IW.cond rfl (fun hb1 => ?_) (fun hb1 => ?_)
    · refine IW.skip ?_
      show IW _ _ _ _ _ _ _ _
      simp only [decide_eq_true_eq] at hb1
      have hlt : i < l.length := by omega
      repeat refine IW.seq ?_
      refine IW.block ?_
      repeat refine IW.seq ?_
      refine IW.region_seq tab_ok [some 12, some 13, some 14, some 15, some 16, some 17] rfl fun X K hX hK => ?_
      simp only [go_sem, if_true, if_false, reduceIte, Nat.reduceEqDiff, Nat.reduceAdd, Nat.reduceLT, Nat.reduceLeDiff, reduceCtorEq, Int.toNat_natCast, nums_at hlt]
      refine ⟨⟨by omega, by omega⟩, ?_⟩
      refine hK _ _ ?_; clear hX hK X K
      show IW _ _ _ _ _ _ _ _
      repeat refine IW.seq ?_
      refine IW.cond rfl (fun hb2 => ?_) (fun hb2 => ?_)
      · repeat refine IW.seq ?_
        refine IW.region_seq tab_ok [some 4] rfl fun X K hX hK => ?_
        simp only [go_sem, if_true, if_false, reduceIte, Nat.reduceEqDiff, Nat.reduceAdd, Nat.reduceLT, Nat.reduceLeDiff, reduceCtorEq]
        refine hK _ _ ?_; clear hX hK X K
        show IW _ _ _ _ _ _ _ _
        refine IW.ret (Fin.scal rfl rfl ?_)
        show SV.bool true = SV.bool _
        simp only [beq_iff_eq] at hb2
        have : hasS l n = true := List.any_eq_true.2 ⟨_, getD_mem hlt, by simpa using hb2⟩
        rw [this]
      · refine IW.skip ?_
        show IW _ _ _ _ _ _ _ _
        repeat refine IW.seq ?_
        refine IW.region_seq tab_ok [some 10, some 11, some 5] rfl fun X K hX hK => ?_
        simp only [go_sem, if_true, if_false, reduceIte, Nat.reduceEqDiff, Nat.reduceAdd, Nat.reduceLT, Nat.reduceLeDiff, reduceCtorEq, succ_wrap hlt (by omega)]
        refine hK _ _ ⟨⟨i + 1, hlt, fun j hj => ?_⟩, by simp only []; omega, ?_⟩
        · rcases Nat.lt_succ_iff_lt_or_eq.1 hj with h | h
          · exact hp j h
          · subst h; simpa using hb2
        · refine Ent.cut ?_ ?_ <;> simp only [go_sem, if_true, if_false, reduceIte, Nat.reduceEqDiff, Nat.reduceAdd, Nat.reduceLT, Nat.reduceLeDiff, reduceCtorEq]
    · refine IW.exit ?_
      show IW _ _ _ _ _ _ _ _
      repeat refine IW.seq ?_
      refine IW.region_seq tab_ok [some 4] rfl fun X K hX hK => ?_
      simp only [go_sem, if_true, if_false, reduceIte, Nat.reduceEqDiff, Nat.reduceAdd, Nat.reduceLT, Nat.reduceLeDiff, reduceCtorEq]
      refine hK _ _ ?_; clear hX hK X K
      show IW _ _ _ _ _ _ _ _
      refine IW.ret (Fin.scal rfl rfl ?_)
      show SV.bool false = SV.bool _
      have : hasS l n = false := List.any_eq_false.2 fun x hx => by
        obtain ⟨j, hj, rfl⟩ := List.mem_iff_getElem.1 hx
        have := hp j (by simp only [decide_eq_false_iff_not] at hb1; omega)
        simpa [hj] using this
      rw [this]
/-- Images with lines. -/
def linedF (W : Nat) (p : List Int) (l : List Int) (t : Nat) : Int := if hasS l ((t / W : Nat) : Int) then 1 else p.getD t 0
def linedS (W H : Int) (p : List Int) (l : List Int) : Img := if rightS W H p then some (W.toNat, H.toNat, (List.range p.length).map (linedF W.toNat p l)) else none
theorem refAt (W H x y : Nat) (p : List Int) (hx : x < W) (hy : y < H) (hp : p.length = W * H) (hl : p.length ≤ 1000000) : FSpec Try.prog 68 [ink W H p, .int .i64 x, .int .i64 y] (.int .u8 (p.getD (y * W + x) 0)) [] := by
  have hlt : y * W + x < p.length := by
    have : (y + 1) * W ≤ H * W := Nat.mul_le_mul_right _ hy
    rw [Nat.add_mul] at this; rw [hp, Nat.mul_comm W H]; omega
  refine FSpec.intro tab_ok Try.func68 rfl rfl rfl (by kernel_rfl) (by simp) fun w0 => ?_
  simp only [argTM, Nat.zero_add, Nat.reduceAdd]
  repeat refine IW.seq ?_
  refine IW.region_seq tab_ok [some 3, some 6] rfl fun X K hX hK => ?_
  simp only [go_sem, if_true, if_false, reduceIte, Nat.reduceEqDiff, Nat.reduceAdd, Nat.reduceLT, Nat.reduceLeDiff, reduceCtorEq]
  refine hK _ _ ?_; clear hX hK X K
  show IW _ _ _ _ _ _ _ _
  repeat refine IW.seq ?_
  refine IW.region_seq tab_ok [some 7, some 8, some 9, some 10, some 11, some 12, some 13, some 14, some 15, some 16, some 17, some 18, some 19, some 20, some 21, some 22, some 23, some 24] rfl fun X K hX hK => ?_
  simp only [go_sem, if_true, if_false, reduceIte, Nat.reduceEqDiff, Nat.reduceAdd, Nat.reduceLT, Nat.reduceLeDiff, reduceCtorEq]
  refine hK _ _ ?_; clear hX hK X K
  show IW _ _ _ _ _ _ _ _
  repeat refine IW.seq ?_
  refine IW.cond rfl (fun hb => ?_) (fun hb => ?_)
  · exfalso; simp only [Bool.or_eq_true, decide_eq_true_eq] at hb; omega
  · refine IW.skip ?_
    show IW _ _ _ _ _ _ _ _
    have e1 : IntKind.i64.wrap ((y : Int) * (W : Int)) = ((y * W : Nat) : Int) := by
      rw [← Int.natCast_mul]; exact wrap_eq (by omega) (by omega)
    have e2 : IntKind.i64.wrap (((y * W : Nat) : Int) + (x : Int)) = ((y * W + x : Nat) : Int) := (wrap_eq (by omega) (by omega)).trans (by omega)
    repeat refine IW.seq ?_
    refine IW.region_seq tab_ok [some 25, some 26, some 27, some 28, some 29, some 30, some 31, some 32, some 33, some 34, some 6] rfl fun X K hX hK => ?_
    simp only [go_sem, if_true, if_false, reduceIte, Nat.reduceEqDiff, Nat.reduceAdd, Nat.reduceLT, Nat.reduceLeDiff, reduceCtorEq, e1, e2, Int.toNat_natCast, nums_at hlt]
    refine ⟨⟨by omega, by omega⟩, ?_⟩
    refine hK _ _ ?_; clear hX hK X K
    show IW _ _ _ _ _ _ _ _
    refine IW.ret (Fin.scal rfl rfl ?_)
    rfl
theorem refLined (W H : Int) (p l : List Int) (hl : p.length ≤ 1000000) (hll : l.length ≤ 1000000) : FSpec Try.prog 37 [ink W H p, .sl true (nums .i64 l)] (imgSV (linedS W H p l)) (imgRows (linedS W H p l)) := by
  refine FSpec.intro tab_ok Try.func37 rfl rfl rfl (by kernel_rfl) (by simp) fun w0 => ?_
  simp only [argTM, Nat.zero_add, Nat.reduceAdd]
  repeat refine IW.seq ?_
  refine IW.region_seq tab_ok [some 2, some 4] rfl fun X K hX hK => ?_
  simp only [go_sem, if_true, if_false, reduceIte, Nat.reduceEqDiff, Nat.reduceAdd, Nat.reduceLT, Nat.reduceLeDiff, reduceCtorEq]
  refine hK _ _ ?_; clear hX hK X K
  show IW _ _ _ _ _ _ _ _
  repeat refine IW.seq ?_
  refine IW.region_seq tab_ok [some 8, some 9, some 10] rfl fun X K hX hK => ?_
  simp only [go_sem, if_true, if_false, reduceIte, Nat.reduceEqDiff, Nat.reduceAdd, Nat.reduceLT, Nat.reduceLeDiff, reduceCtorEq]
  refine hX.quiet _ _ (OpG.of_B rfl (opB_call rfl rfl (FSpec.nz (refRight W H p hl) (by simp [go_sem, if_true, if_false, reduceIte, Nat.reduceEqDiff, Nat.reduceAdd, Nat.reduceLT, Nat.reduceLeDiff, reduceCtorEq, List.map_cons, List.map_nil, List.append_nil, opnd, unc])))) ?_
  simp only [go_sem, if_true, if_false, reduceIte, Nat.reduceEqDiff, Nat.reduceAdd, Nat.reduceLT, Nat.reduceLeDiff, reduceCtorEq]
  refine hK _ _ ?_; clear hX hK X K
  show IW _ _ _ _ _ _ _ _
  repeat refine IW.seq ?_
  refine IW.cond rfl (fun hb => ?_) (fun hb => ?_)
  · repeat refine IW.seq ?_
    refine IW.region_seq tab_ok [some 11, none] rfl fun X K hX hK => ?_
    simp only [go_sem, if_true, if_false, reduceIte, Nat.reduceEqDiff, Nat.reduceAdd, Nat.reduceLT, Nat.reduceLeDiff, reduceCtorEq]
    refine hX.op _ _ rfl (opS_store tab_ok rfl (by simp [go_sem, if_true, if_false, reduceIte, Nat.reduceEqDiff, Nat.reduceAdd, Nat.reduceLT, Nat.reduceLeDiff, reduceCtorEq]) (by simp [go_sem, if_true, if_false, reduceIte, Nat.reduceEqDiff, Nat.reduceAdd, Nat.reduceLT, Nat.reduceLeDiff, reduceCtorEq]) (by simp [go_sem, if_true, if_false, reduceIte, Nat.reduceEqDiff, Nat.reduceAdd, Nat.reduceLT, Nat.reduceLeDiff, reduceCtorEq]) (by simp [go_sem, if_true, if_false, reduceIte, Nat.reduceEqDiff, Nat.reduceAdd, Nat.reduceLT, Nat.reduceLeDiff, reduceCtorEq]) (by simp [go_sem, if_true, if_false, reduceIte, Nat.reduceEqDiff, Nat.reduceAdd, Nat.reduceLT, Nat.reduceLeDiff, reduceCtorEq]) (by simp [go_sem, if_true, if_false, reduceIte, Nat.reduceEqDiff, Nat.reduceAdd, Nat.reduceLT, Nat.reduceLeDiff, reduceCtorEq])) ?_
    simp only [go_sem, if_true, if_false, reduceIte, Nat.reduceEqDiff, Nat.reduceAdd, Nat.reduceLT, Nat.reduceLeDiff, reduceCtorEq]
    refine hK _ _ ?_; clear hX hK X K
    show IW _ _ _ _ _ _ _ _
    simp only [Bool.not_eq_true'] at hb
    simp only [linedS, hb, Bool.false_eq_true, if_false]
    refine IW.ret (Fin.cell ⟨trivial, by simp [go_sem, if_true, if_false, reduceIte, Nat.reduceEqDiff, Nat.reduceAdd, Nat.reduceLT, Nat.reduceLeDiff, reduceCtorEq]⟩ rfl rfl ?_)
    simp [go_sem, if_true, if_false, reduceIte, Nat.reduceEqDiff, Nat.reduceAdd, Nat.reduceLT, Nat.reduceLeDiff, reduceCtorEq, imgSV]
  · refine IW.skip ?_
    show IW _ _ _ _ _ _ _ _
    simp only [Bool.not_eq_false'] at hb
    obtain ⟨hlen, h0, h1, h2, h3⟩ := right_len hb
    obtain ⟨w, rfl⟩ : ∃ w : Nat, W = w := ⟨W.toNat, by omega⟩
    obtain ⟨h, rfl⟩ : ∃ h : Nat, H = h := ⟨H.toNat, by omega⟩
    have hlen' : p.length = w * h := by exact_mod_cast hlen
    simp only [linedS, hb, if_true, Int.toNat_natCast]
    repeat refine IW.seq ?_
    refine IW.region_seq tab_ok [some 12, some 13, some 14, some 15, some 16, some 5, none] rfl fun X K hX hK => ?_
    simp only [go_sem, if_true, if_false, reduceIte, Nat.reduceEqDiff, Nat.reduceAdd, Nat.reduceLT, Nat.reduceLeDiff, reduceCtorEq]
    refine hX.quiet _ _ (OpG.of_B rfl (opB_call rfl rfl (FSpec.nz (refBlank w h (by omega) (by omega) (by omega)) (by simp [go_sem, if_true, if_false, reduceIte, Nat.reduceEqDiff, Nat.reduceAdd, Nat.reduceLT, Nat.reduceLeDiff, reduceCtorEq, List.map_cons, List.map_nil, List.append_nil, opnd, unc, imgSV, imgRows])))) ?_
    simp only [go_sem, if_true, if_false, reduceIte, Nat.reduceEqDiff, Nat.reduceAdd, Nat.reduceLT, Nat.reduceLeDiff, reduceCtorEq, imgSV, imgRows]
    refine hX.op _ _ rfl (opS_store tab_ok rfl (by simp [go_sem, if_true, if_false, reduceIte, Nat.reduceEqDiff, Nat.reduceAdd, Nat.reduceLT, Nat.reduceLeDiff, reduceCtorEq]) (by simp [go_sem, if_true, if_false, reduceIte, Nat.reduceEqDiff, Nat.reduceAdd, Nat.reduceLT, Nat.reduceLeDiff, reduceCtorEq]) (by simp [go_sem, if_true, if_false, reduceIte, Nat.reduceEqDiff, Nat.reduceAdd, Nat.reduceLT, Nat.reduceLeDiff, reduceCtorEq]) (by simp [go_sem, if_true, if_false, reduceIte, Nat.reduceEqDiff, Nat.reduceAdd, Nat.reduceLT, Nat.reduceLeDiff, reduceCtorEq]) (by simp [go_sem, if_true, if_false, reduceIte, Nat.reduceEqDiff, Nat.reduceAdd, Nat.reduceLT, Nat.reduceLeDiff, reduceCtorEq]) (by simp [go_sem, if_true, if_false, reduceIte, Nat.reduceEqDiff, Nat.reduceAdd, Nat.reduceLT, Nat.reduceLeDiff, reduceCtorEq])) ?_
    simp only [go_sem, if_true, if_false, reduceIte, Nat.reduceEqDiff, Nat.reduceAdd, Nat.reduceLT, Nat.reduceLeDiff, reduceCtorEq]
    refine hK _ _ ?_; clear hX hK X K
    show IW _ _ _ _ _ _ _ _
    repeat refine IW.seq ?_
    refine IW.region_seq tab_ok [some 6] rfl fun X K hX hK => ?_
    simp only [go_sem, if_true, if_false, reduceIte, Nat.reduceEqDiff, Nat.reduceAdd, Nat.reduceLT, Nat.reduceLeDiff, reduceCtorEq]
    refine hK _ _ ?_; clear hX hK X K
    show IW _ _ _ _ _ _ _ _
    repeat refine IW.seq ?_
    refine IW.block ?_
    have hrow : ∀ {y : Nat}, y < h → y * w + w ≤ p.length := fun {y} hy => by
      have : (y + 1) * w ≤ h * w := Nat.mul_le_mul_right _ hy
      rw [Nat.add_mul] at this; rw [hlen', Nat.mul_comm w h]; omega
    refine IW.loop (α := {y : Nat // y ≤ h}) (fun y => [(1, .sl true (nums .i64 l)), (2, .ptr 0 0 0), (4, .ptr 1 0 0), (5, .ptr 3 0 0), (6, .int .i64 y.1)]) (fun y => [some ⟨3, 33, [[.int .i64 w, .int .i64 h, .sl true (nums .u8 p)]]⟩, some ⟨3, 33, [[.int .i64 0, .int .i64 0, .nils]]⟩, some ⟨1, 5, nums .u8 (upto (linedF w p l) p.length (y.1 * w))⟩, some ⟨3, 33, [[.int .i64 w, .int .i64 h, .ref 2 0 p.length]]⟩]) (fun y => h - y.1) ⟨0, by omega⟩ ?_ fun ⟨y, hy⟩ => ?_
    · refine Ent.cut ?_ ?_ <;> simp only [go_sem, if_true, if_false, reduceIte, Nat.reduceEqDiff, Nat.reduceAdd, Nat.reduceLT, Nat.reduceLeDiff, reduceCtorEq, hlen', Nat.zero_mul, upto_zero, List.length_replicate]
    · simp only []
      repeat refine IW.seq ?_
      refine IW.region_seq tab_ok [some 17, some 18, some 19, some 20] rfl fun X K hX hK => ?_
      simp only [go_sem, if_true, if_false, reduceIte, Nat.reduceEqDiff, Nat.reduceAdd, Nat.reduceLT, Nat.reduceLeDiff, reduceCtorEq]
      refine hK _ _ ?_; clear hX hK X K
      show IW _ _ _ _ _ _ _ _
      repeat refine IW.seq ?_
      refine IW.cond rfl (fun hb1 => ?_) (fun hb1 => ?_)
      · refine IW.skip ?_
        show IW _ _ _ _ _ _ _ _
        simp only [decide_eq_true_eq] at hb1
        have hyh : y < h := by omega
        have hr := hrow hyh
        refine IW.seq (IW.block ?_)
        repeat refine IW.seq ?_
        refine IW.region_seq tab_ok [some 7] rfl fun X K hX hK => ?_
        simp only [go_sem, if_true, if_false, reduceIte, Nat.reduceEqDiff, Nat.reduceAdd, Nat.reduceLT, Nat.reduceLeDiff, reduceCtorEq]
        refine hK _ _ ?_; clear hX hK X K
        show IW _ _ _ _ _ _ _ _
        repeat refine IW.seq ?_
        refine IW.block ?_
        refine IW.loop (α := {x : Nat // x ≤ w}) (fun x => [(1, .sl true (nums .i64 l)), (2, .ptr 0 0 0), (4, .ptr 1 0 0), (5, .ptr 3 0 0), (6, .int .i64 y), (7, .int .i64 x.1)]) (fun x => [some ⟨3, 33, [[.int .i64 w, .int .i64 h, .sl true (nums .u8 p)]]⟩, some ⟨3, 33, [[.int .i64 0, .int .i64 0, .nils]]⟩, some ⟨1, 5, nums .u8 (upto (linedF w p l) p.length (y * w + x.1))⟩, some ⟨3, 33, [[.int .i64 w, .int .i64 h, .ref 2 0 p.length]]⟩]) (fun x => w - x.1) ⟨0, by omega⟩ ?_ fun ⟨x, hx⟩ => ?_
        · refine Ent.cut ?_ ?_ <;> simp only [go_sem, if_true, if_false, reduceIte, Nat.reduceEqDiff, Nat.reduceAdd, Nat.reduceLT, Nat.reduceLeDiff, reduceCtorEq, Nat.add_zero]
        · simp only []
          repeat refine IW.seq ?_
          refine IW.region_seq tab_ok [some 23, some 24, some 25, some 26] rfl fun X K hX hK => ?_
          simp only [go_sem, if_true, if_false, reduceIte, Nat.reduceEqDiff, Nat.reduceAdd, Nat.reduceLT, Nat.reduceLeDiff, reduceCtorEq]
          refine hK _ _ ?_; clear hX hK X K
          show IW _ _ _ _ _ _ _ _
          repeat refine IW.seq ?_
          refine IW.cond rfl (fun hb2 => ?_) (fun hb2 => ?_)
          · refine IW.skip ?_
            show IW _ _ _ _ _ _ _ _
            simp only [decide_eq_true_eq] at hb2
            have hxw : x < w := by omega
            have e1 : IntKind.i64.wrap ((y : Int) * (w : Int)) = ((y * w : Nat) : Int) := by
              rw [← Int.natCast_mul]; exact wrap_eq (by omega) (by omega)
            have e2 : IntKind.i64.wrap (((y * w : Nat) : Int) + (x : Int)) = ((y * w + x : Nat) : Int) := (wrap_eq (by omega) (by omega)).trans (by omega)
            have hdiv : (y * w + x) / w = y := by rw [Nat.mul_comm, Nat.mul_add_div (by omega), Nat.div_eq_of_lt hxw]; rfl
            refine IW.seq (IW.block ?_)
            repeat refine IW.seq ?_
            refine IW.region_draw tab_ok mixed [some 29, some 30, some 31, some 32, some 33, some 34, some 35, some 36, some 37, some 38, some 39, some 40, some 41, none] 13 (by kernel_rfl) rfl fun Xq Xs K hXq hXs hK K1 hK1 => ?_
            simp only [go_sem, if_true, if_false, reduceIte, Nat.reduceEqDiff, Nat.reduceAdd, Nat.reduceLT, Nat.reduceLeDiff, reduceCtorEq, e1, e2, Int.toNat_natCast]
            refine hXq.quiet _ _ (OpG.of_B rfl (opB_call rfl rfl (FSpec.nz (refAt w h x y p hxw hyh hlen' hl) (by simp [go_sem, if_true, if_false, reduceIte, Nat.reduceEqDiff, Nat.reduceAdd, Nat.reduceLT, Nat.reduceLeDiff, reduceCtorEq, List.map_cons, List.map_nil, List.append_nil, opnd, unc, e1, e2, Int.toNat_natCast])))) ?_
            simp only [go_sem, if_true, if_false, reduceIte, Nat.reduceEqDiff, Nat.reduceAdd, Nat.reduceLT, Nat.reduceLeDiff, reduceCtorEq, e1, e2, Int.toNat_natCast]
            have hk2 : y * w + x < p.length := by omega
            refine ⟨⟨by omega, by omega⟩, ?_⟩
            refine hK1 _ _ ?_; clear hXq hK1 K1 Xq
            simp only [List.drop_zero, List.drop_succ_cons, go_sem, if_true, if_false, reduceIte, Nat.reduceEqDiff, Nat.reduceAdd, Nat.reduceLT, Nat.reduceLeDiff, reduceCtorEq]
            have hk3 := nums_at (k := .u8) (xs := upto (linedF w p l) p.length (y * w + x)) (i := y * w + x) (by simp [upto_length, hk2])
            refine hXs.op _ _ rfl (opS_store tab_ok rfl (by simp [go_sem, if_true, if_false, reduceIte, Nat.reduceEqDiff, Nat.reduceAdd, Nat.reduceLT, Nat.reduceLeDiff, reduceCtorEq]) (by simp [go_sem, if_true, if_false, reduceIte, Nat.reduceEqDiff, Nat.reduceAdd, Nat.reduceLT, Nat.reduceLeDiff, reduceCtorEq]) (by simp [go_sem, if_true, if_false, reduceIte, Nat.reduceEqDiff, Nat.reduceAdd, Nat.reduceLT, Nat.reduceLeDiff, reduceCtorEq]) (by simp [go_sem, if_true, if_false, reduceIte, Nat.reduceEqDiff, Nat.reduceAdd, Nat.reduceLT, Nat.reduceLeDiff, reduceCtorEq, hk2, hk3]) (by simp [go_sem, if_true, if_false, reduceIte, Nat.reduceEqDiff, Nat.reduceAdd, Nat.reduceLT, Nat.reduceLeDiff, reduceCtorEq]) (by simp [go_sem, if_true, if_false, reduceIte, Nat.reduceEqDiff, Nat.reduceAdd, Nat.reduceLT, Nat.reduceLeDiff, reduceCtorEq])) ?_
            simp only [go_sem, if_true, if_false, reduceIte, Nat.reduceEqDiff, Nat.reduceAdd, Nat.reduceLT, Nat.reduceLeDiff, reduceCtorEq, hk2, hk3]
            refine hK _ _ ?_; clear hXs hK K Xs
            show IW _ _ _ _ _ _ _ _
            repeat refine IW.seq ?_
            refine IW.region_seq tab_ok [some 42, some 43, some 44] rfl fun X K hX hK => ?_
            simp only [go_sem, if_true, if_false, reduceIte, Nat.reduceEqDiff, Nat.reduceAdd, Nat.reduceLT, Nat.reduceLeDiff, reduceCtorEq]
            refine hX.quiet _ _ (OpG.of_B rfl (opB_call rfl rfl (FSpec.nz (refHas l y hll) (by simp [go_sem, if_true, if_false, reduceIte, Nat.reduceEqDiff, Nat.reduceAdd, Nat.reduceLT, Nat.reduceLeDiff, reduceCtorEq, List.map_cons, List.map_nil, List.append_nil, opnd, unc])))) ?_
            simp only [go_sem, if_true, if_false, reduceIte, Nat.reduceEqDiff, Nat.reduceAdd, Nat.reduceLT, Nat.reduceLeDiff, reduceCtorEq]
            refine hK _ _ ?_; clear hX hK X K
            show IW _ _ _ _ _ _ _ _
            have hset := upto_set (linedF w p l) p.length (y * w + x)
            repeat refine IW.seq ?_
            refine IW.cond rfl (fun hb3 => ?_) (fun hb3 => ?_)
            · have hk4 := nums_at (k := .u8) (xs := (upto (linedF w p l) p.length (y * w + x)).set (y * w + x) (p.getD (y * w + x) 0)) (i := y * w + x) (by simp [upto_length, hk2])
              repeat refine IW.seq ?_
              refine IW.region_seq tab_ok [some 45, some 46, some 47, some 48, some 49, some 50, some 51, some 52, some 53, none] rfl fun X K hX hK => ?_
              simp only [go_sem, if_true, if_false, reduceIte, Nat.reduceEqDiff, Nat.reduceAdd, Nat.reduceLT, Nat.reduceLeDiff, reduceCtorEq, e1, e2, Int.toNat_natCast]
              refine ⟨⟨by omega, by omega⟩, ?_⟩
              refine hX.op _ _ rfl (opS_store tab_ok rfl (by simp [go_sem, if_true, if_false, reduceIte, Nat.reduceEqDiff, Nat.reduceAdd, Nat.reduceLT, Nat.reduceLeDiff, reduceCtorEq]) (by simp [go_sem, if_true, if_false, reduceIte, Nat.reduceEqDiff, Nat.reduceAdd, Nat.reduceLT, Nat.reduceLeDiff, reduceCtorEq]) (by simp [go_sem, if_true, if_false, reduceIte, Nat.reduceEqDiff, Nat.reduceAdd, Nat.reduceLT, Nat.reduceLeDiff, reduceCtorEq]) (by simp [go_sem, if_true, if_false, reduceIte, Nat.reduceEqDiff, Nat.reduceAdd, Nat.reduceLT, Nat.reduceLeDiff, reduceCtorEq, hk2, hk4]) (by simp [go_sem, if_true, if_false, reduceIte, Nat.reduceEqDiff, Nat.reduceAdd, Nat.reduceLT, Nat.reduceLeDiff, reduceCtorEq]) (by simp [go_sem, if_true, if_false, reduceIte, Nat.reduceEqDiff, Nat.reduceAdd, Nat.reduceLT, Nat.reduceLeDiff, reduceCtorEq])) ?_
              simp only [go_sem, if_true, if_false, reduceIte, Nat.reduceEqDiff, Nat.reduceAdd, Nat.reduceLT, Nat.reduceLeDiff, reduceCtorEq, hk2, hk4]
              refine hK _ _ ?_; clear hX hK X K
              show IW _ _ _ _ _ _ _ _
              repeat refine IW.seq ?_
              refine IW.region_seq tab_ok [some 27, some 28, some 7] rfl fun X K hX hK => ?_
              simp only [go_sem, if_true, if_false, reduceIte, Nat.reduceEqDiff, Nat.reduceAdd, Nat.reduceLT, Nat.reduceLeDiff, reduceCtorEq, succ_wrap hxw (by omega)]
              refine hK _ _ ⟨⟨x + 1, hxw⟩, by simp only []; omega, ?_⟩
              have : linedF w p l (y * w + x) = 1 := by simp only [linedF, hdiv, hb3, if_true]
              rw [this] at hset
              refine Ent.cut ?_ ?_ <;> simp only [go_sem, if_true, if_false, reduceIte, Nat.reduceEqDiff, Nat.reduceAdd, Nat.reduceLT, Nat.reduceLeDiff, reduceCtorEq, List.set_set, ← Nat.add_assoc, hset]
            · refine IW.skip ?_
              show IW _ _ _ _ _ _ _ _
              repeat refine IW.seq ?_
              refine IW.region_seq tab_ok [some 27, some 28, some 7] rfl fun X K hX hK => ?_
              simp only [go_sem, if_true, if_false, reduceIte, Nat.reduceEqDiff, Nat.reduceAdd, Nat.reduceLT, Nat.reduceLeDiff, reduceCtorEq, succ_wrap hxw (by omega)]
              refine hK _ _ ⟨⟨x + 1, hxw⟩, by simp only []; omega, ?_⟩
              have : linedF w p l (y * w + x) = p.getD (y * w + x) 0 := by simp only [linedF, hdiv, hb3, Bool.false_eq_true, if_false]
              rw [this] at hset
              refine Ent.cut ?_ ?_ <;> simp only [go_sem, if_true, if_false, reduceIte, Nat.reduceEqDiff, Nat.reduceAdd, Nat.reduceLT, Nat.reduceLeDiff, reduceCtorEq, ← Nat.add_assoc, hset]
          · refine IW.exit ?_
            show IW _ _ _ _ _ _ _ _
            simp only [decide_eq_false_iff_not] at hb2
            have hxw : x = w := by omega
            subst hxw
            repeat refine IW.seq ?_
            refine IW.region_seq tab_ok [some 21, some 22, some 6] rfl fun X K hX hK => ?_
            simp only [go_sem, if_true, if_false, reduceIte, Nat.reduceEqDiff, Nat.reduceAdd, Nat.reduceLT, Nat.reduceLeDiff, reduceCtorEq, succ_wrap hyh (by omega)]
            refine hK _ _ ⟨⟨y + 1, hyh⟩, by simp only []; omega, ?_⟩
            refine Ent.cut ?_ ?_ <;> simp only [go_sem, if_true, if_false, reduceIte, Nat.reduceEqDiff, Nat.reduceAdd, Nat.reduceLT, Nat.reduceLeDiff, reduceCtorEq, Nat.add_mul, Nat.one_mul]
      · refine IW.exit ?_
        show IW _ _ _ _ _ _ _ _
        simp only [decide_eq_false_iff_not] at hb1
        have hyh : y = h := by omega
        subst hyh
        repeat refine IW.seq ?_
        refine IW.region_seq tab_ok [some 54, none] rfl fun X K hX hK => ?_
        simp only [go_sem, if_true, if_false, reduceIte, Nat.reduceEqDiff, Nat.reduceAdd, Nat.reduceLT, Nat.reduceLeDiff, reduceCtorEq]
        refine hX.op _ _ rfl (opS_store tab_ok rfl (by simp [go_sem, if_true, if_false, reduceIte, Nat.reduceEqDiff, Nat.reduceAdd, Nat.reduceLT, Nat.reduceLeDiff, reduceCtorEq]) (by simp [go_sem, if_true, if_false, reduceIte, Nat.reduceEqDiff, Nat.reduceAdd, Nat.reduceLT, Nat.reduceLeDiff, reduceCtorEq]) (by simp [go_sem, if_true, if_false, reduceIte, Nat.reduceEqDiff, Nat.reduceAdd, Nat.reduceLT, Nat.reduceLeDiff, reduceCtorEq]) (by simp [go_sem, if_true, if_false, reduceIte, Nat.reduceEqDiff, Nat.reduceAdd, Nat.reduceLT, Nat.reduceLeDiff, reduceCtorEq]) (by simp [go_sem, if_true, if_false, reduceIte, Nat.reduceEqDiff, Nat.reduceAdd, Nat.reduceLT, Nat.reduceLeDiff, reduceCtorEq]) (by simp [go_sem, if_true, if_false, reduceIte, Nat.reduceEqDiff, Nat.reduceAdd, Nat.reduceLT, Nat.reduceLeDiff, reduceCtorEq])) ?_
        simp only [go_sem, if_true, if_false, reduceIte, Nat.reduceEqDiff, Nat.reduceAdd, Nat.reduceLT, Nat.reduceLeDiff, reduceCtorEq]
        refine hK _ _ ?_; clear hX hK X K
        show IW _ _ _ _ _ _ _ _
        refine IW.ret (Fin.cell1 2 ⟨trivial, by simp [go_sem, if_true, if_false, reduceIte, Nat.reduceEqDiff, Nat.reduceAdd, Nat.reduceLT, Nat.reduceLeDiff, reduceCtorEq]⟩ rfl (by simp [go_sem, if_true, if_false, reduceIte, Nat.reduceEqDiff, Nat.reduceAdd, Nat.reduceLT, Nat.reduceLeDiff, reduceCtorEq]) ?_ ?_)
        · simp [go_sem, if_true, if_false, reduceIte, Nat.reduceEqDiff, Nat.reduceAdd, Nat.reduceLT, Nat.reduceLeDiff, reduceCtorEq, imgSV]
        · simp [go_sem, if_true, if_false, reduceIte, Nat.reduceEqDiff, Nat.reduceAdd, Nat.reduceLT, Nat.reduceLeDiff, reduceCtorEq, Nat.mul_comm y w, ← hlen', upto_all]
end Go.Proofs.Ytnbpbehlemaeoaa

set_option linter.unusedVariables false
set_option linter.unusedSimpArgs false
set_option maxRecDepth 10000
namespace Go.Proofs.Ytnbpbehlemaeoaa
open Go.IL
theorem m72 : Try.prog.underlying 72 = some (.map 3 74) := by kernel_rfl
theorem u3 : Try.prog.underlying 3 = some (.int .i64) := by kernel_rfl
def strs (l : List ByteArray) : List (List SV) := l.map fun s => [.str s]
def mapE : Nat → List (Int × List ByteArray) → List (List SV)
  | _, [] => []
  | i, e :: r => [.int .i64 e.1, .ref i 0 e.2.length] :: mapE (i + 1) r
def mapSV (l : List (Int × List ByteArray)) : SV := .mp false (mapE 0 l)
def mapRows (l : List (Int × List ByteArray)) : List Row := l.map fun e => ⟨1, 9, strs e.2⟩
theorem fin_map {tm : TM} {h : Heap} {t : Nat} {l : List (Int × List ByteArray)} (h1 : (mapSV l).nold = true) (h2 : rowsNold (mapRows l) = true) (hl : (List.range l.length).length = (mapRows l).length) (e : tm.get t = (mapSV l).ren (sg (List.range l.length) h.length)) (hh : subH (sg (List.range l.length) h.length) h 0 ((mapRows l).map some)) : IL.Fin tab [.tmp t] (mapSV l) (mapRows l) .ret tm h :=
  ⟨⟨trivial, trivial⟩, h1, h2, _, hl, List.nodup_range, e, hh⟩
def drw1 : List (Int × List ByteArray) := [(1, [⟨#[46, 35, 35, 35, 35, 46]⟩, ⟨#[35, 35, 35, 35, 35, 35]⟩, ⟨#[35, 35, 35, 35, 35, 35]⟩, ⟨#[35, 35, 35, 35, 35, 35]⟩, ⟨#[46, 35, 35, 35, 35, 46]⟩]), (2, [⟨#[46, 35, 35, 35, 35, 46]⟩, ⟨#[35, 46, 46, 46, 46, 35]⟩, ⟨#[35, 46, 46, 46, 46, 35]⟩, ⟨#[35, 46, 46, 46, 46, 35]⟩, ⟨#[46, 35, 35, 35, 35, 46]⟩]), (3, [⟨#[46, 35, 35, 35, 35, 46]⟩, ⟨#[35, 35, 46, 46, 35, 35]⟩, ⟨#[35, 35, 46, 46, 35, 35]⟩, ⟨#[35, 35, 46, 46, 35, 35]⟩, ⟨#[46, 35, 35, 35, 35, 46]⟩])]
theorem fDraw1 : FSpec Try.prog 49 [.int .i64 1] (mapSV drw1) (mapRows drw1) := by
  refine FSpec.intro tab_ok Try.func49 rfl rfl rfl (by kernel_rfl) (by simp) fun w0 => ?_
  simp only [argTM, Nat.zero_add, Nat.reduceAdd]
  repeat refine IW.seq ?_
  refine IW.region_seq tab_ok [some 2] rfl fun X K hX hK => ?_
  simp only [go_sem, if_true, if_false, reduceIte, Nat.reduceEqDiff, Nat.reduceAdd, Nat.reduceLT, Nat.reduceLeDiff, reduceCtorEq]
  refine hK _ _ ?_; clear hX hK X K
  show IW _ _ _ _ _ _ _ _
  repeat refine IW.seq ?_
  refine IW.region_seq tab_ok [some 3] rfl fun X K hX hK => ?_
  simp only [go_sem, if_true, if_false, reduceIte, Nat.reduceEqDiff, Nat.reduceAdd, Nat.reduceLT, Nat.reduceLeDiff, reduceCtorEq]
  refine hK _ _ ?_; clear hX hK X K
  show IW _ _ _ _ _ _ _ _
  repeat refine IW.seq ?_
  refine IW.block ?_
  repeat refine IW.seq ?_
  refine IW.region_seq tab_ok [some 5, some 4] rfl fun X K hX hK => ?_
  simp only [go_sem, if_true, if_false, reduceIte, Nat.reduceEqDiff, Nat.reduceAdd, Nat.reduceLT, Nat.reduceLeDiff, reduceCtorEq]
  refine hK _ _ ?_; clear hX hK X K
  show IW _ _ _ _ _ _ _ _
  repeat refine IW.seq ?_
  refine IW.cond rfl (fun hb => ?_) (fun hb => absurd hb (by decide))
  repeat refine IW.seq ?_
  refine IW.region_seq tab_ok [some 6, some 7, none, some 8, none, some 9, none, some 10, some 2] rfl fun X K hX hK => ?_
  simp only [go_sem, if_true, if_false, reduceIte, Nat.reduceEqDiff, Nat.reduceAdd, Nat.reduceLT, Nat.reduceLeDiff, reduceCtorEq]
  refine hX.quiet _ _ (OpG.of_B rfl opB_makeMap) ?_
  simp only [go_sem, if_true, if_false, reduceIte, Nat.reduceEqDiff, Nat.reduceAdd, Nat.reduceLT, Nat.reduceLeDiff, reduceCtorEq]
  refine hX.quiet _ _ (OpG.of_B rfl (opB_buildSlice tab_ok rfl (by simp [go_sem, if_true, if_false, reduceIte, Nat.reduceEqDiff, Nat.reduceAdd, Nat.reduceLT, Nat.reduceLeDiff, reduceCtorEq]) (by simp [go_sem, if_true, if_false, reduceIte, Nat.reduceEqDiff, Nat.reduceAdd, Nat.reduceLT, Nat.reduceLeDiff, reduceCtorEq]) (by simp) (by simp [go_sem, if_true, if_false, reduceIte, Nat.reduceEqDiff, Nat.reduceAdd, Nat.reduceLT, Nat.reduceLeDiff, reduceCtorEq, bsO, List.map_cons, List.map_nil]))) ?_
  simp only [go_sem, if_true, if_false, reduceIte, Nat.reduceEqDiff, Nat.reduceAdd, Nat.reduceLT, Nat.reduceLeDiff, reduceCtorEq, List.map_cons, List.map_nil]
  refine hX.op _ _ rfl (opS_insert rfl rfl (by simp [go_sem, if_true, if_false, reduceIte, Nat.reduceEqDiff, Nat.reduceAdd, Nat.reduceLT, Nat.reduceLeDiff, reduceCtorEq]) m72 u3 (by simp [go_sem, if_true, if_false, reduceIte, Nat.reduceEqDiff, Nat.reduceAdd, Nat.reduceLT, Nat.reduceLeDiff, reduceCtorEq]) (by simp [go_sem, if_true, if_false, reduceIte, Nat.reduceEqDiff, Nat.reduceAdd, Nat.reduceLT, Nat.reduceLeDiff, reduceCtorEq]) (by simp [go_sem, if_true, if_false, reduceIte, Nat.reduceEqDiff, Nat.reduceAdd, Nat.reduceLT, Nat.reduceLeDiff, reduceCtorEq]) (by decide)) ?_
  simp only [go_sem, if_true, if_false, reduceIte, Nat.reduceEqDiff, Nat.reduceAdd, Nat.reduceLT, Nat.reduceLeDiff, reduceCtorEq, List.nil_append, List.cons_append]
  refine hX.quiet _ _ (OpG.of_B rfl (opB_buildSlice tab_ok rfl (by simp [go_sem, if_true, if_false, reduceIte, Nat.reduceEqDiff, Nat.reduceAdd, Nat.reduceLT, Nat.reduceLeDiff, reduceCtorEq]) (by simp [go_sem, if_true, if_false, reduceIte, Nat.reduceEqDiff, Nat.reduceAdd, Nat.reduceLT, Nat.reduceLeDiff, reduceCtorEq]) (by simp) (by simp [go_sem, if_true, if_false, reduceIte, Nat.reduceEqDiff, Nat.reduceAdd, Nat.reduceLT, Nat.reduceLeDiff, reduceCtorEq, bsO, List.map_cons, List.map_nil]))) ?_
  simp only [go_sem, if_true, if_false, reduceIte, Nat.reduceEqDiff, Nat.reduceAdd, Nat.reduceLT, Nat.reduceLeDiff, reduceCtorEq, List.map_cons, List.map_nil]
  refine hX.op _ _ rfl (opS_insert rfl rfl (by simp [go_sem, if_true, if_false, reduceIte, Nat.reduceEqDiff, Nat.reduceAdd, Nat.reduceLT, Nat.reduceLeDiff, reduceCtorEq]) m72 u3 (by simp [go_sem, if_true, if_false, reduceIte, Nat.reduceEqDiff, Nat.reduceAdd, Nat.reduceLT, Nat.reduceLeDiff, reduceCtorEq]) (by simp [go_sem, if_true, if_false, reduceIte, Nat.reduceEqDiff, Nat.reduceAdd, Nat.reduceLT, Nat.reduceLeDiff, reduceCtorEq]) (by simp [go_sem, if_true, if_false, reduceIte, Nat.reduceEqDiff, Nat.reduceAdd, Nat.reduceLT, Nat.reduceLeDiff, reduceCtorEq]) (by decide)) ?_
  simp only [go_sem, if_true, if_false, reduceIte, Nat.reduceEqDiff, Nat.reduceAdd, Nat.reduceLT, Nat.reduceLeDiff, reduceCtorEq, List.nil_append, List.cons_append]
  refine hX.quiet _ _ (OpG.of_B rfl (opB_buildSlice tab_ok rfl (by simp [go_sem, if_true, if_false, reduceIte, Nat.reduceEqDiff, Nat.reduceAdd, Nat.reduceLT, Nat.reduceLeDiff, reduceCtorEq]) (by simp [go_sem, if_true, if_false, reduceIte, Nat.reduceEqDiff, Nat.reduceAdd, Nat.reduceLT, Nat.reduceLeDiff, reduceCtorEq]) (by simp) (by simp [go_sem, if_true, if_false, reduceIte, Nat.reduceEqDiff, Nat.reduceAdd, Nat.reduceLT, Nat.reduceLeDiff, reduceCtorEq, bsO, List.map_cons, List.map_nil]))) ?_
  simp only [go_sem, if_true, if_false, reduceIte, Nat.reduceEqDiff, Nat.reduceAdd, Nat.reduceLT, Nat.reduceLeDiff, reduceCtorEq, List.map_cons, List.map_nil]
  refine hX.op _ _ rfl (opS_insert rfl rfl (by simp [go_sem, if_true, if_false, reduceIte, Nat.reduceEqDiff, Nat.reduceAdd, Nat.reduceLT, Nat.reduceLeDiff, reduceCtorEq]) m72 u3 (by simp [go_sem, if_true, if_false, reduceIte, Nat.reduceEqDiff, Nat.reduceAdd, Nat.reduceLT, Nat.reduceLeDiff, reduceCtorEq]) (by simp [go_sem, if_true, if_false, reduceIte, Nat.reduceEqDiff, Nat.reduceAdd, Nat.reduceLT, Nat.reduceLeDiff, reduceCtorEq]) (by simp [go_sem, if_true, if_false, reduceIte, Nat.reduceEqDiff, Nat.reduceAdd, Nat.reduceLT, Nat.reduceLeDiff, reduceCtorEq]) (by decide)) ?_
  simp only [go_sem, if_true, if_false, reduceIte, Nat.reduceEqDiff, Nat.reduceAdd, Nat.reduceLT, Nat.reduceLeDiff, reduceCtorEq, List.nil_append, List.cons_append]
  refine hK _ _ ?_; clear hX hK X K
  show IW _ _ _ _ _ _ _ _
  refine IW.ret (fin_map rfl rfl rfl rfl ⟨rfl, rfl, rfl, trivial⟩)
def drw2 : List (Int × List ByteArray) := [(1, [⟨#[46, 35, 46, 35]⟩, ⟨#[35, 35, 35, 35]⟩, ⟨#[46, 35, 46, 35]⟩, ⟨#[35, 35, 35, 35]⟩, ⟨#[46, 35, 46, 35]⟩]), (2, [⟨#[35, 46, 46, 46]⟩, ⟨#[35, 46, 46, 46]⟩, ⟨#[35, 35, 35, 46]⟩, ⟨#[35, 46, 35, 46]⟩, ⟨#[35, 35, 46, 46]⟩]), (3, [⟨#[35, 46, 46, 35]⟩, ⟨#[35, 46, 35, 35]⟩, ⟨#[35, 35, 35, 35]⟩, ⟨#[35, 35, 46, 35]⟩, ⟨#[35, 46, 46, 35]⟩])]
theorem fDraw2 : FSpec Try.prog 49 [.int .i64 2] (mapSV drw2) (mapRows drw2) := by
  refine FSpec.intro tab_ok Try.func49 rfl rfl rfl (by kernel_rfl) (by simp) fun w0 => ?_
  simp only [argTM, Nat.zero_add, Nat.reduceAdd]
  repeat refine IW.seq ?_
  refine IW.region_seq tab_ok [some 2] rfl fun X K hX hK => ?_
  simp only [go_sem, if_true, if_false, reduceIte, Nat.reduceEqDiff, Nat.reduceAdd, Nat.reduceLT, Nat.reduceLeDiff, reduceCtorEq]
  refine hK _ _ ?_; clear hX hK X K
  show IW _ _ _ _ _ _ _ _
  repeat refine IW.seq ?_
  refine IW.region_seq tab_ok [some 3] rfl fun X K hX hK => ?_
  simp only [go_sem, if_true, if_false, reduceIte, Nat.reduceEqDiff, Nat.reduceAdd, Nat.reduceLT, Nat.reduceLeDiff, reduceCtorEq]
  refine hK _ _ ?_; clear hX hK X K
  show IW _ _ _ _ _ _ _ _
  repeat refine IW.seq ?_
  refine IW.block ?_
  repeat refine IW.seq ?_
  refine IW.region_seq tab_ok [some 5, some 4] rfl fun X K hX hK => ?_
  simp only [go_sem, if_true, if_false, reduceIte, Nat.reduceEqDiff, Nat.reduceAdd, Nat.reduceLT, Nat.reduceLeDiff, reduceCtorEq]
  refine hK _ _ ?_; clear hX hK X K
  show IW _ _ _ _ _ _ _ _
  repeat refine IW.seq ?_
  refine IW.cond rfl (fun hb => absurd hb (by decide)) (fun hb => ?_)
  repeat refine IW.seq ?_
  refine IW.region_seq tab_ok [some 12, some 11] rfl fun X K hX hK => ?_
  simp only [go_sem, if_true, if_false, reduceIte, Nat.reduceEqDiff, Nat.reduceAdd, Nat.reduceLT, Nat.reduceLeDiff, reduceCtorEq]
  refine hK _ _ ?_; clear hX hK X K
  show IW _ _ _ _ _ _ _ _
  repeat refine IW.seq ?_
  refine IW.cond rfl (fun hb => ?_) (fun hb => absurd hb (by decide))
  repeat refine IW.seq ?_
  refine IW.region_seq tab_ok [some 13, some 14, none, some 15, none, some 16, none, some 17, some 2] rfl fun X K hX hK => ?_
  simp only [go_sem, if_true, if_false, reduceIte, Nat.reduceEqDiff, Nat.reduceAdd, Nat.reduceLT, Nat.reduceLeDiff, reduceCtorEq]
  refine hX.quiet _ _ (OpG.of_B rfl opB_makeMap) ?_
  simp only [go_sem, if_true, if_false, reduceIte, Nat.reduceEqDiff, Nat.reduceAdd, Nat.reduceLT, Nat.reduceLeDiff, reduceCtorEq]
  refine hX.quiet _ _ (OpG.of_B rfl (opB_buildSlice tab_ok rfl (by simp [go_sem, if_true, if_false, reduceIte, Nat.reduceEqDiff, Nat.reduceAdd, Nat.reduceLT, Nat.reduceLeDiff, reduceCtorEq]) (by simp [go_sem, if_true, if_false, reduceIte, Nat.reduceEqDiff, Nat.reduceAdd, Nat.reduceLT, Nat.reduceLeDiff, reduceCtorEq]) (by simp) (by simp [go_sem, if_true, if_false, reduceIte, Nat.reduceEqDiff, Nat.reduceAdd, Nat.reduceLT, Nat.reduceLeDiff, reduceCtorEq, bsO, List.map_cons, List.map_nil]))) ?_
  simp only [go_sem, if_true, if_false, reduceIte, Nat.reduceEqDiff, Nat.reduceAdd, Nat.reduceLT, Nat.reduceLeDiff, reduceCtorEq, List.map_cons, List.map_nil]
  refine hX.op _ _ rfl (opS_insert rfl rfl (by simp [go_sem, if_true, if_false, reduceIte, Nat.reduceEqDiff, Nat.reduceAdd, Nat.reduceLT, Nat.reduceLeDiff, reduceCtorEq]) m72 u3 (by simp [go_sem, if_true, if_false, reduceIte, Nat.reduceEqDiff, Nat.reduceAdd, Nat.reduceLT, Nat.reduceLeDiff, reduceCtorEq]) (by simp [go_sem, if_true, if_false, reduceIte, Nat.reduceEqDiff, Nat.reduceAdd, Nat.reduceLT, Nat.reduceLeDiff, reduceCtorEq]) (by simp [go_sem, if_true, if_false, reduceIte, Nat.reduceEqDiff, Nat.reduceAdd, Nat.reduceLT, Nat.reduceLeDiff, reduceCtorEq]) (by decide)) ?_
  simp only [go_sem, if_true, if_false, reduceIte, Nat.reduceEqDiff, Nat.reduceAdd, Nat.reduceLT, Nat.reduceLeDiff, reduceCtorEq, List.nil_append, List.cons_append]
  refine hX.quiet _ _ (OpG.of_B rfl (opB_buildSlice tab_ok rfl (by simp [go_sem, if_true, if_false, reduceIte, Nat.reduceEqDiff, Nat.reduceAdd, Nat.reduceLT, Nat.reduceLeDiff, reduceCtorEq]) (by simp [go_sem, if_true, if_false, reduceIte, Nat.reduceEqDiff, Nat.reduceAdd, Nat.reduceLT, Nat.reduceLeDiff, reduceCtorEq]) (by simp) (by simp [go_sem, if_true, if_false, reduceIte, Nat.reduceEqDiff, Nat.reduceAdd, Nat.reduceLT, Nat.reduceLeDiff, reduceCtorEq, bsO, List.map_cons, List.map_nil]))) ?_
  simp only [go_sem, if_true, if_false, reduceIte, Nat.reduceEqDiff, Nat.reduceAdd, Nat.reduceLT, Nat.reduceLeDiff, reduceCtorEq, List.map_cons, List.map_nil]
  refine hX.op _ _ rfl (opS_insert rfl rfl (by simp [go_sem, if_true, if_false, reduceIte, Nat.reduceEqDiff, Nat.reduceAdd, Nat.reduceLT, Nat.reduceLeDiff, reduceCtorEq]) m72 u3 (by simp [go_sem, if_true, if_false, reduceIte, Nat.reduceEqDiff, Nat.reduceAdd, Nat.reduceLT, Nat.reduceLeDiff, reduceCtorEq]) (by simp [go_sem, if_true, if_false, reduceIte, Nat.reduceEqDiff, Nat.reduceAdd, Nat.reduceLT, Nat.reduceLeDiff, reduceCtorEq]) (by simp [go_sem, if_true, if_false, reduceIte, Nat.reduceEqDiff, Nat.reduceAdd, Nat.reduceLT, Nat.reduceLeDiff, reduceCtorEq]) (by decide)) ?_
  simp only [go_sem, if_true, if_false, reduceIte, Nat.reduceEqDiff, Nat.reduceAdd, Nat.reduceLT, Nat.reduceLeDiff, reduceCtorEq, List.nil_append, List.cons_append]
  refine hX.quiet _ _ (OpG.of_B rfl (opB_buildSlice tab_ok rfl (by simp [go_sem, if_true, if_false, reduceIte, Nat.reduceEqDiff, Nat.reduceAdd, Nat.reduceLT, Nat.reduceLeDiff, reduceCtorEq]) (by simp [go_sem, if_true, if_false, reduceIte, Nat.reduceEqDiff, Nat.reduceAdd, Nat.reduceLT, Nat.reduceLeDiff, reduceCtorEq]) (by simp) (by simp [go_sem, if_true, if_false, reduceIte, Nat.reduceEqDiff, Nat.reduceAdd, Nat.reduceLT, Nat.reduceLeDiff, reduceCtorEq, bsO, List.map_cons, List.map_nil]))) ?_
  simp only [go_sem, if_true, if_false, reduceIte, Nat.reduceEqDiff, Nat.reduceAdd, Nat.reduceLT, Nat.reduceLeDiff, reduceCtorEq, List.map_cons, List.map_nil]
  refine hX.op _ _ rfl (opS_insert rfl rfl (by simp [go_sem, if_true, if_false, reduceIte, Nat.reduceEqDiff, Nat.reduceAdd, Nat.reduceLT, Nat.reduceLeDiff, reduceCtorEq]) m72 u3 (by simp [go_sem, if_true, if_false, reduceIte, Nat.reduceEqDiff, Nat.reduceAdd, Nat.reduceLT, Nat.reduceLeDiff, reduceCtorEq]) (by simp [go_sem, if_true, if_false, reduceIte, Nat.reduceEqDiff, Nat.reduceAdd, Nat.reduceLT, Nat.reduceLeDiff, reduceCtorEq]) (by simp [go_sem, if_true, if_false, reduceIte, Nat.reduceEqDiff, Nat.reduceAdd, Nat.reduceLT, Nat.reduceLeDiff, reduceCtorEq]) (by decide)) ?_
  simp only [go_sem, if_true, if_false, reduceIte, Nat.reduceEqDiff, Nat.reduceAdd, Nat.reduceLT, Nat.reduceLeDiff, reduceCtorEq, List.nil_append, List.cons_append]
  refine hK _ _ ?_; clear hX hK X K
  show IW _ _ _ _ _ _ _ _
  refine IW.ret (fin_map rfl rfl rfl rfl ⟨rfl, rfl, rfl, trivial⟩)
def drw3 : List (Int × List ByteArray) := [(1, [⟨#[46, 46]⟩, ⟨#[35, 35]⟩, ⟨#[35, 35]⟩, ⟨#[46, 46]⟩, ⟨#[46, 46]⟩])]
theorem fDraw3 : FSpec Try.prog 49 [.int .i64 3] (mapSV drw3) (mapRows drw3) := by
  refine FSpec.intro tab_ok Try.func49 rfl rfl rfl (by kernel_rfl) (by simp) fun w0 => ?_
  simp only [argTM, Nat.zero_add, Nat.reduceAdd]
  repeat refine IW.seq ?_
  refine IW.region_seq tab_ok [some 2] rfl fun X K hX hK => ?_
  simp only [go_sem, if_true, if_false, reduceIte, Nat.reduceEqDiff, Nat.reduceAdd, Nat.reduceLT, Nat.reduceLeDiff, reduceCtorEq]
  refine hK _ _ ?_; clear hX hK X K
  show IW _ _ _ _ _ _ _ _
  repeat refine IW.seq ?_
  refine IW.region_seq tab_ok [some 3] rfl fun X K hX hK => ?_
  simp only [go_sem, if_true, if_false, reduceIte, Nat.reduceEqDiff, Nat.reduceAdd, Nat.reduceLT, Nat.reduceLeDiff, reduceCtorEq]
  refine hK _ _ ?_; clear hX hK X K
  show IW _ _ _ _ _ _ _ _
  repeat refine IW.seq ?_
  refine IW.block ?_
  repeat refine IW.seq ?_
  refine IW.region_seq tab_ok [some 5, some 4] rfl fun X K hX hK => ?_
  simp only [go_sem, if_true, if_false, reduceIte, Nat.reduceEqDiff, Nat.reduceAdd, Nat.reduceLT, Nat.reduceLeDiff, reduceCtorEq]
  refine hK _ _ ?_; clear hX hK X K
  show IW _ _ _ _ _ _ _ _
  repeat refine IW.seq ?_
  refine IW.cond rfl (fun hb => absurd hb (by decide)) (fun hb => ?_)
  repeat refine IW.seq ?_
  refine IW.region_seq tab_ok [some 12, some 11] rfl fun X K hX hK => ?_
  simp only [go_sem, if_true, if_false, reduceIte, Nat.reduceEqDiff, Nat.reduceAdd, Nat.reduceLT, Nat.reduceLeDiff, reduceCtorEq]
  refine hK _ _ ?_; clear hX hK X K
  show IW _ _ _ _ _ _ _ _
  repeat refine IW.seq ?_
  refine IW.cond rfl (fun hb => absurd hb (by decide)) (fun hb => ?_)
  repeat refine IW.seq ?_
  refine IW.region_seq tab_ok [some 19, some 18] rfl fun X K hX hK => ?_
  simp only [go_sem, if_true, if_false, reduceIte, Nat.reduceEqDiff, Nat.reduceAdd, Nat.reduceLT, Nat.reduceLeDiff, reduceCtorEq]
  refine hK _ _ ?_; clear hX hK X K
  show IW _ _ _ _ _ _ _ _
  repeat refine IW.seq ?_
  refine IW.cond rfl (fun hb => ?_) (fun hb => absurd hb (by decide))
  repeat refine IW.seq ?_
  refine IW.region_seq tab_ok [some 20, some 21, none, some 22, some 2] rfl fun X K hX hK => ?_
  simp only [go_sem, if_true, if_false, reduceIte, Nat.reduceEqDiff, Nat.reduceAdd, Nat.reduceLT, Nat.reduceLeDiff, reduceCtorEq]
  refine hX.quiet _ _ (OpG.of_B rfl opB_makeMap) ?_
  simp only [go_sem, if_true, if_false, reduceIte, Nat.reduceEqDiff, Nat.reduceAdd, Nat.reduceLT, Nat.reduceLeDiff, reduceCtorEq]
  refine hX.quiet _ _ (OpG.of_B rfl (opB_buildSlice tab_ok rfl (by simp [go_sem, if_true, if_false, reduceIte, Nat.reduceEqDiff, Nat.reduceAdd, Nat.reduceLT, Nat.reduceLeDiff, reduceCtorEq]) (by simp [go_sem, if_true, if_false, reduceIte, Nat.reduceEqDiff, Nat.reduceAdd, Nat.reduceLT, Nat.reduceLeDiff, reduceCtorEq]) (by simp) (by simp [go_sem, if_true, if_false, reduceIte, Nat.reduceEqDiff, Nat.reduceAdd, Nat.reduceLT, Nat.reduceLeDiff, reduceCtorEq, bsO, List.map_cons, List.map_nil]))) ?_
  simp only [go_sem, if_true, if_false, reduceIte, Nat.reduceEqDiff, Nat.reduceAdd, Nat.reduceLT, Nat.reduceLeDiff, reduceCtorEq, List.map_cons, List.map_nil]
  refine hX.op _ _ rfl (opS_insert rfl rfl (by simp [go_sem, if_true, if_false, reduceIte, Nat.reduceEqDiff, Nat.reduceAdd, Nat.reduceLT, Nat.reduceLeDiff, reduceCtorEq]) m72 u3 (by simp [go_sem, if_true, if_false, reduceIte, Nat.reduceEqDiff, Nat.reduceAdd, Nat.reduceLT, Nat.reduceLeDiff, reduceCtorEq]) (by simp [go_sem, if_true, if_false, reduceIte, Nat.reduceEqDiff, Nat.reduceAdd, Nat.reduceLT, Nat.reduceLeDiff, reduceCtorEq]) (by simp [go_sem, if_true, if_false, reduceIte, Nat.reduceEqDiff, Nat.reduceAdd, Nat.reduceLT, Nat.reduceLeDiff, reduceCtorEq]) (by decide)) ?_
  simp only [go_sem, if_true, if_false, reduceIte, Nat.reduceEqDiff, Nat.reduceAdd, Nat.reduceLT, Nat.reduceLeDiff, reduceCtorEq, List.nil_append, List.cons_append]
  refine hK _ _ ?_; clear hX hK X K
  show IW _ _ _ _ _ _ _ _
  refine IW.ret (fin_map rfl rfl rfl rfl ⟨rfl, trivial⟩)
def drw4 : List (Int × List ByteArray) := [(1, [⟨#[46, 46, 46]⟩, ⟨#[46, 46, 46]⟩, ⟨#[46, 46, 46]⟩, ⟨#[35, 46, 35]⟩, ⟨#[46, 35, 46]⟩])]
theorem fDraw4 : FSpec Try.prog 49 [.int .i64 4] (mapSV drw4) (mapRows drw4) := by
  refine FSpec.intro tab_ok Try.func49 rfl rfl rfl (by kernel_rfl) (by simp) fun w0 => ?_
  simp only [argTM, Nat.zero_add, Nat.reduceAdd]
  repeat refine IW.seq ?_
  refine IW.region_seq tab_ok [some 2] rfl fun X K hX hK => ?_
  simp only [go_sem, if_true, if_false, reduceIte, Nat.reduceEqDiff, Nat.reduceAdd, Nat.reduceLT, Nat.reduceLeDiff, reduceCtorEq]
  refine hK _ _ ?_; clear hX hK X K
  show IW _ _ _ _ _ _ _ _
  repeat refine IW.seq ?_
  refine IW.region_seq tab_ok [some 3] rfl fun X K hX hK => ?_
  simp only [go_sem, if_true, if_false, reduceIte, Nat.reduceEqDiff, Nat.reduceAdd, Nat.reduceLT, Nat.reduceLeDiff, reduceCtorEq]
  refine hK _ _ ?_; clear hX hK X K
  show IW _ _ _ _ _ _ _ _
  repeat refine IW.seq ?_
  refine IW.block ?_
  repeat refine IW.seq ?_
  refine IW.region_seq tab_ok [some 5, some 4] rfl fun X K hX hK => ?_
  simp only [go_sem, if_true, if_false, reduceIte, Nat.reduceEqDiff, Nat.reduceAdd, Nat.reduceLT, Nat.reduceLeDiff, reduceCtorEq]
  refine hK _ _ ?_; clear hX hK X K
  show IW _ _ _ _ _ _ _ _
  repeat refine IW.seq ?_
  refine IW.cond rfl (fun hb => absurd hb (by decide)) (fun hb => ?_)
  repeat refine IW.seq ?_
  refine IW.region_seq tab_ok [some 12, some 11] rfl fun X K hX hK => ?_
  simp only [go_sem, if_true, if_false, reduceIte, Nat.reduceEqDiff, Nat.reduceAdd, Nat.reduceLT, Nat.reduceLeDiff, reduceCtorEq]
  refine hK _ _ ?_; clear hX hK X K
  show IW _ _ _ _ _ _ _ _
  repeat refine IW.seq ?_
  refine IW.cond rfl (fun hb => absurd hb (by decide)) (fun hb => ?_)
  repeat refine IW.seq ?_
  refine IW.region_seq tab_ok [some 19, some 18] rfl fun X K hX hK => ?_
  simp only [go_sem, if_true, if_false, reduceIte, Nat.reduceEqDiff, Nat.reduceAdd, Nat.reduceLT, Nat.reduceLeDiff, reduceCtorEq]
  refine hK _ _ ?_; clear hX hK X K
  show IW _ _ _ _ _ _ _ _
  repeat refine IW.seq ?_
  refine IW.cond rfl (fun hb => absurd hb (by decide)) (fun hb => ?_)
  repeat refine IW.seq ?_
  refine IW.region_seq tab_ok [some 24, some 23] rfl fun X K hX hK => ?_
  simp only [go_sem, if_true, if_false, reduceIte, Nat.reduceEqDiff, Nat.reduceAdd, Nat.reduceLT, Nat.reduceLeDiff, reduceCtorEq]
  refine hK _ _ ?_; clear hX hK X K
  show IW _ _ _ _ _ _ _ _
  repeat refine IW.seq ?_
  refine IW.cond rfl (fun hb => ?_) (fun hb => absurd hb (by decide))
  repeat refine IW.seq ?_
  refine IW.region_seq tab_ok [some 25, some 26, none, some 27, some 2] rfl fun X K hX hK => ?_
  simp only [go_sem, if_true, if_false, reduceIte, Nat.reduceEqDiff, Nat.reduceAdd, Nat.reduceLT, Nat.reduceLeDiff, reduceCtorEq]
  refine hX.quiet _ _ (OpG.of_B rfl opB_makeMap) ?_
  simp only [go_sem, if_true, if_false, reduceIte, Nat.reduceEqDiff, Nat.reduceAdd, Nat.reduceLT, Nat.reduceLeDiff, reduceCtorEq]
  refine hX.quiet _ _ (OpG.of_B rfl (opB_buildSlice tab_ok rfl (by simp [go_sem, if_true, if_false, reduceIte, Nat.reduceEqDiff, Nat.reduceAdd, Nat.reduceLT, Nat.reduceLeDiff, reduceCtorEq]) (by simp [go_sem, if_true, if_false, reduceIte, Nat.reduceEqDiff, Nat.reduceAdd, Nat.reduceLT, Nat.reduceLeDiff, reduceCtorEq]) (by simp) (by simp [go_sem, if_true, if_false, reduceIte, Nat.reduceEqDiff, Nat.reduceAdd, Nat.reduceLT, Nat.reduceLeDiff, reduceCtorEq, bsO, List.map_cons, List.map_nil]))) ?_
  simp only [go_sem, if_true, if_false, reduceIte, Nat.reduceEqDiff, Nat.reduceAdd, Nat.reduceLT, Nat.reduceLeDiff, reduceCtorEq, List.map_cons, List.map_nil]
  refine hX.op _ _ rfl (opS_insert rfl rfl (by simp [go_sem, if_true, if_false, reduceIte, Nat.reduceEqDiff, Nat.reduceAdd, Nat.reduceLT, Nat.reduceLeDiff, reduceCtorEq]) m72 u3 (by simp [go_sem, if_true, if_false, reduceIte, Nat.reduceEqDiff, Nat.reduceAdd, Nat.reduceLT, Nat.reduceLeDiff, reduceCtorEq]) (by simp [go_sem, if_true, if_false, reduceIte, Nat.reduceEqDiff, Nat.reduceAdd, Nat.reduceLT, Nat.reduceLeDiff, reduceCtorEq]) (by simp [go_sem, if_true, if_false, reduceIte, Nat.reduceEqDiff, Nat.reduceAdd, Nat.reduceLT, Nat.reduceLeDiff, reduceCtorEq]) (by decide)) ?_
  simp only [go_sem, if_true, if_false, reduceIte, Nat.reduceEqDiff, Nat.reduceAdd, Nat.reduceLT, Nat.reduceLeDiff, reduceCtorEq, List.nil_append, List.cons_append]
  refine hK _ _ ?_; clear hX hK X K
  show IW _ _ _ _ _ _ _ _
  refine IW.ret (fin_map rfl rfl rfl rfl ⟨rfl, trivial⟩)
def drw5 : List (Int × List ByteArray) := [(1, [⟨#[46, 46, 46, 46, 46, 46]⟩, ⟨#[46, 46, 46, 46, 46, 46]⟩, ⟨#[46, 46, 46, 46, 46, 46]⟩, ⟨#[46, 46, 46, 46, 46, 46]⟩, ⟨#[46, 35, 35, 35, 35, 46]⟩, ⟨#[46, 35, 35, 35, 35, 46]⟩, ⟨#[46, 46, 46, 46, 46, 46]⟩]), (2, [⟨#[46, 46, 46, 46, 46, 46]⟩, ⟨#[46, 35, 35, 35, 35, 46]⟩, ⟨#[46, 35, 35, 35, 35, 46]⟩, ⟨#[46, 46, 46, 46, 46, 46]⟩, ⟨#[46, 46, 46, 46, 46, 46]⟩, ⟨#[46, 46, 46, 46, 46, 46]⟩, ⟨#[46, 46, 46, 46, 46, 46]⟩]), (4, [⟨#[46, 35, 35, 46, 46, 46]⟩, ⟨#[46, 46, 35, 35, 46, 46]⟩, ⟨#[46, 46, 46, 35, 35, 46]⟩, ⟨#[46, 46, 35, 35, 46, 46]⟩, ⟨#[46, 35, 35, 46, 46, 46]⟩, ⟨#[46, 46, 35, 35, 46, 46]⟩, ⟨#[46, 46, 46, 35, 35, 46]⟩]), (8, [⟨#[35, 35, 46, 46, 46, 35]⟩, ⟨#[35, 35, 46, 46, 35, 46]⟩, ⟨#[46, 35, 35, 35, 46, 46]⟩, ⟨#[46, 46, 46, 35, 46, 46]⟩, ⟨#[46, 46, 35, 46, 46, 46]⟩, ⟨#[46, 46, 35, 46, 46, 46]⟩, ⟨#[46, 35, 46, 46, 46, 46]⟩]), (16, [⟨#[35, 35, 46, 46, 46, 35]⟩, ⟨#[35, 35, 46, 46, 35, 46]⟩, ⟨#[46, 35, 35, 35, 46, 46]⟩, ⟨#[35, 35, 46, 35, 46, 46]⟩, ⟨#[35, 35, 35, 35, 46, 46]⟩, ⟨#[46, 46, 35, 46, 46, 46]⟩, ⟨#[46, 35, 46, 46, 46, 46]⟩])]
theorem fDraw5 : FSpec Try.prog 49 [.int .i64 5] (mapSV drw5) (mapRows drw5) := by
  refine FSpec.intro tab_ok Try.func49 rfl rfl rfl (by kernel_rfl) (by simp) fun w0 => ?_
  simp only [argTM, Nat.zero_add, Nat.reduceAdd]
  repeat refine IW.seq ?_
  refine IW.region_seq tab_ok [some 2] rfl fun X K hX hK => ?_
  simp only [go_sem, if_true, if_false, reduceIte, Nat.reduceEqDiff, Nat.reduceAdd, Nat.reduceLT, Nat.reduceLeDiff, reduceCtorEq]
  refine hK _ _ ?_; clear hX hK X K
  show IW _ _ _ _ _ _ _ _
  repeat refine IW.seq ?_
  refine IW.region_seq tab_ok [some 3] rfl fun X K hX hK => ?_
  simp only [go_sem, if_true, if_false, reduceIte, Nat.reduceEqDiff, Nat.reduceAdd, Nat.reduceLT, Nat.reduceLeDiff, reduceCtorEq]
  refine hK _ _ ?_; clear hX hK X K
  show IW _ _ _ _ _ _ _ _
  repeat refine IW.seq ?_
  refine IW.block ?_
  repeat refine IW.seq ?_
  refine IW.region_seq tab_ok [some 5, some 4] rfl fun X K hX hK => ?_
  simp only [go_sem, if_true, if_false, reduceIte, Nat.reduceEqDiff, Nat.reduceAdd, Nat.reduceLT, Nat.reduceLeDiff, reduceCtorEq]
  refine hK _ _ ?_; clear hX hK X K
  show IW _ _ _ _ _ _ _ _
  repeat refine IW.seq ?_
  refine IW.cond rfl (fun hb => absurd hb (by decide)) (fun hb => ?_)
  repeat refine IW.seq ?_
  refine IW.region_seq tab_ok [some 12, some 11] rfl fun X K hX hK => ?_
  simp only [go_sem, if_true, if_false, reduceIte, Nat.reduceEqDiff, Nat.reduceAdd, Nat.reduceLT, Nat.reduceLeDiff, reduceCtorEq]
  refine hK _ _ ?_; clear hX hK X K
  show IW _ _ _ _ _ _ _ _
  repeat refine IW.seq ?_
  refine IW.cond rfl (fun hb => absurd hb (by decide)) (fun hb => ?_)
  repeat refine IW.seq ?_
  refine IW.region_seq tab_ok [some 19, some 18] rfl fun X K hX hK => ?_
  simp only [go_sem, if_true, if_false, reduceIte, Nat.reduceEqDiff, Nat.reduceAdd, Nat.reduceLT, Nat.reduceLeDiff, reduceCtorEq]
  refine hK _ _ ?_; clear hX hK X K
  show IW _ _ _ _ _ _ _ _
  repeat refine IW.seq ?_
  refine IW.cond rfl (fun hb => absurd hb (by decide)) (fun hb => ?_)
  repeat refine IW.seq ?_
  refine IW.region_seq tab_ok [some 24, some 23] rfl fun X K hX hK => ?_
  simp only [go_sem, if_true, if_false, reduceIte, Nat.reduceEqDiff, Nat.reduceAdd, Nat.reduceLT, Nat.reduceLeDiff, reduceCtorEq]
  refine hK _ _ ?_; clear hX hK X K
  show IW _ _ _ _ _ _ _ _
  repeat refine IW.seq ?_
  refine IW.cond rfl (fun hb => absurd hb (by decide)) (fun hb => ?_)
  repeat refine IW.seq ?_
  refine IW.region_seq tab_ok [some 29, some 28] rfl fun X K hX hK => ?_
  simp only [go_sem, if_true, if_false, reduceIte, Nat.reduceEqDiff, Nat.reduceAdd, Nat.reduceLT, Nat.reduceLeDiff, reduceCtorEq]
  refine hK _ _ ?_; clear hX hK X K
  show IW _ _ _ _ _ _ _ _
  repeat refine IW.seq ?_
  refine IW.cond rfl (fun hb => ?_) (fun hb => absurd hb (by decide))
  repeat refine IW.seq ?_
  refine IW.region_seq tab_ok [some 30, some 31, none, some 32, none, some 33, none, some 34, none, some 35, none, some 36, some 2] rfl fun X K hX hK => ?_
  simp only [go_sem, if_true, if_false, reduceIte, Nat.reduceEqDiff, Nat.reduceAdd, Nat.reduceLT, Nat.reduceLeDiff, reduceCtorEq]
  refine hX.quiet _ _ (OpG.of_B rfl opB_makeMap) ?_
  simp only [go_sem, if_true, if_false, reduceIte, Nat.reduceEqDiff, Nat.reduceAdd, Nat.reduceLT, Nat.reduceLeDiff, reduceCtorEq]
  refine hX.quiet _ _ (OpG.of_B rfl (opB_buildSlice tab_ok rfl (by simp [go_sem, if_true, if_false, reduceIte, Nat.reduceEqDiff, Nat.reduceAdd, Nat.reduceLT, Nat.reduceLeDiff, reduceCtorEq]) (by simp [go_sem, if_true, if_false, reduceIte, Nat.reduceEqDiff, Nat.reduceAdd, Nat.reduceLT, Nat.reduceLeDiff, reduceCtorEq]) (by simp) (by simp [go_sem, if_true, if_false, reduceIte, Nat.reduceEqDiff, Nat.reduceAdd, Nat.reduceLT, Nat.reduceLeDiff, reduceCtorEq, bsO, List.map_cons, List.map_nil]))) ?_
  simp only [go_sem, if_true, if_false, reduceIte, Nat.reduceEqDiff, Nat.reduceAdd, Nat.reduceLT, Nat.reduceLeDiff, reduceCtorEq, List.map_cons, List.map_nil]
  refine hX.op _ _ rfl (opS_insert rfl rfl (by simp [go_sem, if_true, if_false, reduceIte, Nat.reduceEqDiff, Nat.reduceAdd, Nat.reduceLT, Nat.reduceLeDiff, reduceCtorEq]) m72 u3 (by simp [go_sem, if_true, if_false, reduceIte, Nat.reduceEqDiff, Nat.reduceAdd, Nat.reduceLT, Nat.reduceLeDiff, reduceCtorEq]) (by simp [go_sem, if_true, if_false, reduceIte, Nat.reduceEqDiff, Nat.reduceAdd, Nat.reduceLT, Nat.reduceLeDiff, reduceCtorEq]) (by simp [go_sem, if_true, if_false, reduceIte, Nat.reduceEqDiff, Nat.reduceAdd, Nat.reduceLT, Nat.reduceLeDiff, reduceCtorEq]) (by decide)) ?_
  simp only [go_sem, if_true, if_false, reduceIte, Nat.reduceEqDiff, Nat.reduceAdd, Nat.reduceLT, Nat.reduceLeDiff, reduceCtorEq, List.nil_append, List.cons_append]
  refine hX.quiet _ _ (OpG.of_B rfl (opB_buildSlice tab_ok rfl (by simp [go_sem, if_true, if_false, reduceIte, Nat.reduceEqDiff, Nat.reduceAdd, Nat.reduceLT, Nat.reduceLeDiff, reduceCtorEq]) (by simp [go_sem, if_true, if_false, reduceIte, Nat.reduceEqDiff, Nat.reduceAdd, Nat.reduceLT, Nat.reduceLeDiff, reduceCtorEq]) (by simp) (by simp [go_sem, if_true, if_false, reduceIte, Nat.reduceEqDiff, Nat.reduceAdd, Nat.reduceLT, Nat.reduceLeDiff, reduceCtorEq, bsO, List.map_cons, List.map_nil]))) ?_
  simp only [go_sem, if_true, if_false, reduceIte, Nat.reduceEqDiff, Nat.reduceAdd, Nat.reduceLT, Nat.reduceLeDiff, reduceCtorEq, List.map_cons, List.map_nil]
  refine hX.op _ _ rfl (opS_insert rfl rfl (by simp [go_sem, if_true, if_false, reduceIte, Nat.reduceEqDiff, Nat.reduceAdd, Nat.reduceLT, Nat.reduceLeDiff, reduceCtorEq]) m72 u3 (by simp [go_sem, if_true, if_false, reduceIte, Nat.reduceEqDiff, Nat.reduceAdd, Nat.reduceLT, Nat.reduceLeDiff, reduceCtorEq]) (by simp [go_sem, if_true, if_false, reduceIte, Nat.reduceEqDiff, Nat.reduceAdd, Nat.reduceLT, Nat.reduceLeDiff, reduceCtorEq]) (by simp [go_sem, if_true, if_false, reduceIte, Nat.reduceEqDiff, Nat.reduceAdd, Nat.reduceLT, Nat.reduceLeDiff, reduceCtorEq]) (by decide)) ?_
  simp only [go_sem, if_true, if_false, reduceIte, Nat.reduceEqDiff, Nat.reduceAdd, Nat.reduceLT, Nat.reduceLeDiff, reduceCtorEq, List.nil_append, List.cons_append]
  refine hX.quiet _ _ (OpG.of_B rfl (opB_buildSlice tab_ok rfl (by simp [go_sem, if_true, if_false, reduceIte, Nat.reduceEqDiff, Nat.reduceAdd, Nat.reduceLT, Nat.reduceLeDiff, reduceCtorEq]) (by simp [go_sem, if_true, if_false, reduceIte, Nat.reduceEqDiff, Nat.reduceAdd, Nat.reduceLT, Nat.reduceLeDiff, reduceCtorEq]) (by simp) (by simp [go_sem, if_true, if_false, reduceIte, Nat.reduceEqDiff, Nat.reduceAdd, Nat.reduceLT, Nat.reduceLeDiff, reduceCtorEq, bsO, List.map_cons, List.map_nil]))) ?_
  simp only [go_sem, if_true, if_false, reduceIte, Nat.reduceEqDiff, Nat.reduceAdd, Nat.reduceLT, Nat.reduceLeDiff, reduceCtorEq, List.map_cons, List.map_nil]
  refine hX.op _ _ rfl (opS_insert rfl rfl (by simp [go_sem, if_true, if_false, reduceIte, Nat.reduceEqDiff, Nat.reduceAdd, Nat.reduceLT, Nat.reduceLeDiff, reduceCtorEq]) m72 u3 (by simp [go_sem, if_true, if_false, reduceIte, Nat.reduceEqDiff, Nat.reduceAdd, Nat.reduceLT, Nat.reduceLeDiff, reduceCtorEq]) (by simp [go_sem, if_true, if_false, reduceIte, Nat.reduceEqDiff, Nat.reduceAdd, Nat.reduceLT, Nat.reduceLeDiff, reduceCtorEq]) (by simp [go_sem, if_true, if_false, reduceIte, Nat.reduceEqDiff, Nat.reduceAdd, Nat.reduceLT, Nat.reduceLeDiff, reduceCtorEq]) (by decide)) ?_
  simp only [go_sem, if_true, if_false, reduceIte, Nat.reduceEqDiff, Nat.reduceAdd, Nat.reduceLT, Nat.reduceLeDiff, reduceCtorEq, List.nil_append, List.cons_append]
  refine hX.quiet _ _ (OpG.of_B rfl (opB_buildSlice tab_ok rfl (by simp [go_sem, if_true, if_false, reduceIte, Nat.reduceEqDiff, Nat.reduceAdd, Nat.reduceLT, Nat.reduceLeDiff, reduceCtorEq]) (by simp [go_sem, if_true, if_false, reduceIte, Nat.reduceEqDiff, Nat.reduceAdd, Nat.reduceLT, Nat.reduceLeDiff, reduceCtorEq]) (by simp) (by simp [go_sem, if_true, if_false, reduceIte, Nat.reduceEqDiff, Nat.reduceAdd, Nat.reduceLT, Nat.reduceLeDiff, reduceCtorEq, bsO, List.map_cons, List.map_nil]))) ?_
  simp only [go_sem, if_true, if_false, reduceIte, Nat.reduceEqDiff, Nat.reduceAdd, Nat.reduceLT, Nat.reduceLeDiff, reduceCtorEq, List.map_cons, List.map_nil]
  refine hX.op _ _ rfl (opS_insert rfl rfl (by simp [go_sem, if_true, if_false, reduceIte, Nat.reduceEqDiff, Nat.reduceAdd, Nat.reduceLT, Nat.reduceLeDiff, reduceCtorEq]) m72 u3 (by simp [go_sem, if_true, if_false, reduceIte, Nat.reduceEqDiff, Nat.reduceAdd, Nat.reduceLT, Nat.reduceLeDiff, reduceCtorEq]) (by simp [go_sem, if_true, if_false, reduceIte, Nat.reduceEqDiff, Nat.reduceAdd, Nat.reduceLT, Nat.reduceLeDiff, reduceCtorEq]) (by simp [go_sem, if_true, if_false, reduceIte, Nat.reduceEqDiff, Nat.reduceAdd, Nat.reduceLT, Nat.reduceLeDiff, reduceCtorEq]) (by decide)) ?_
  simp only [go_sem, if_true, if_false, reduceIte, Nat.reduceEqDiff, Nat.reduceAdd, Nat.reduceLT, Nat.reduceLeDiff, reduceCtorEq, List.nil_append, List.cons_append]
  refine hX.quiet _ _ (OpG.of_B rfl (opB_buildSlice tab_ok rfl (by simp [go_sem, if_true, if_false, reduceIte, Nat.reduceEqDiff, Nat.reduceAdd, Nat.reduceLT, Nat.reduceLeDiff, reduceCtorEq]) (by simp [go_sem, if_true, if_false, reduceIte, Nat.reduceEqDiff, Nat.reduceAdd, Nat.reduceLT, Nat.reduceLeDiff, reduceCtorEq]) (by simp) (by simp [go_sem, if_true, if_false, reduceIte, Nat.reduceEqDiff, Nat.reduceAdd, Nat.reduceLT, Nat.reduceLeDiff, reduceCtorEq, bsO, List.map_cons, List.map_nil]))) ?_
  simp only [go_sem, if_true, if_false, reduceIte, Nat.reduceEqDiff, Nat.reduceAdd, Nat.reduceLT, Nat.reduceLeDiff, reduceCtorEq, List.map_cons, List.map_nil]
  refine hX.op _ _ rfl (opS_insert rfl rfl (by simp [go_sem, if_true, if_false, reduceIte, Nat.reduceEqDiff, Nat.reduceAdd, Nat.reduceLT, Nat.reduceLeDiff, reduceCtorEq]) m72 u3 (by simp [go_sem, if_true, if_false, reduceIte, Nat.reduceEqDiff, Nat.reduceAdd, Nat.reduceLT, Nat.reduceLeDiff, reduceCtorEq]) (by simp [go_sem, if_true, if_false, reduceIte, Nat.reduceEqDiff, Nat.reduceAdd, Nat.reduceLT, Nat.reduceLeDiff, reduceCtorEq]) (by simp [go_sem, if_true, if_false, reduceIte, Nat.reduceEqDiff, Nat.reduceAdd, Nat.reduceLT, Nat.reduceLeDiff, reduceCtorEq]) (by decide)) ?_
  simp only [go_sem, if_true, if_false, reduceIte, Nat.reduceEqDiff, Nat.reduceAdd, Nat.reduceLT, Nat.reduceLeDiff, reduceCtorEq, List.nil_append, List.cons_append]
  refine hK _ _ ?_; clear hX hK X K
  show IW _ _ _ _ _ _ _ _
  refine IW.ret (fin_map rfl rfl rfl rfl ⟨rfl, rfl, rfl, rfl, rfl, trivial⟩)
def drw6 : List (Int × List ByteArray) := [(1, [⟨#[46, 35, 35, 35, 35, 35]⟩, ⟨#[35, 35, 46, 46, 46, 46]⟩, ⟨#[35, 35, 46, 35, 35, 35]⟩, ⟨#[35, 35, 46, 46, 35, 35]⟩, ⟨#[46, 35, 35, 35, 35, 35]⟩]), (2, [⟨#[46, 35, 35, 35, 35, 35]⟩, ⟨#[35, 35, 46, 46, 46, 46]⟩, ⟨#[35, 35, 46, 46, 46, 46]⟩, ⟨#[35, 35, 46, 46, 46, 46]⟩, ⟨#[46, 35, 35, 35, 35, 35]⟩]), (3, [⟨#[35, 35, 35, 35, 35, 35]⟩, ⟨#[35, 35, 46, 46, 46, 46]⟩, ⟨#[35, 35, 35, 35, 35, 46]⟩, ⟨#[35, 35, 46, 46, 46, 46]⟩, ⟨#[35, 35, 46, 46, 46, 46]⟩])]
theorem fDraw6 : FSpec Try.prog 49 [.int .i64 6] (mapSV drw6) (mapRows drw6) := by
  refine FSpec.intro tab_ok Try.func49 rfl rfl rfl (by kernel_rfl) (by simp) fun w0 => ?_
  simp only [argTM, Nat.zero_add, Nat.reduceAdd]
  repeat refine IW.seq ?_
  refine IW.region_seq tab_ok [some 2] rfl fun X K hX hK => ?_
  simp only [go_sem, if_true, if_false, reduceIte, Nat.reduceEqDiff, Nat.reduceAdd, Nat.reduceLT, Nat.reduceLeDiff, reduceCtorEq]
  refine hK _ _ ?_; clear hX hK X K
  show IW _ _ _ _ _ _ _ _
  repeat refine IW.seq ?_
  refine IW.region_seq tab_ok [some 3] rfl fun X K hX hK => ?_
  simp only [go_sem, if_true, if_false, reduceIte, Nat.reduceEqDiff, Nat.reduceAdd, Nat.reduceLT, Nat.reduceLeDiff, reduceCtorEq]
  refine hK _ _ ?_; clear hX hK X K
  show IW _ _ _ _ _ _ _ _
  repeat refine IW.seq ?_
  refine IW.block ?_
  repeat refine IW.seq ?_
  refine IW.region_seq tab_ok [some 5, some 4] rfl fun X K hX hK => ?_
  simp only [go_sem, if_true, if_false, reduceIte, Nat.reduceEqDiff, Nat.reduceAdd, Nat.reduceLT, Nat.reduceLeDiff, reduceCtorEq]
  refine hK _ _ ?_; clear hX hK X K
  show IW _ _ _ _ _ _ _ _
  repeat refine IW.seq ?_
  refine IW.cond rfl (fun hb => absurd hb (by decide)) (fun hb => ?_)
  repeat refine IW.seq ?_
  refine IW.region_seq tab_ok [some 12, some 11] rfl fun X K hX hK => ?_
  simp only [go_sem, if_true, if_false, reduceIte, Nat.reduceEqDiff, Nat.reduceAdd, Nat.reduceLT, Nat.reduceLeDiff, reduceCtorEq]
  refine hK _ _ ?_; clear hX hK X K
  show IW _ _ _ _ _ _ _ _
  repeat refine IW.seq ?_
  refine IW.cond rfl (fun hb => absurd hb (by decide)) (fun hb => ?_)
  repeat refine IW.seq ?_
  refine IW.region_seq tab_ok [some 19, some 18] rfl fun X K hX hK => ?_
  simp only [go_sem, if_true, if_false, reduceIte, Nat.reduceEqDiff, Nat.reduceAdd, Nat.reduceLT, Nat.reduceLeDiff, reduceCtorEq]
  refine hK _ _ ?_; clear hX hK X K
  show IW _ _ _ _ _ _ _ _
  repeat refine IW.seq ?_
  refine IW.cond rfl (fun hb => absurd hb (by decide)) (fun hb => ?_)
  repeat refine IW.seq ?_
  refine IW.region_seq tab_ok [some 24, some 23] rfl fun X K hX hK => ?_
  simp only [go_sem, if_true, if_false, reduceIte, Nat.reduceEqDiff, Nat.reduceAdd, Nat.reduceLT, Nat.reduceLeDiff, reduceCtorEq]
  refine hK _ _ ?_; clear hX hK X K
  show IW _ _ _ _ _ _ _ _
  repeat refine IW.seq ?_
  refine IW.cond rfl (fun hb => absurd hb (by decide)) (fun hb => ?_)
  repeat refine IW.seq ?_
  refine IW.region_seq tab_ok [some 29, some 28] rfl fun X K hX hK => ?_
  simp only [go_sem, if_true, if_false, reduceIte, Nat.reduceEqDiff, Nat.reduceAdd, Nat.reduceLT, Nat.reduceLeDiff, reduceCtorEq]
  refine hK _ _ ?_; clear hX hK X K
  show IW _ _ _ _ _ _ _ _
  repeat refine IW.seq ?_
  refine IW.cond rfl (fun hb => absurd hb (by decide)) (fun hb => ?_)
  repeat refine IW.seq ?_
  refine IW.region_seq tab_ok [some 38, some 37] rfl fun X K hX hK => ?_
  simp only [go_sem, if_true, if_false, reduceIte, Nat.reduceEqDiff, Nat.reduceAdd, Nat.reduceLT, Nat.reduceLeDiff, reduceCtorEq]
  refine hK _ _ ?_; clear hX hK X K
  show IW _ _ _ _ _ _ _ _
  repeat refine IW.seq ?_
  refine IW.cond rfl (fun hb => ?_) (fun hb => absurd hb (by decide))
  repeat refine IW.seq ?_
  refine IW.region_seq tab_ok [some 39, some 40, none, some 41, none, some 42, none, some 43, some 2] rfl fun X K hX hK => ?_
  simp only [go_sem, if_true, if_false, reduceIte, Nat.reduceEqDiff, Nat.reduceAdd, Nat.reduceLT, Nat.reduceLeDiff, reduceCtorEq]
  refine hX.quiet _ _ (OpG.of_B rfl opB_makeMap) ?_
  simp only [go_sem, if_true, if_false, reduceIte, Nat.reduceEqDiff, Nat.reduceAdd, Nat.reduceLT, Nat.reduceLeDiff, reduceCtorEq]
  refine hX.quiet _ _ (OpG.of_B rfl (opB_buildSlice tab_ok rfl (by simp [go_sem, if_true, if_false, reduceIte, Nat.reduceEqDiff, Nat.reduceAdd, Nat.reduceLT, Nat.reduceLeDiff, reduceCtorEq]) (by simp [go_sem, if_true, if_false, reduceIte, Nat.reduceEqDiff, Nat.reduceAdd, Nat.reduceLT, Nat.reduceLeDiff, reduceCtorEq]) (by simp) (by simp [go_sem, if_true, if_false, reduceIte, Nat.reduceEqDiff, Nat.reduceAdd, Nat.reduceLT, Nat.reduceLeDiff, reduceCtorEq, bsO, List.map_cons, List.map_nil]))) ?_
  simp only [go_sem, if_true, if_false, reduceIte, Nat.reduceEqDiff, Nat.reduceAdd, Nat.reduceLT, Nat.reduceLeDiff, reduceCtorEq, List.map_cons, List.map_nil]
  refine hX.op _ _ rfl (opS_insert rfl rfl (by simp [go_sem, if_true, if_false, reduceIte, Nat.reduceEqDiff, Nat.reduceAdd, Nat.reduceLT, Nat.reduceLeDiff, reduceCtorEq]) m72 u3 (by simp [go_sem, if_true, if_false, reduceIte, Nat.reduceEqDiff, Nat.reduceAdd, Nat.reduceLT, Nat.reduceLeDiff, reduceCtorEq]) (by simp [go_sem, if_true, if_false, reduceIte, Nat.reduceEqDiff, Nat.reduceAdd, Nat.reduceLT, Nat.reduceLeDiff, reduceCtorEq]) (by simp [go_sem, if_true, if_false, reduceIte, Nat.reduceEqDiff, Nat.reduceAdd, Nat.reduceLT, Nat.reduceLeDiff, reduceCtorEq]) (by decide)) ?_
  simp only [go_sem, if_true, if_false, reduceIte, Nat.reduceEqDiff, Nat.reduceAdd, Nat.reduceLT, Nat.reduceLeDiff, reduceCtorEq, List.nil_append, List.cons_append]
  refine hX.quiet _ _ (OpG.of_B rfl (opB_buildSlice tab_ok rfl (by simp [go_sem, if_true, if_false, reduceIte, Nat.reduceEqDiff, Nat.reduceAdd, Nat.reduceLT, Nat.reduceLeDiff, reduceCtorEq]) (by simp [go_sem, if_true, if_false, reduceIte, Nat.reduceEqDiff, Nat.reduceAdd, Nat.reduceLT, Nat.reduceLeDiff, reduceCtorEq]) (by simp) (by simp [go_sem, if_true, if_false, reduceIte, Nat.reduceEqDiff, Nat.reduceAdd, Nat.reduceLT, Nat.reduceLeDiff, reduceCtorEq, bsO, List.map_cons, List.map_nil]))) ?_
  simp only [go_sem, if_true, if_false, reduceIte, Nat.reduceEqDiff, Nat.reduceAdd, Nat.reduceLT, Nat.reduceLeDiff, reduceCtorEq, List.map_cons, List.map_nil]
  refine hX.op _ _ rfl (opS_insert rfl rfl (by simp [go_sem, if_true, if_false, reduceIte, Nat.reduceEqDiff, Nat.reduceAdd, Nat.reduceLT, Nat.reduceLeDiff, reduceCtorEq]) m72 u3 (by simp [go_sem, if_true, if_false, reduceIte, Nat.reduceEqDiff, Nat.reduceAdd, Nat.reduceLT, Nat.reduceLeDiff, reduceCtorEq]) (by simp [go_sem, if_true, if_false, reduceIte, Nat.reduceEqDiff, Nat.reduceAdd, Nat.reduceLT, Nat.reduceLeDiff, reduceCtorEq]) (by simp [go_sem, if_true, if_false, reduceIte, Nat.reduceEqDiff, Nat.reduceAdd, Nat.reduceLT, Nat.reduceLeDiff, reduceCtorEq]) (by decide)) ?_
  simp only [go_sem, if_true, if_false, reduceIte, Nat.reduceEqDiff, Nat.reduceAdd, Nat.reduceLT, Nat.reduceLeDiff, reduceCtorEq, List.nil_append, List.cons_append]
  refine hX.quiet _ _ (OpG.of_B rfl (opB_buildSlice tab_ok rfl (by simp [go_sem, if_true, if_false, reduceIte, Nat.reduceEqDiff, Nat.reduceAdd, Nat.reduceLT, Nat.reduceLeDiff, reduceCtorEq]) (by simp [go_sem, if_true, if_false, reduceIte, Nat.reduceEqDiff, Nat.reduceAdd, Nat.reduceLT, Nat.reduceLeDiff, reduceCtorEq]) (by simp) (by simp [go_sem, if_true, if_false, reduceIte, Nat.reduceEqDiff, Nat.reduceAdd, Nat.reduceLT, Nat.reduceLeDiff, reduceCtorEq, bsO, List.map_cons, List.map_nil]))) ?_
  simp only [go_sem, if_true, if_false, reduceIte, Nat.reduceEqDiff, Nat.reduceAdd, Nat.reduceLT, Nat.reduceLeDiff, reduceCtorEq, List.map_cons, List.map_nil]
  refine hX.op _ _ rfl (opS_insert rfl rfl (by simp [go_sem, if_true, if_false, reduceIte, Nat.reduceEqDiff, Nat.reduceAdd, Nat.reduceLT, Nat.reduceLeDiff, reduceCtorEq]) m72 u3 (by simp [go_sem, if_true, if_false, reduceIte, Nat.reduceEqDiff, Nat.reduceAdd, Nat.reduceLT, Nat.reduceLeDiff, reduceCtorEq]) (by simp [go_sem, if_true, if_false, reduceIte, Nat.reduceEqDiff, Nat.reduceAdd, Nat.reduceLT, Nat.reduceLeDiff, reduceCtorEq]) (by simp [go_sem, if_true, if_false, reduceIte, Nat.reduceEqDiff, Nat.reduceAdd, Nat.reduceLT, Nat.reduceLeDiff, reduceCtorEq]) (by decide)) ?_
  simp only [go_sem, if_true, if_false, reduceIte, Nat.reduceEqDiff, Nat.reduceAdd, Nat.reduceLT, Nat.reduceLeDiff, reduceCtorEq, List.nil_append, List.cons_append]
  refine hK _ _ ?_; clear hX hK X K
  show IW _ _ _ _ _ _ _ _
  refine IW.ret (fin_map rfl rfl rfl rfl ⟨rfl, rfl, rfl, trivial⟩)
def drw7 : List (Int × List ByteArray) := [(1, [⟨#[46, 46, 35, 46]⟩, ⟨#[46, 35, 35, 46]⟩, ⟨#[46, 46, 35, 46]⟩, ⟨#[46, 46, 35, 46]⟩, ⟨#[46, 35, 35, 35]⟩]), (2, [⟨#[35, 35, 35, 46]⟩, ⟨#[46, 46, 46, 35]⟩, ⟨#[46, 35, 35, 46]⟩, ⟨#[35, 46, 46, 46]⟩, ⟨#[35, 35, 35, 35]⟩]), (3, [⟨#[35, 35, 35, 46]⟩, ⟨#[46, 46, 46, 35]⟩, ⟨#[46, 35, 35, 46]⟩, ⟨#[46, 46, 46, 35]⟩, ⟨#[35, 35, 35, 46]⟩]), (4, [⟨#[35, 46, 46, 35]⟩, ⟨#[35, 46, 46, 35]⟩, ⟨#[35, 35, 35, 35]⟩, ⟨#[46, 46, 46, 35]⟩, ⟨#[46, 46, 46, 35]⟩]), (5, [⟨#[35, 35, 35, 35]⟩, ⟨#[35, 46, 46, 46]⟩, ⟨#[35, 35, 35, 46]⟩, ⟨#[46, 46, 46, 35]⟩, ⟨#[35, 35, 35, 46]⟩]), (6, [⟨#[46, 35, 35, 46]⟩, ⟨#[35, 46, 46, 46]⟩, ⟨#[35, 35, 35, 46]⟩, ⟨#[35, 46, 46, 35]⟩, ⟨#[46, 35, 35, 46]⟩]), (7, [⟨#[35, 35, 35, 35]⟩, ⟨#[46, 46, 46, 35]⟩, ⟨#[46, 46, 35, 46]⟩, ⟨#[46, 35, 46, 46]⟩, ⟨#[46, 35, 46, 46]⟩]), (8, [⟨#[46, 35, 35, 46]⟩, ⟨#[35, 46, 46, 35]⟩, ⟨#[46, 35, 35, 46]⟩, ⟨#[35, 46, 46, 35]⟩, ⟨#[46, 35, 35, 46]⟩]), (9, [⟨#[46, 35, 35, 46]⟩, ⟨#[35, 46, 46, 35]⟩, ⟨#[46, 35, 35, 35]⟩, ⟨#[46, 46, 46, 35]⟩, ⟨#[46, 35, 35, 46]⟩])]
theorem fDraw7 : FSpec Try.prog 49 [.int .i64 7] (mapSV drw7) (mapRows drw7) := by
  refine FSpec.intro tab_ok Try.func49 rfl rfl rfl (by kernel_rfl) (by simp) fun w0 => ?_
  simp only [argTM, Nat.zero_add, Nat.reduceAdd]
  repeat refine IW.seq ?_
  refine IW.region_seq tab_ok [some 2] rfl fun X K hX hK => ?_
  simp only [go_sem, if_true, if_false, reduceIte, Nat.reduceEqDiff, Nat.reduceAdd, Nat.reduceLT, Nat.reduceLeDiff, reduceCtorEq]
  refine hK _ _ ?_; clear hX hK X K
  show IW _ _ _ _ _ _ _ _
  repeat refine IW.seq ?_
  refine IW.region_seq tab_ok [some 3] rfl fun X K hX hK => ?_
  simp only [go_sem, if_true, if_false, reduceIte, Nat.reduceEqDiff, Nat.reduceAdd, Nat.reduceLT, Nat.reduceLeDiff, reduceCtorEq]
  refine hK _ _ ?_; clear hX hK X K
  show IW _ _ _ _ _ _ _ _
  repeat refine IW.seq ?_
  refine IW.block ?_
  repeat refine IW.seq ?_
  refine IW.region_seq tab_ok [some 5, some 4] rfl fun X K hX hK => ?_
  simp only [go_sem, if_true, if_false, reduceIte, Nat.reduceEqDiff, Nat.reduceAdd, Nat.reduceLT, Nat.reduceLeDiff, reduceCtorEq]
  refine hK _ _ ?_; clear hX hK X K
  show IW _ _ _ _ _ _ _ _
  repeat refine IW.seq ?_
  refine IW.cond rfl (fun hb => absurd hb (by decide)) (fun hb => ?_)
  repeat refine IW.seq ?_
  refine IW.region_seq tab_ok [some 12, some 11] rfl fun X K hX hK => ?_
  simp only [go_sem, if_true, if_false, reduceIte, Nat.reduceEqDiff, Nat.reduceAdd, Nat.reduceLT, Nat.reduceLeDiff, reduceCtorEq]
  refine hK _ _ ?_; clear hX hK X K
  show IW _ _ _ _ _ _ _ _
  repeat refine IW.seq ?_
  refine IW.cond rfl (fun hb => absurd hb (by decide)) (fun hb => ?_)
  repeat refine IW.seq ?_
  refine IW.region_seq tab_ok [some 19, some 18] rfl fun X K hX hK => ?_
  simp only [go_sem, if_true, if_false, reduceIte, Nat.reduceEqDiff, Nat.reduceAdd, Nat.reduceLT, Nat.reduceLeDiff, reduceCtorEq]
  refine hK _ _ ?_; clear hX hK X K
  show IW _ _ _ _ _ _ _ _
  repeat refine IW.seq ?_
  refine IW.cond rfl (fun hb => absurd hb (by decide)) (fun hb => ?_)
  repeat refine IW.seq ?_
  refine IW.region_seq tab_ok [some 24, some 23] rfl fun X K hX hK => ?_
  simp only [go_sem, if_true, if_false, reduceIte, Nat.reduceEqDiff, Nat.reduceAdd, Nat.reduceLT, Nat.reduceLeDiff, reduceCtorEq]
  refine hK _ _ ?_; clear hX hK X K
  show IW _ _ _ _ _ _ _ _
  repeat refine IW.seq ?_
  refine IW.cond rfl (fun hb => absurd hb (by decide)) (fun hb => ?_)
  repeat refine IW.seq ?_
  refine IW.region_seq tab_ok [some 29, some 28] rfl fun X K hX hK => ?_
  simp only [go_sem, if_true, if_false, reduceIte, Nat.reduceEqDiff, Nat.reduceAdd, Nat.reduceLT, Nat.reduceLeDiff, reduceCtorEq]
  refine hK _ _ ?_; clear hX hK X K
  show IW _ _ _ _ _ _ _ _
  repeat refine IW.seq ?_
  refine IW.cond rfl (fun hb => absurd hb (by decide)) (fun hb => ?_)
  repeat refine IW.seq ?_
  refine IW.region_seq tab_ok [some 38, some 37] rfl fun X K hX hK => ?_
  simp only [go_sem, if_true, if_false, reduceIte, Nat.reduceEqDiff, Nat.reduceAdd, Nat.reduceLT, Nat.reduceLeDiff, reduceCtorEq]
  refine hK _ _ ?_; clear hX hK X K
  show IW _ _ _ _ _ _ _ _
  repeat refine IW.seq ?_
  refine IW.cond rfl (fun hb => absurd hb (by decide)) (fun hb => ?_)
  repeat refine IW.seq ?_
  refine IW.region_seq tab_ok [some 45, some 44] rfl fun X K hX hK => ?_
  simp only [go_sem, if_true, if_false, reduceIte, Nat.reduceEqDiff, Nat.reduceAdd, Nat.reduceLT, Nat.reduceLeDiff, reduceCtorEq]
  refine hK _ _ ?_; clear hX hK X K
  show IW _ _ _ _ _ _ _ _
  repeat refine IW.seq ?_
  refine IW.cond rfl (fun hb => ?_) (fun hb => absurd hb (by decide))
  repeat refine IW.seq ?_
  refine IW.region_seq tab_ok [some 46, some 47, none, some 48, none, some 49, none, some 50, none, some 51, none, some 52, none, some 53, none, some 54, none, some 55, none, some 56, some 2] rfl fun X K hX hK => ?_
  simp only [go_sem, if_true, if_false, reduceIte, Nat.reduceEqDiff, Nat.reduceAdd, Nat.reduceLT, Nat.reduceLeDiff, reduceCtorEq]
  refine hX.quiet _ _ (OpG.of_B rfl opB_makeMap) ?_
  simp only [go_sem, if_true, if_false, reduceIte, Nat.reduceEqDiff, Nat.reduceAdd, Nat.reduceLT, Nat.reduceLeDiff, reduceCtorEq]
  refine hX.quiet _ _ (OpG.of_B rfl (opB_buildSlice tab_ok rfl (by simp [go_sem, if_true, if_false, reduceIte, Nat.reduceEqDiff, Nat.reduceAdd, Nat.reduceLT, Nat.reduceLeDiff, reduceCtorEq]) (by simp [go_sem, if_true, if_false, reduceIte, Nat.reduceEqDiff, Nat.reduceAdd, Nat.reduceLT, Nat.reduceLeDiff, reduceCtorEq]) (by simp) (by simp [go_sem, if_true, if_false, reduceIte, Nat.reduceEqDiff, Nat.reduceAdd, Nat.reduceLT, Nat.reduceLeDiff, reduceCtorEq, bsO, List.map_cons, List.map_nil]))) ?_
  simp only [go_sem, if_true, if_false, reduceIte, Nat.reduceEqDiff, Nat.reduceAdd, Nat.reduceLT, Nat.reduceLeDiff, reduceCtorEq, List.map_cons, List.map_nil]
  refine hX.op _ _ rfl (opS_insert rfl rfl (by simp [go_sem, if_true, if_false, reduceIte, Nat.reduceEqDiff, Nat.reduceAdd, Nat.reduceLT, Nat.reduceLeDiff, reduceCtorEq]) m72 u3 (by simp [go_sem, if_true, if_false, reduceIte, Nat.reduceEqDiff, Nat.reduceAdd, Nat.reduceLT, Nat.reduceLeDiff, reduceCtorEq]) (by simp [go_sem, if_true, if_false, reduceIte, Nat.reduceEqDiff, Nat.reduceAdd, Nat.reduceLT, Nat.reduceLeDiff, reduceCtorEq]) (by simp [go_sem, if_true, if_false, reduceIte, Nat.reduceEqDiff, Nat.reduceAdd, Nat.reduceLT, Nat.reduceLeDiff, reduceCtorEq]) (by decide)) ?_
  simp only [go_sem, if_true, if_false, reduceIte, Nat.reduceEqDiff, Nat.reduceAdd, Nat.reduceLT, Nat.reduceLeDiff, reduceCtorEq, List.nil_append, List.cons_append]
  refine hX.quiet _ _ (OpG.of_B rfl (opB_buildSlice tab_ok rfl (by simp [go_sem, if_true, if_false, reduceIte, Nat.reduceEqDiff, Nat.reduceAdd, Nat.reduceLT, Nat.reduceLeDiff, reduceCtorEq]) (by simp [go_sem, if_true, if_false, reduceIte, Nat.reduceEqDiff, Nat.reduceAdd, Nat.reduceLT, Nat.reduceLeDiff, reduceCtorEq]) (by simp) (by simp [go_sem, if_true, if_false, reduceIte, Nat.reduceEqDiff, Nat.reduceAdd, Nat.reduceLT, Nat.reduceLeDiff, reduceCtorEq, bsO, List.map_cons, List.map_nil]))) ?_
  simp only [go_sem, if_true, if_false, reduceIte, Nat.reduceEqDiff, Nat.reduceAdd, Nat.reduceLT, Nat.reduceLeDiff, reduceCtorEq, List.map_cons, List.map_nil]
  refine hX.op _ _ rfl (opS_insert rfl rfl (by simp [go_sem, if_true, if_false, reduceIte, Nat.reduceEqDiff, Nat.reduceAdd, Nat.reduceLT, Nat.reduceLeDiff, reduceCtorEq]) m72 u3 (by simp [go_sem, if_true, if_false, reduceIte, Nat.reduceEqDiff, Nat.reduceAdd, Nat.reduceLT, Nat.reduceLeDiff, reduceCtorEq]) (by simp [go_sem, if_true, if_false, reduceIte, Nat.reduceEqDiff, Nat.reduceAdd, Nat.reduceLT, Nat.reduceLeDiff, reduceCtorEq]) (by simp [go_sem, if_true, if_false, reduceIte, Nat.reduceEqDiff, Nat.reduceAdd, Nat.reduceLT, Nat.reduceLeDiff, reduceCtorEq]) (by decide)) ?_
  simp only [go_sem, if_true, if_false, reduceIte, Nat.reduceEqDiff, Nat.reduceAdd, Nat.reduceLT, Nat.reduceLeDiff, reduceCtorEq, List.nil_append, List.cons_append]
  refine hX.quiet _ _ (OpG.of_B rfl (opB_buildSlice tab_ok rfl (by simp [go_sem, if_true, if_false, reduceIte, Nat.reduceEqDiff, Nat.reduceAdd, Nat.reduceLT, Nat.reduceLeDiff, reduceCtorEq]) (by simp [go_sem, if_true, if_false, reduceIte, Nat.reduceEqDiff, Nat.reduceAdd, Nat.reduceLT, Nat.reduceLeDiff, reduceCtorEq]) (by simp) (by simp [go_sem, if_true, if_false, reduceIte, Nat.reduceEqDiff, Nat.reduceAdd, Nat.reduceLT, Nat.reduceLeDiff, reduceCtorEq, bsO, List.map_cons, List.map_nil]))) ?_
  simp only [go_sem, if_true, if_false, reduceIte, Nat.reduceEqDiff, Nat.reduceAdd, Nat.reduceLT, Nat.reduceLeDiff, reduceCtorEq, List.map_cons, List.map_nil]
  refine hX.op _ _ rfl (opS_insert rfl rfl (by simp [go_sem, if_true, if_false, reduceIte, Nat.reduceEqDiff, Nat.reduceAdd, Nat.reduceLT, Nat.reduceLeDiff, reduceCtorEq]) m72 u3 (by simp [go_sem, if_true, if_false, reduceIte, Nat.reduceEqDiff, Nat.reduceAdd, Nat.reduceLT, Nat.reduceLeDiff, reduceCtorEq]) (by simp [go_sem, if_true, if_false, reduceIte, Nat.reduceEqDiff, Nat.reduceAdd, Nat.reduceLT, Nat.reduceLeDiff, reduceCtorEq]) (by simp [go_sem, if_true, if_false, reduceIte, Nat.reduceEqDiff, Nat.reduceAdd, Nat.reduceLT, Nat.reduceLeDiff, reduceCtorEq]) (by decide)) ?_
  simp only [go_sem, if_true, if_false, reduceIte, Nat.reduceEqDiff, Nat.reduceAdd, Nat.reduceLT, Nat.reduceLeDiff, reduceCtorEq, List.nil_append, List.cons_append]
  refine hX.quiet _ _ (OpG.of_B rfl (opB_buildSlice tab_ok rfl (by simp [go_sem, if_true, if_false, reduceIte, Nat.reduceEqDiff, Nat.reduceAdd, Nat.reduceLT, Nat.reduceLeDiff, reduceCtorEq]) (by simp [go_sem, if_true, if_false, reduceIte, Nat.reduceEqDiff, Nat.reduceAdd, Nat.reduceLT, Nat.reduceLeDiff, reduceCtorEq]) (by simp) (by simp [go_sem, if_true, if_false, reduceIte, Nat.reduceEqDiff, Nat.reduceAdd, Nat.reduceLT, Nat.reduceLeDiff, reduceCtorEq, bsO, List.map_cons, List.map_nil]))) ?_
  simp only [go_sem, if_true, if_false, reduceIte, Nat.reduceEqDiff, Nat.reduceAdd, Nat.reduceLT, Nat.reduceLeDiff, reduceCtorEq, List.map_cons, List.map_nil]
  refine hX.op _ _ rfl (opS_insert rfl rfl (by simp [go_sem, if_true, if_false, reduceIte, Nat.reduceEqDiff, Nat.reduceAdd, Nat.reduceLT, Nat.reduceLeDiff, reduceCtorEq]) m72 u3 (by simp [go_sem, if_true, if_false, reduceIte, Nat.reduceEqDiff, Nat.reduceAdd, Nat.reduceLT, Nat.reduceLeDiff, reduceCtorEq]) (by simp [go_sem, if_true, if_false, reduceIte, Nat.reduceEqDiff, Nat.reduceAdd, Nat.reduceLT, Nat.reduceLeDiff, reduceCtorEq]) (by simp [go_sem, if_true, if_false, reduceIte, Nat.reduceEqDiff, Nat.reduceAdd, Nat.reduceLT, Nat.reduceLeDiff, reduceCtorEq]) (by decide)) ?_
  simp only [go_sem, if_true, if_false, reduceIte, Nat.reduceEqDiff, Nat.reduceAdd, Nat.reduceLT, Nat.reduceLeDiff, reduceCtorEq, List.nil_append, List.cons_append]
  refine hX.quiet _ _ (OpG.of_B rfl (opB_buildSlice tab_ok rfl (by simp [go_sem, if_true, if_false, reduceIte, Nat.reduceEqDiff, Nat.reduceAdd, Nat.reduceLT, Nat.reduceLeDiff, reduceCtorEq]) (by simp [go_sem, if_true, if_false, reduceIte, Nat.reduceEqDiff, Nat.reduceAdd, Nat.reduceLT, Nat.reduceLeDiff, reduceCtorEq]) (by simp) (by simp [go_sem, if_true, if_false, reduceIte, Nat.reduceEqDiff, Nat.reduceAdd, Nat.reduceLT, Nat.reduceLeDiff, reduceCtorEq, bsO, List.map_cons, List.map_nil]))) ?_
  simp only [go_sem, if_true, if_false, reduceIte, Nat.reduceEqDiff, Nat.reduceAdd, Nat.reduceLT, Nat.reduceLeDiff, reduceCtorEq, List.map_cons, List.map_nil]
  refine hX.op _ _ rfl (opS_insert rfl rfl (by simp [go_sem, if_true, if_false, reduceIte, Nat.reduceEqDiff, Nat.reduceAdd, Nat.reduceLT, Nat.reduceLeDiff, reduceCtorEq]) m72 u3 (by simp [go_sem, if_true, if_false, reduceIte, Nat.reduceEqDiff, Nat.reduceAdd, Nat.reduceLT, Nat.reduceLeDiff, reduceCtorEq]) (by simp [go_sem, if_true, if_false, reduceIte, Nat.reduceEqDiff, Nat.reduceAdd, Nat.reduceLT, Nat.reduceLeDiff, reduceCtorEq]) (by simp [go_sem, if_true, if_false, reduceIte, Nat.reduceEqDiff, Nat.reduceAdd, Nat.reduceLT, Nat.reduceLeDiff, reduceCtorEq]) (by decide)) ?_
  simp only [go_sem, if_true, if_false, reduceIte, Nat.reduceEqDiff, Nat.reduceAdd, Nat.reduceLT, Nat.reduceLeDiff, reduceCtorEq, List.nil_append, List.cons_append]
  refine hX.quiet _ _ (OpG.of_B rfl (opB_buildSlice tab_ok rfl (by simp [go_sem, if_true, if_false, reduceIte, Nat.reduceEqDiff, Nat.reduceAdd, Nat.reduceLT, Nat.reduceLeDiff, reduceCtorEq]) (by simp [go_sem, if_true, if_false, reduceIte, Nat.reduceEqDiff, Nat.reduceAdd, Nat.reduceLT, Nat.reduceLeDiff, reduceCtorEq]) (by simp) (by simp [go_sem, if_true, if_false, reduceIte, Nat.reduceEqDiff, Nat.reduceAdd, Nat.reduceLT, Nat.reduceLeDiff, reduceCtorEq, bsO, List.map_cons, List.map_nil]))) ?_
  simp only [go_sem, if_true, if_false, reduceIte, Nat.reduceEqDiff, Nat.reduceAdd, Nat.reduceLT, Nat.reduceLeDiff, reduceCtorEq, List.map_cons, List.map_nil]
  refine hX.op _ _ rfl (opS_insert rfl rfl (by simp [go_sem, if_true, if_false, reduceIte, Nat.reduceEqDiff, Nat.reduceAdd, Nat.reduceLT, Nat.reduceLeDiff, reduceCtorEq]) m72 u3 (by simp [go_sem, if_true, if_false, reduceIte, Nat.reduceEqDiff, Nat.reduceAdd, Nat.reduceLT, Nat.reduceLeDiff, reduceCtorEq]) (by simp [go_sem, if_true, if_false, reduceIte, Nat.reduceEqDiff, Nat.reduceAdd, Nat.reduceLT, Nat.reduceLeDiff, reduceCtorEq]) (by simp [go_sem, if_true, if_false, reduceIte, Nat.reduceEqDiff, Nat.reduceAdd, Nat.reduceLT, Nat.reduceLeDiff, reduceCtorEq]) (by decide)) ?_
  simp only [go_sem, if_true, if_false, reduceIte, Nat.reduceEqDiff, Nat.reduceAdd, Nat.reduceLT, Nat.reduceLeDiff, reduceCtorEq, List.nil_append, List.cons_append]
  refine hX.quiet _ _ (OpG.of_B rfl (opB_buildSlice tab_ok rfl (by simp [go_sem, if_true, if_false, reduceIte, Nat.reduceEqDiff, Nat.reduceAdd, Nat.reduceLT, Nat.reduceLeDiff, reduceCtorEq]) (by simp [go_sem, if_true, if_false, reduceIte, Nat.reduceEqDiff, Nat.reduceAdd, Nat.reduceLT, Nat.reduceLeDiff, reduceCtorEq]) (by simp) (by simp [go_sem, if_true, if_false, reduceIte, Nat.reduceEqDiff, Nat.reduceAdd, Nat.reduceLT, Nat.reduceLeDiff, reduceCtorEq, bsO, List.map_cons, List.map_nil]))) ?_
  simp only [go_sem, if_true, if_false, reduceIte, Nat.reduceEqDiff, Nat.reduceAdd, Nat.reduceLT, Nat.reduceLeDiff, reduceCtorEq, List.map_cons, List.map_nil]
  refine hX.op _ _ rfl (opS_insert rfl rfl (by simp [go_sem, if_true, if_false, reduceIte, Nat.reduceEqDiff, Nat.reduceAdd, Nat.reduceLT, Nat.reduceLeDiff, reduceCtorEq]) m72 u3 (by simp [go_sem, if_true, if_false, reduceIte, Nat.reduceEqDiff, Nat.reduceAdd, Nat.reduceLT, Nat.reduceLeDiff, reduceCtorEq]) (by simp [go_sem, if_true, if_false, reduceIte, Nat.reduceEqDiff, Nat.reduceAdd, Nat.reduceLT, Nat.reduceLeDiff, reduceCtorEq]) (by simp [go_sem, if_true, if_false, reduceIte, Nat.reduceEqDiff, Nat.reduceAdd, Nat.reduceLT, Nat.reduceLeDiff, reduceCtorEq]) (by decide)) ?_
  simp only [go_sem, if_true, if_false, reduceIte, Nat.reduceEqDiff, Nat.reduceAdd, Nat.reduceLT, Nat.reduceLeDiff, reduceCtorEq, List.nil_append, List.cons_append]
  refine hX.quiet _ _ (OpG.of_B rfl (opB_buildSlice tab_ok rfl (by simp [go_sem, if_true, if_false, reduceIte, Nat.reduceEqDiff, Nat.reduceAdd, Nat.reduceLT, Nat.reduceLeDiff, reduceCtorEq]) (by simp [go_sem, if_true, if_false, reduceIte, Nat.reduceEqDiff, Nat.reduceAdd, Nat.reduceLT, Nat.reduceLeDiff, reduceCtorEq]) (by simp) (by simp [go_sem, if_true, if_false, reduceIte, Nat.reduceEqDiff, Nat.reduceAdd, Nat.reduceLT, Nat.reduceLeDiff, reduceCtorEq, bsO, List.map_cons, List.map_nil]))) ?_
  simp only [go_sem, if_true, if_false, reduceIte, Nat.reduceEqDiff, Nat.reduceAdd, Nat.reduceLT, Nat.reduceLeDiff, reduceCtorEq, List.map_cons, List.map_nil]
  refine hX.op _ _ rfl (opS_insert rfl rfl (by simp [go_sem, if_true, if_false, reduceIte, Nat.reduceEqDiff, Nat.reduceAdd, Nat.reduceLT, Nat.reduceLeDiff, reduceCtorEq]) m72 u3 (by simp [go_sem, if_true, if_false, reduceIte, Nat.reduceEqDiff, Nat.reduceAdd, Nat.reduceLT, Nat.reduceLeDiff, reduceCtorEq]) (by simp [go_sem, if_true, if_false, reduceIte, Nat.reduceEqDiff, Nat.reduceAdd, Nat.reduceLT, Nat.reduceLeDiff, reduceCtorEq]) (by simp [go_sem, if_true, if_false, reduceIte, Nat.reduceEqDiff, Nat.reduceAdd, Nat.reduceLT, Nat.reduceLeDiff, reduceCtorEq]) (by decide)) ?_
  simp only [go_sem, if_true, if_false, reduceIte, Nat.reduceEqDiff, Nat.reduceAdd, Nat.reduceLT, Nat.reduceLeDiff, reduceCtorEq, List.nil_append, List.cons_append]
  refine hX.quiet _ _ (OpG.of_B rfl (opB_buildSlice tab_ok rfl (by simp [go_sem, if_true, if_false, reduceIte, Nat.reduceEqDiff, Nat.reduceAdd, Nat.reduceLT, Nat.reduceLeDiff, reduceCtorEq]) (by simp [go_sem, if_true, if_false, reduceIte, Nat.reduceEqDiff, Nat.reduceAdd, Nat.reduceLT, Nat.reduceLeDiff, reduceCtorEq]) (by simp) (by simp [go_sem, if_true, if_false, reduceIte, Nat.reduceEqDiff, Nat.reduceAdd, Nat.reduceLT, Nat.reduceLeDiff, reduceCtorEq, bsO, List.map_cons, List.map_nil]))) ?_
  simp only [go_sem, if_true, if_false, reduceIte, Nat.reduceEqDiff, Nat.reduceAdd, Nat.reduceLT, Nat.reduceLeDiff, reduceCtorEq, List.map_cons, List.map_nil]
  refine hX.op _ _ rfl (opS_insert rfl rfl (by simp [go_sem, if_true, if_false, reduceIte, Nat.reduceEqDiff, Nat.reduceAdd, Nat.reduceLT, Nat.reduceLeDiff, reduceCtorEq]) m72 u3 (by simp [go_sem, if_true, if_false, reduceIte, Nat.reduceEqDiff, Nat.reduceAdd, Nat.reduceLT, Nat.reduceLeDiff, reduceCtorEq]) (by simp [go_sem, if_true, if_false, reduceIte, Nat.reduceEqDiff, Nat.reduceAdd, Nat.reduceLT, Nat.reduceLeDiff, reduceCtorEq]) (by simp [go_sem, if_true, if_false, reduceIte, Nat.reduceEqDiff, Nat.reduceAdd, Nat.reduceLT, Nat.reduceLeDiff, reduceCtorEq]) (by decide)) ?_
  simp only [go_sem, if_true, if_false, reduceIte, Nat.reduceEqDiff, Nat.reduceAdd, Nat.reduceLT, Nat.reduceLeDiff, reduceCtorEq, List.nil_append, List.cons_append]
  refine hK _ _ ?_; clear hX hK X K
  show IW _ _ _ _ _ _ _ _
  refine IW.ret (fin_map rfl rfl rfl rfl ⟨rfl, rfl, rfl, rfl, rfl, rfl, rfl, rfl, rfl, trivial⟩)
def drw10 : List (Int × List ByteArray) := [(1, [⟨#[46, 46]⟩, ⟨#[35, 35]⟩, ⟨#[35, 35]⟩, ⟨#[46, 46]⟩])]
theorem fDraw10 : FSpec Try.prog 49 [.int .i64 10] (mapSV drw10) (mapRows drw10) := by
  refine FSpec.intro tab_ok Try.func49 rfl rfl rfl (by kernel_rfl) (by simp) fun w0 => ?_
  simp only [argTM, Nat.zero_add, Nat.reduceAdd]
  repeat refine IW.seq ?_
  refine IW.region_seq tab_ok [some 2] rfl fun X K hX hK => ?_
  simp only [go_sem, if_true, if_false, reduceIte, Nat.reduceEqDiff, Nat.reduceAdd, Nat.reduceLT, Nat.reduceLeDiff, reduceCtorEq]
  refine hK _ _ ?_; clear hX hK X K
  show IW _ _ _ _ _ _ _ _
  repeat refine IW.seq ?_
  refine IW.region_seq tab_ok [some 3] rfl fun X K hX hK => ?_
  simp only [go_sem, if_true, if_false, reduceIte, Nat.reduceEqDiff, Nat.reduceAdd, Nat.reduceLT, Nat.reduceLeDiff, reduceCtorEq]
  refine hK _ _ ?_; clear hX hK X K
  show IW _ _ _ _ _ _ _ _
  repeat refine IW.seq ?_
  refine IW.block ?_
  repeat refine IW.seq ?_
  refine IW.region_seq tab_ok [some 5, some 4] rfl fun X K hX hK => ?_
  simp only [go_sem, if_true, if_false, reduceIte, Nat.reduceEqDiff, Nat.reduceAdd, Nat.reduceLT, Nat.reduceLeDiff, reduceCtorEq]
  refine hK _ _ ?_; clear hX hK X K
  show IW _ _ _ _ _ _ _ _
  repeat refine IW.seq ?_
  refine IW.cond rfl (fun hb => absurd hb (by decide)) (fun hb => ?_)
  repeat refine IW.seq ?_
  refine IW.region_seq tab_ok [some 12, some 11] rfl fun X K hX hK => ?_
  simp only [go_sem, if_true, if_false, reduceIte, Nat.reduceEqDiff, Nat.reduceAdd, Nat.reduceLT, Nat.reduceLeDiff, reduceCtorEq]
  refine hK _ _ ?_; clear hX hK X K
  show IW _ _ _ _ _ _ _ _
  repeat refine IW.seq ?_
  refine IW.cond rfl (fun hb => absurd hb (by decide)) (fun hb => ?_)
  repeat refine IW.seq ?_
  refine IW.region_seq tab_ok [some 19, some 18] rfl fun X K hX hK => ?_
  simp only [go_sem, if_true, if_false, reduceIte, Nat.reduceEqDiff, Nat.reduceAdd, Nat.reduceLT, Nat.reduceLeDiff, reduceCtorEq]
  refine hK _ _ ?_; clear hX hK X K
  show IW _ _ _ _ _ _ _ _
  repeat refine IW.seq ?_
  refine IW.cond rfl (fun hb => absurd hb (by decide)) (fun hb => ?_)
  repeat refine IW.seq ?_
  refine IW.region_seq tab_ok [some 24, some 23] rfl fun X K hX hK => ?_
  simp only [go_sem, if_true, if_false, reduceIte, Nat.reduceEqDiff, Nat.reduceAdd, Nat.reduceLT, Nat.reduceLeDiff, reduceCtorEq]
  refine hK _ _ ?_; clear hX hK X K
  show IW _ _ _ _ _ _ _ _
  repeat refine IW.seq ?_
  refine IW.cond rfl (fun hb => absurd hb (by decide)) (fun hb => ?_)
  repeat refine IW.seq ?_
  refine IW.region_seq tab_ok [some 29, some 28] rfl fun X K hX hK => ?_
  simp only [go_sem, if_true, if_false, reduceIte, Nat.reduceEqDiff, Nat.reduceAdd, Nat.reduceLT, Nat.reduceLeDiff, reduceCtorEq]
  refine hK _ _ ?_; clear hX hK X K
  show IW _ _ _ _ _ _ _ _
  repeat refine IW.seq ?_
  refine IW.cond rfl (fun hb => absurd hb (by decide)) (fun hb => ?_)
  repeat refine IW.seq ?_
  refine IW.region_seq tab_ok [some 38, some 37] rfl fun X K hX hK => ?_
  simp only [go_sem, if_true, if_false, reduceIte, Nat.reduceEqDiff, Nat.reduceAdd, Nat.reduceLT, Nat.reduceLeDiff, reduceCtorEq]
  refine hK _ _ ?_; clear hX hK X K
  show IW _ _ _ _ _ _ _ _
  repeat refine IW.seq ?_
  refine IW.cond rfl (fun hb => absurd hb (by decide)) (fun hb => ?_)
  repeat refine IW.seq ?_
  refine IW.region_seq tab_ok [some 45, some 44] rfl fun X K hX hK => ?_
  simp only [go_sem, if_true, if_false, reduceIte, Nat.reduceEqDiff, Nat.reduceAdd, Nat.reduceLT, Nat.reduceLeDiff, reduceCtorEq]
  refine hK _ _ ?_; clear hX hK X K
  show IW _ _ _ _ _ _ _ _
  repeat refine IW.seq ?_
  refine IW.cond rfl (fun hb => absurd hb (by decide)) (fun hb => ?_)
  repeat refine IW.seq ?_
  refine IW.region_seq tab_ok [some 58, some 57] rfl fun X K hX hK => ?_
  simp only [go_sem, if_true, if_false, reduceIte, Nat.reduceEqDiff, Nat.reduceAdd, Nat.reduceLT, Nat.reduceLeDiff, reduceCtorEq]
  refine hK _ _ ?_; clear hX hK X K
  show IW _ _ _ _ _ _ _ _
  repeat refine IW.seq ?_
  refine IW.cond rfl (fun hb => absurd hb (by decide)) (fun hb => ?_)
  repeat refine IW.seq ?_
  refine IW.region_seq tab_ok [some 61, some 60] rfl fun X K hX hK => ?_
  simp only [go_sem, if_true, if_false, reduceIte, Nat.reduceEqDiff, Nat.reduceAdd, Nat.reduceLT, Nat.reduceLeDiff, reduceCtorEq]
  refine hK _ _ ?_; clear hX hK X K
  show IW _ _ _ _ _ _ _ _
  repeat refine IW.seq ?_
  refine IW.cond rfl (fun hb => ?_) (fun hb => absurd hb (by decide))
  repeat refine IW.seq ?_
  refine IW.region_seq tab_ok [some 62, some 63, none, some 64, some 2] rfl fun X K hX hK => ?_
  simp only [go_sem, if_true, if_false, reduceIte, Nat.reduceEqDiff, Nat.reduceAdd, Nat.reduceLT, Nat.reduceLeDiff, reduceCtorEq]
  refine hX.quiet _ _ (OpG.of_B rfl opB_makeMap) ?_
  simp only [go_sem, if_true, if_false, reduceIte, Nat.reduceEqDiff, Nat.reduceAdd, Nat.reduceLT, Nat.reduceLeDiff, reduceCtorEq]
  refine hX.quiet _ _ (OpG.of_B rfl (opB_buildSlice tab_ok rfl (by simp [go_sem, if_true, if_false, reduceIte, Nat.reduceEqDiff, Nat.reduceAdd, Nat.reduceLT, Nat.reduceLeDiff, reduceCtorEq]) (by simp [go_sem, if_true, if_false, reduceIte, Nat.reduceEqDiff, Nat.reduceAdd, Nat.reduceLT, Nat.reduceLeDiff, reduceCtorEq]) (by simp) (by simp [go_sem, if_true, if_false, reduceIte, Nat.reduceEqDiff, Nat.reduceAdd, Nat.reduceLT, Nat.reduceLeDiff, reduceCtorEq, bsO, List.map_cons, List.map_nil]))) ?_
  simp only [go_sem, if_true, if_false, reduceIte, Nat.reduceEqDiff, Nat.reduceAdd, Nat.reduceLT, Nat.reduceLeDiff, reduceCtorEq, List.map_cons, List.map_nil]
  refine hX.op _ _ rfl (opS_insert rfl rfl (by simp [go_sem, if_true, if_false, reduceIte, Nat.reduceEqDiff, Nat.reduceAdd, Nat.reduceLT, Nat.reduceLeDiff, reduceCtorEq]) m72 u3 (by simp [go_sem, if_true, if_false, reduceIte, Nat.reduceEqDiff, Nat.reduceAdd, Nat.reduceLT, Nat.reduceLeDiff, reduceCtorEq]) (by simp [go_sem, if_true, if_false, reduceIte, Nat.reduceEqDiff, Nat.reduceAdd, Nat.reduceLT, Nat.reduceLeDiff, reduceCtorEq]) (by simp [go_sem, if_true, if_false, reduceIte, Nat.reduceEqDiff, Nat.reduceAdd, Nat.reduceLT, Nat.reduceLeDiff, reduceCtorEq]) (by decide)) ?_
  simp only [go_sem, if_true, if_false, reduceIte, Nat.reduceEqDiff, Nat.reduceAdd, Nat.reduceLT, Nat.reduceLeDiff, reduceCtorEq, List.nil_append, List.cons_append]
  refine hK _ _ ?_; clear hX hK X K
  show IW _ _ _ _ _ _ _ _
  refine IW.ret (fin_map rfl rfl rfl rfl ⟨rfl, trivial⟩)
end Go.Proofs.Ytnbpbehlemaeoaa
