/- Contracts of the program's functions, one by one. -/
import Derived.Test.YtnbpbehlemaeoaaB2
import Derived.Test.YtnbpbehlemaeoaaProg
import Derived.KernelRfl
import Derived.Shelf.SlIterI.Nil
import Derived.Shelf.SortM.Plain
import Derived.Shelf.SortM.SortNone
import Derived.Ground.GgzProg
import Derived.Ground.SlgmProg
attribute [go_sem] if_true if_false
attribute [go_sem_proc] reduceIte Nat.reduceEqDiff Nat.reduceAdd Nat.reduceLT Nat.reduceLeDiff reduceCtorEq
namespace Go.Proofs.Ytnbpbehlemaeoaa
open Go.IL
def tabL : List (Nat × TI) := [
  (1, ⟨1, 8, false, [.raw .nilFunc], .func⟩),
  (2, ⟨1, 8, false, [.int .i64 0], .int .i64⟩),
  (3, ⟨1, 8, false, [.int .i64 0], .int .i64⟩),
  (4, ⟨1, 1, false, [.bool false], .bool⟩),
  (5, ⟨1, 1, false, [.int .u8 0], .int .u8⟩),
  (6, ⟨1, 1, false, [.int .u8 0], .int .u8⟩),
  (7, ⟨4, 24, true, [.int .i64 0, .int .i64 0, .bool false, .int .u8 0], .struct [(0, 1, false), (1, 1, false), (2, 1, false), (3, 1, false)]⟩),
  (8, ⟨4, 24, true, [.int .i64 0, .int .i64 0, .bool false, .int .u8 0], .struct [(0, 1, false), (1, 1, false), (2, 1, false), (3, 1, false)]⟩),
  (9, ⟨1, 16, false, [.str ⟨#[]⟩], .str⟩),
  (10, ⟨1, 16, false, [.str ⟨#[]⟩], .str⟩),
  (11, ⟨1, 16, false, [.str ⟨#[]⟩], .str⟩),
  (12, ⟨1, 8, false, [.int .u64 0], .int .u64⟩),
  (13, ⟨2, 24, true, [.str ⟨#[]⟩, .int .u64 0], .struct [(0, 1, false), (1, 1, false)]⟩),
  (14, ⟨2, 24, true, [.str ⟨#[]⟩, .int .u64 0], .struct [(0, 1, false), (1, 1, false)]⟩),
  (15, ⟨1, 8, false, [.nilp], .ptr 149⟩),
  (16, ⟨1, 8, false, [.nilp], .ptr 152⟩),
  (17, ⟨1, 8, false, [.nilp], .ptr 160⟩),
  (18, ⟨1, 8, true, [.nilp], .struct [(0, 1, false)]⟩),
  (19, ⟨1, 8, true, [.nilp], .struct [(0, 1, false)]⟩),
  (21, ⟨1, 4, false, [.int .i32 0], .int .i32⟩),
  (22, ⟨1, 8, false, [.raw .nilFunc], .func⟩),
  (23, ⟨1, 24, false, [.nils], .slice 3⟩),
  (25, ⟨1, 8, false, [.raw .nilFunc], .func⟩),
  (26, ⟨1, 8, false, [.int .i64 0], .int .i64⟩),
  (27, ⟨1, 8, false, [.raw .nilFunc], .func⟩),
  (28, ⟨1, 8, false, [.raw .nilFunc], .func⟩),
  (29, ⟨1, 8, false, [.raw .nilFunc], .func⟩),
  (30, ⟨1, 8, false, [.raw .nilFunc], .func⟩),
  (31, ⟨1, 24, false, [.nils], .slice 5⟩),
  (32, ⟨3, 40, true, [.int .i64 0, .int .i64 0, .nils], .struct [(0, 1, false), (1, 1, false), (2, 1, false)]⟩),
  (33, ⟨3, 40, true, [.int .i64 0, .int .i64 0, .nils], .struct [(0, 1, false), (1, 1, false), (2, 1, false)]⟩),
  (34, ⟨1, 8, false, [.int .i64 0], .int .i64⟩),
  (36, ⟨1, 8, false, [.raw .nilFunc], .func⟩),
  (37, ⟨1, 8, false, [.raw .nilFunc], .func⟩),
  (38, ⟨1, 8, false, [.raw .nilFunc], .func⟩),
  (39, ⟨1, 8, false, [.raw .nilFunc], .func⟩),
  (40, ⟨1, 8, false, [.raw .nilFunc], .func⟩),
  (41, ⟨1, 8, false, [.raw .nilFunc], .func⟩),
  (42, ⟨1, 8, false, [.raw .nilFunc], .func⟩),
  (43, ⟨2, 16, true, [.int .i64 0, .int .i64 0], .struct [(0, 1, false), (1, 1, false)]⟩),
  (44, ⟨2, 16, true, [.int .i64 0, .int .i64 0], .struct [(0, 1, false), (1, 1, false)]⟩),
  (45, ⟨1, 8, false, [.raw .nilFunc], .func⟩),
  (46, ⟨1, 8, false, [.raw .nilFunc], .func⟩),
  (47, ⟨1, 24, false, [.nils], .slice 70⟩),
  (48, ⟨1, 8, false, [.raw .nilFunc], .func⟩),
  (49, ⟨1, 8, false, [.raw .nilFunc], .func⟩),
  (50, ⟨1, 8, false, [.raw .nilFunc], .func⟩),
  (51, ⟨1, 8, false, [.raw .nilFunc], .func⟩),
  (52, ⟨1, 8, false, [.raw .nilFunc], .func⟩),
  (53, ⟨1, 8, false, [.raw (.map none)], .map 3 4⟩),
  (54, ⟨1, 8, false, [.raw .nilFunc], .func⟩),
  (55, ⟨4, 32, true, [.int .i64 0, .int .i64 0, .int .i64 0, .int .i64 0], .struct [(0, 1, false), (1, 1, false), (2, 1, false), (3, 1, false)]⟩),
  (56, ⟨4, 32, true, [.int .i64 0, .int .i64 0, .int .i64 0, .int .i64 0], .struct [(0, 1, false), (1, 1, false), (2, 1, false), (3, 1, false)]⟩),
  (57, ⟨1, 8, false, [.raw .nilFunc], .func⟩),
  (58, ⟨1, 8, false, [.raw .nilFunc], .func⟩),
  (59, ⟨1, 8, false, [.raw .nilFunc], .func⟩),
  (60, ⟨1, 8, false, [.raw .nilFunc], .func⟩),
  (61, ⟨1, 24, false, [.nils], .slice 33⟩),
  (62, ⟨1, 8, false, [.raw .nilFunc], .func⟩),
  (63, ⟨1, 24, false, [.nils], .slice 68⟩),
  (64, ⟨1, 8, false, [.raw .nilFunc], .func⟩),
  (65, ⟨1, 8, false, [.raw .nilFunc], .func⟩),
  (66, ⟨1, 8, false, [.raw .nilFunc], .func⟩),
  (67, ⟨2, 16, true, [.int .i64 0, .int .i64 0], .struct [(0, 1, false), (1, 1, false)]⟩),
  (68, ⟨2, 16, true, [.int .i64 0, .int .i64 0], .struct [(0, 1, false), (1, 1, false)]⟩),
  (69, ⟨2, 16, true, [.int .i64 0, .int .i64 0], .struct [(0, 1, false), (1, 1, false)]⟩),
  (70, ⟨2, 16, true, [.int .i64 0, .int .i64 0], .struct [(0, 1, false), (1, 1, false)]⟩),
  (71, ⟨1, 8, false, [.raw .nilFunc], .func⟩),
  (72, ⟨1, 8, false, [.raw (.map none)], .map 3 74⟩),
  (73, ⟨1, 8, false, [.raw .nilFunc], .func⟩),
  (74, ⟨1, 24, false, [.nils], .slice 9⟩),
  (75, ⟨1, 8, false, [.raw .nilFunc], .func⟩),
  (76, ⟨1, 8, false, [.raw .nilFunc], .func⟩),
  (77, ⟨1, 8, false, [.raw .nilFunc], .func⟩),
  (78, ⟨1, 8, false, [.raw .nilFunc], .func⟩),
  (80, ⟨1, 8, false, [.raw .nilFunc], .func⟩),
  (81, ⟨1, 8, false, [.raw .nilFunc], .func⟩),
  (82, ⟨1, 8, false, [.raw .nilFunc], .func⟩),
  (83, ⟨1, 8, false, [.raw .nilFunc], .func⟩),
  (84, ⟨1, 8, false, [.raw .nilFunc], .func⟩),
  (85, ⟨1, 8, false, [.raw .nilFunc], .func⟩),
  (86, ⟨1, 8, false, [.raw .nilFunc], .func⟩),
  (87, ⟨1, 8, false, [.raw .nilFunc], .func⟩),
  (88, ⟨1, 8, false, [.raw .nilFunc], .func⟩),
  (89, ⟨3, 40, true, [.int .i64 0, .int .i64 0, .nils], .struct [(0, 3, true)]⟩),
  (90, ⟨3, 40, true, [.int .i64 0, .int .i64 0, .nils], .struct [(0, 3, true)]⟩),
  (91, ⟨1, 8, false, [.raw .nilFunc], .func⟩),
  (92, ⟨1, 8, false, [.raw .nilFunc], .func⟩),
  (93, ⟨1, 8, false, [.raw .nilFunc], .func⟩),
  (94, ⟨1, 8, false, [.raw .nilFunc], .func⟩),
  (95, ⟨1, 8, false, [.raw .nilFunc], .func⟩),
  (96, ⟨1, 8, false, [.raw .nilFunc], .func⟩),
  (97, ⟨1, 8, false, [.nilp], .ptr 99⟩),
  (98, ⟨2, 32, true, [.nilp, .nils], .struct [(0, 1, false), (1, 1, false)]⟩),
  (99, ⟨2, 32, true, [.nilp, .nils], .struct [(0, 1, false), (1, 1, false)]⟩),
  (102, ⟨1, 8, false, [.raw .nilFunc], .func⟩),
  (103, ⟨2, 2, true, [.int .u8 0, .int .u8 0], .array 2 5⟩),
  (104, ⟨1, 8, false, [.raw .nilFunc], .func⟩),
  (105, ⟨1, 8, false, [.raw .nilFunc], .func⟩),
  (106, ⟨1, 8, false, [.raw .nilFunc], .func⟩),
  (107, ⟨1, 8, false, [.raw .nilFunc], .func⟩),
  (108, ⟨1, 8, false, [.raw .nilFunc], .func⟩),
  (109, ⟨1, 8, false, [.raw .nilFunc], .func⟩),
  (110, ⟨1, 8, false, [.raw .nilFunc], .func⟩),
  (111, ⟨1, 8, false, [.raw .nilFunc], .func⟩),
  (112, ⟨1, 8, false, [.raw .nilFunc], .func⟩),
  (113, ⟨1, 8, false, [.nilp], .ptr 5⟩),
  (114, ⟨3, 24, true, [.int .i64 0, .int .i64 0, .int .i64 0], .array 3 3⟩),
  (115, ⟨6, 48, true, [.int .i64 0, .int .i64 0, .int .i64 0, .int .i64 0, .int .i64 0, .int .i64 0], .struct [(0, 3, true), (3, 3, true)]⟩),
  (116, ⟨6, 48, true, [.int .i64 0, .int .i64 0, .int .i64 0, .int .i64 0, .int .i64 0, .int .i64 0], .struct [(0, 3, true), (3, 3, true)]⟩),
  (117, ⟨1, 8, false, [.raw .nilFunc], .func⟩),
  (118, ⟨1, 8, false, [.raw .nilFunc], .func⟩),
  (119, ⟨1, 8, false, [.raw .nilFunc], .func⟩),
  (120, ⟨1, 8, false, [.raw .nilFunc], .func⟩),
  (121, ⟨1, 8, false, [.int .u64 0], .int .u64⟩),
  (122, ⟨1, 8, false, [.raw .nilFunc], .func⟩),
  (123, ⟨1, 8, false, [.raw .nilFunc], .func⟩),
  (124, ⟨1, 8, false, [.int .u64 0], .int .u64⟩),
  (125, ⟨1, 8, false, [.raw .nilFunc], .func⟩),
  (127, ⟨1, 8, false, [.raw .nilFunc], .func⟩),
  (128, ⟨1, 8, false, [.raw .nilFunc], .func⟩),
  (129, ⟨1, 8, false, [.raw .nilFunc], .func⟩),
  (130, ⟨1, 8, false, [.int .i64 0], .int .i64⟩),
  (132, ⟨1, 8, false, [.raw .nilFunc], .func⟩),
  (133, ⟨1, 8, false, [.raw .nilFunc], .func⟩),
  (134, ⟨1, 8, false, [.raw .nilFunc], .func⟩),
  (136, ⟨1, 8, false, [.raw .nilFunc], .func⟩),
  (137, ⟨1, 8, false, [.raw .nilFunc], .func⟩),
  (138, ⟨1, 4, false, [.int .u32 0], .int .u32⟩),
  (139, ⟨1, 8, false, [.raw .nilFunc], .func⟩),
  (140, ⟨1, 8, false, [.int .u64 0], .int .u64⟩),
  (141, ⟨1, 8, false, [.raw .nilFunc], .func⟩),
  (142, ⟨1, 8, false, [.raw .nilFunc], .func⟩),
  (143, ⟨1, 8, false, [.raw .nilFunc], .func⟩),
  (144, ⟨1, 8, false, [.nilp], .ptr 3⟩),
  (145, ⟨1, 8, false, [.raw .nilFunc], .func⟩),
  (146, ⟨1, 8, false, [.nilp], .ptr 140⟩),
  (147, ⟨1, 8, false, [.raw .nilFunc], .func⟩),
  (148, ⟨4, 40, true, [.nilp, .nilp, .nilp, .str ⟨#[]⟩], .struct [(0, 1, false), (1, 1, false), (2, 1, false), (3, 1, false)]⟩),
  (149, ⟨4, 40, true, [.nilp, .nilp, .nilp, .str ⟨#[]⟩], .struct [(0, 1, false), (1, 1, false), (2, 1, false), (3, 1, false)]⟩),
  (153, ⟨1, 8, false, [.raw .nilFunc], .func⟩),
  (154, ⟨1, 1, false, [.int .u8 0], .int .u8⟩),
  (155, ⟨1, 1, false, [.int .u8 0], .int .u8⟩),
  (156, ⟨1, 8, false, [.raw .nilFunc], .func⟩),
  (157, ⟨1, 4, false, [.int .i32 0], .int .i32⟩),
  (158, ⟨1, 4, false, [.int .i32 0], .int .i32⟩),
  (159, ⟨11, 48, true, [.int .u64 0, .int .u64 0, .int .u32 0, .int .u8 0, .int .u8 0, .int .u8 0, .int .u8 0, .raw .nilFunc, .nilp, .int .i32 0, .int .i32 0], .struct [(0, 1, false), (1, 1, false), (2, 1, false), (3, 1, false), (4, 1, false), (5, 1, false), (6, 1, false), (7, 1, false), (8, 1, false), (9, 1, false), (10, 1, false)]⟩),
  (160, ⟨11, 48, true, [.int .u64 0, .int .u64 0, .int .u32 0, .int .u8 0, .int .u8 0, .int .u8 0, .int .u8 0, .raw .nilFunc, .nilp, .int .i32 0, .int .i32 0], .struct [(0, 1, false), (1, 1, false), (2, 1, false), (3, 1, false), (4, 1, false), (5, 1, false), (6, 1, false), (7, 1, false), (8, 1, false), (9, 1, false), (10, 1, false)]⟩)]
def tab : Tab := fun T => (tabL.lookup T).getD ⟨0, 0, false, [], .other⟩
theorem tab_1 : tab 1 = ⟨1, 8, false, [.raw .nilFunc], .func⟩ := rfl
theorem tab_2 : tab 2 = ⟨1, 8, false, [.int .i64 0], .int .i64⟩ := rfl
theorem tab_3 : tab 3 = ⟨1, 8, false, [.int .i64 0], .int .i64⟩ := rfl
theorem tab_4 : tab 4 = ⟨1, 1, false, [.bool false], .bool⟩ := rfl
theorem tab_5 : tab 5 = ⟨1, 1, false, [.int .u8 0], .int .u8⟩ := rfl
theorem tab_6 : tab 6 = ⟨1, 1, false, [.int .u8 0], .int .u8⟩ := rfl
theorem tab_7 : tab 7 = ⟨4, 24, true, [.int .i64 0, .int .i64 0, .bool false, .int .u8 0], .struct [(0, 1, false), (1, 1, false), (2, 1, false), (3, 1, false)]⟩ := rfl
theorem tab_8 : tab 8 = ⟨4, 24, true, [.int .i64 0, .int .i64 0, .bool false, .int .u8 0], .struct [(0, 1, false), (1, 1, false), (2, 1, false), (3, 1, false)]⟩ := rfl
theorem tab_9 : tab 9 = ⟨1, 16, false, [.str ⟨#[]⟩], .str⟩ := rfl
theorem tab_10 : tab 10 = ⟨1, 16, false, [.str ⟨#[]⟩], .str⟩ := rfl
theorem tab_11 : tab 11 = ⟨1, 16, false, [.str ⟨#[]⟩], .str⟩ := rfl
theorem tab_12 : tab 12 = ⟨1, 8, false, [.int .u64 0], .int .u64⟩ := rfl
theorem tab_13 : tab 13 = ⟨2, 24, true, [.str ⟨#[]⟩, .int .u64 0], .struct [(0, 1, false), (1, 1, false)]⟩ := rfl
theorem tab_14 : tab 14 = ⟨2, 24, true, [.str ⟨#[]⟩, .int .u64 0], .struct [(0, 1, false), (1, 1, false)]⟩ := rfl
theorem tab_15 : tab 15 = ⟨1, 8, false, [.nilp], .ptr 149⟩ := rfl
theorem tab_16 : tab 16 = ⟨1, 8, false, [.nilp], .ptr 152⟩ := rfl
theorem tab_17 : tab 17 = ⟨1, 8, false, [.nilp], .ptr 160⟩ := rfl
theorem tab_18 : tab 18 = ⟨1, 8, true, [.nilp], .struct [(0, 1, false)]⟩ := rfl
theorem tab_19 : tab 19 = ⟨1, 8, true, [.nilp], .struct [(0, 1, false)]⟩ := rfl
theorem tab_21 : tab 21 = ⟨1, 4, false, [.int .i32 0], .int .i32⟩ := rfl
theorem tab_22 : tab 22 = ⟨1, 8, false, [.raw .nilFunc], .func⟩ := rfl
theorem tab_23 : tab 23 = ⟨1, 24, false, [.nils], .slice 3⟩ := rfl
theorem tab_25 : tab 25 = ⟨1, 8, false, [.raw .nilFunc], .func⟩ := rfl
theorem tab_26 : tab 26 = ⟨1, 8, false, [.int .i64 0], .int .i64⟩ := rfl
theorem tab_27 : tab 27 = ⟨1, 8, false, [.raw .nilFunc], .func⟩ := rfl
theorem tab_28 : tab 28 = ⟨1, 8, false, [.raw .nilFunc], .func⟩ := rfl
theorem tab_29 : tab 29 = ⟨1, 8, false, [.raw .nilFunc], .func⟩ := rfl
theorem tab_30 : tab 30 = ⟨1, 8, false, [.raw .nilFunc], .func⟩ := rfl
theorem tab_31 : tab 31 = ⟨1, 24, false, [.nils], .slice 5⟩ := rfl
theorem tab_32 : tab 32 = ⟨3, 40, true, [.int .i64 0, .int .i64 0, .nils], .struct [(0, 1, false), (1, 1, false), (2, 1, false)]⟩ := rfl
theorem tab_33 : tab 33 = ⟨3, 40, true, [.int .i64 0, .int .i64 0, .nils], .struct [(0, 1, false), (1, 1, false), (2, 1, false)]⟩ := rfl
theorem tab_34 : tab 34 = ⟨1, 8, false, [.int .i64 0], .int .i64⟩ := rfl
theorem tab_36 : tab 36 = ⟨1, 8, false, [.raw .nilFunc], .func⟩ := rfl
theorem tab_37 : tab 37 = ⟨1, 8, false, [.raw .nilFunc], .func⟩ := rfl
theorem tab_38 : tab 38 = ⟨1, 8, false, [.raw .nilFunc], .func⟩ := rfl
theorem tab_39 : tab 39 = ⟨1, 8, false, [.raw .nilFunc], .func⟩ := rfl
theorem tab_40 : tab 40 = ⟨1, 8, false, [.raw .nilFunc], .func⟩ := rfl
theorem tab_41 : tab 41 = ⟨1, 8, false, [.raw .nilFunc], .func⟩ := rfl
theorem tab_42 : tab 42 = ⟨1, 8, false, [.raw .nilFunc], .func⟩ := rfl
theorem tab_43 : tab 43 = ⟨2, 16, true, [.int .i64 0, .int .i64 0], .struct [(0, 1, false), (1, 1, false)]⟩ := rfl
theorem tab_44 : tab 44 = ⟨2, 16, true, [.int .i64 0, .int .i64 0], .struct [(0, 1, false), (1, 1, false)]⟩ := rfl
theorem tab_45 : tab 45 = ⟨1, 8, false, [.raw .nilFunc], .func⟩ := rfl
theorem tab_46 : tab 46 = ⟨1, 8, false, [.raw .nilFunc], .func⟩ := rfl
theorem tab_47 : tab 47 = ⟨1, 24, false, [.nils], .slice 70⟩ := rfl
theorem tab_48 : tab 48 = ⟨1, 8, false, [.raw .nilFunc], .func⟩ := rfl
theorem tab_49 : tab 49 = ⟨1, 8, false, [.raw .nilFunc], .func⟩ := rfl
theorem tab_50 : tab 50 = ⟨1, 8, false, [.raw .nilFunc], .func⟩ := rfl
theorem tab_51 : tab 51 = ⟨1, 8, false, [.raw .nilFunc], .func⟩ := rfl
theorem tab_52 : tab 52 = ⟨1, 8, false, [.raw .nilFunc], .func⟩ := rfl
theorem tab_53 : tab 53 = ⟨1, 8, false, [.raw (.map none)], .map 3 4⟩ := rfl
theorem tab_54 : tab 54 = ⟨1, 8, false, [.raw .nilFunc], .func⟩ := rfl
theorem tab_55 : tab 55 = ⟨4, 32, true, [.int .i64 0, .int .i64 0, .int .i64 0, .int .i64 0], .struct [(0, 1, false), (1, 1, false), (2, 1, false), (3, 1, false)]⟩ := rfl
theorem tab_56 : tab 56 = ⟨4, 32, true, [.int .i64 0, .int .i64 0, .int .i64 0, .int .i64 0], .struct [(0, 1, false), (1, 1, false), (2, 1, false), (3, 1, false)]⟩ := rfl
theorem tab_57 : tab 57 = ⟨1, 8, false, [.raw .nilFunc], .func⟩ := rfl
theorem tab_58 : tab 58 = ⟨1, 8, false, [.raw .nilFunc], .func⟩ := rfl
theorem tab_59 : tab 59 = ⟨1, 8, false, [.raw .nilFunc], .func⟩ := rfl
theorem tab_60 : tab 60 = ⟨1, 8, false, [.raw .nilFunc], .func⟩ := rfl
theorem tab_61 : tab 61 = ⟨1, 24, false, [.nils], .slice 33⟩ := rfl
theorem tab_62 : tab 62 = ⟨1, 8, false, [.raw .nilFunc], .func⟩ := rfl
theorem tab_63 : tab 63 = ⟨1, 24, false, [.nils], .slice 68⟩ := rfl
theorem tab_64 : tab 64 = ⟨1, 8, false, [.raw .nilFunc], .func⟩ := rfl
theorem tab_65 : tab 65 = ⟨1, 8, false, [.raw .nilFunc], .func⟩ := rfl
theorem tab_66 : tab 66 = ⟨1, 8, false, [.raw .nilFunc], .func⟩ := rfl
theorem tab_67 : tab 67 = ⟨2, 16, true, [.int .i64 0, .int .i64 0], .struct [(0, 1, false), (1, 1, false)]⟩ := rfl
theorem tab_68 : tab 68 = ⟨2, 16, true, [.int .i64 0, .int .i64 0], .struct [(0, 1, false), (1, 1, false)]⟩ := rfl
theorem tab_69 : tab 69 = ⟨2, 16, true, [.int .i64 0, .int .i64 0], .struct [(0, 1, false), (1, 1, false)]⟩ := rfl
theorem tab_70 : tab 70 = ⟨2, 16, true, [.int .i64 0, .int .i64 0], .struct [(0, 1, false), (1, 1, false)]⟩ := rfl
theorem tab_71 : tab 71 = ⟨1, 8, false, [.raw .nilFunc], .func⟩ := rfl
theorem tab_72 : tab 72 = ⟨1, 8, false, [.raw (.map none)], .map 3 74⟩ := rfl
theorem tab_73 : tab 73 = ⟨1, 8, false, [.raw .nilFunc], .func⟩ := rfl
theorem tab_74 : tab 74 = ⟨1, 24, false, [.nils], .slice 9⟩ := rfl
theorem tab_75 : tab 75 = ⟨1, 8, false, [.raw .nilFunc], .func⟩ := rfl
theorem tab_76 : tab 76 = ⟨1, 8, false, [.raw .nilFunc], .func⟩ := rfl
theorem tab_77 : tab 77 = ⟨1, 8, false, [.raw .nilFunc], .func⟩ := rfl
theorem tab_78 : tab 78 = ⟨1, 8, false, [.raw .nilFunc], .func⟩ := rfl
theorem tab_80 : tab 80 = ⟨1, 8, false, [.raw .nilFunc], .func⟩ := rfl
theorem tab_81 : tab 81 = ⟨1, 8, false, [.raw .nilFunc], .func⟩ := rfl
theorem tab_82 : tab 82 = ⟨1, 8, false, [.raw .nilFunc], .func⟩ := rfl
theorem tab_83 : tab 83 = ⟨1, 8, false, [.raw .nilFunc], .func⟩ := rfl
theorem tab_84 : tab 84 = ⟨1, 8, false, [.raw .nilFunc], .func⟩ := rfl
theorem tab_85 : tab 85 = ⟨1, 8, false, [.raw .nilFunc], .func⟩ := rfl
theorem tab_86 : tab 86 = ⟨1, 8, false, [.raw .nilFunc], .func⟩ := rfl
theorem tab_87 : tab 87 = ⟨1, 8, false, [.raw .nilFunc], .func⟩ := rfl
theorem tab_88 : tab 88 = ⟨1, 8, false, [.raw .nilFunc], .func⟩ := rfl
theorem tab_89 : tab 89 = ⟨3, 40, true, [.int .i64 0, .int .i64 0, .nils], .struct [(0, 3, true)]⟩ := rfl
theorem tab_90 : tab 90 = ⟨3, 40, true, [.int .i64 0, .int .i64 0, .nils], .struct [(0, 3, true)]⟩ := rfl
theorem tab_91 : tab 91 = ⟨1, 8, false, [.raw .nilFunc], .func⟩ := rfl
theorem tab_92 : tab 92 = ⟨1, 8, false, [.raw .nilFunc], .func⟩ := rfl
theorem tab_93 : tab 93 = ⟨1, 8, false, [.raw .nilFunc], .func⟩ := rfl
theorem tab_94 : tab 94 = ⟨1, 8, false, [.raw .nilFunc], .func⟩ := rfl
theorem tab_95 : tab 95 = ⟨1, 8, false, [.raw .nilFunc], .func⟩ := rfl
theorem tab_96 : tab 96 = ⟨1, 8, false, [.raw .nilFunc], .func⟩ := rfl
theorem tab_97 : tab 97 = ⟨1, 8, false, [.nilp], .ptr 99⟩ := rfl
theorem tab_98 : tab 98 = ⟨2, 32, true, [.nilp, .nils], .struct [(0, 1, false), (1, 1, false)]⟩ := rfl
theorem tab_99 : tab 99 = ⟨2, 32, true, [.nilp, .nils], .struct [(0, 1, false), (1, 1, false)]⟩ := rfl
theorem tab_102 : tab 102 = ⟨1, 8, false, [.raw .nilFunc], .func⟩ := rfl
theorem tab_103 : tab 103 = ⟨2, 2, true, [.int .u8 0, .int .u8 0], .array 2 5⟩ := rfl
theorem tab_104 : tab 104 = ⟨1, 8, false, [.raw .nilFunc], .func⟩ := rfl
theorem tab_105 : tab 105 = ⟨1, 8, false, [.raw .nilFunc], .func⟩ := rfl
theorem tab_106 : tab 106 = ⟨1, 8, false, [.raw .nilFunc], .func⟩ := rfl
theorem tab_107 : tab 107 = ⟨1, 8, false, [.raw .nilFunc], .func⟩ := rfl
theorem tab_108 : tab 108 = ⟨1, 8, false, [.raw .nilFunc], .func⟩ := rfl
theorem tab_109 : tab 109 = ⟨1, 8, false, [.raw .nilFunc], .func⟩ := rfl
theorem tab_110 : tab 110 = ⟨1, 8, false, [.raw .nilFunc], .func⟩ := rfl
theorem tab_111 : tab 111 = ⟨1, 8, false, [.raw .nilFunc], .func⟩ := rfl
theorem tab_112 : tab 112 = ⟨1, 8, false, [.raw .nilFunc], .func⟩ := rfl
theorem tab_113 : tab 113 = ⟨1, 8, false, [.nilp], .ptr 5⟩ := rfl
theorem tab_114 : tab 114 = ⟨3, 24, true, [.int .i64 0, .int .i64 0, .int .i64 0], .array 3 3⟩ := rfl
theorem tab_115 : tab 115 = ⟨6, 48, true, [.int .i64 0, .int .i64 0, .int .i64 0, .int .i64 0, .int .i64 0, .int .i64 0], .struct [(0, 3, true), (3, 3, true)]⟩ := rfl
theorem tab_116 : tab 116 = ⟨6, 48, true, [.int .i64 0, .int .i64 0, .int .i64 0, .int .i64 0, .int .i64 0, .int .i64 0], .struct [(0, 3, true), (3, 3, true)]⟩ := rfl
theorem tab_117 : tab 117 = ⟨1, 8, false, [.raw .nilFunc], .func⟩ := rfl
theorem tab_118 : tab 118 = ⟨1, 8, false, [.raw .nilFunc], .func⟩ := rfl
theorem tab_119 : tab 119 = ⟨1, 8, false, [.raw .nilFunc], .func⟩ := rfl
theorem tab_120 : tab 120 = ⟨1, 8, false, [.raw .nilFunc], .func⟩ := rfl
theorem tab_121 : tab 121 = ⟨1, 8, false, [.int .u64 0], .int .u64⟩ := rfl
theorem tab_122 : tab 122 = ⟨1, 8, false, [.raw .nilFunc], .func⟩ := rfl
theorem tab_123 : tab 123 = ⟨1, 8, false, [.raw .nilFunc], .func⟩ := rfl
theorem tab_124 : tab 124 = ⟨1, 8, false, [.int .u64 0], .int .u64⟩ := rfl
theorem tab_125 : tab 125 = ⟨1, 8, false, [.raw .nilFunc], .func⟩ := rfl
theorem tab_127 : tab 127 = ⟨1, 8, false, [.raw .nilFunc], .func⟩ := rfl
theorem tab_128 : tab 128 = ⟨1, 8, false, [.raw .nilFunc], .func⟩ := rfl
theorem tab_129 : tab 129 = ⟨1, 8, false, [.raw .nilFunc], .func⟩ := rfl
theorem tab_130 : tab 130 = ⟨1, 8, false, [.int .i64 0], .int .i64⟩ := rfl
theorem tab_132 : tab 132 = ⟨1, 8, false, [.raw .nilFunc], .func⟩ := rfl
theorem tab_133 : tab 133 = ⟨1, 8, false, [.raw .nilFunc], .func⟩ := rfl
theorem tab_134 : tab 134 = ⟨1, 8, false, [.raw .nilFunc], .func⟩ := rfl
theorem tab_136 : tab 136 = ⟨1, 8, false, [.raw .nilFunc], .func⟩ := rfl
theorem tab_137 : tab 137 = ⟨1, 8, false, [.raw .nilFunc], .func⟩ := rfl
theorem tab_138 : tab 138 = ⟨1, 4, false, [.int .u32 0], .int .u32⟩ := rfl
theorem tab_139 : tab 139 = ⟨1, 8, false, [.raw .nilFunc], .func⟩ := rfl
theorem tab_140 : tab 140 = ⟨1, 8, false, [.int .u64 0], .int .u64⟩ := rfl
theorem tab_141 : tab 141 = ⟨1, 8, false, [.raw .nilFunc], .func⟩ := rfl
theorem tab_142 : tab 142 = ⟨1, 8, false, [.raw .nilFunc], .func⟩ := rfl
theorem tab_143 : tab 143 = ⟨1, 8, false, [.raw .nilFunc], .func⟩ := rfl
theorem tab_144 : tab 144 = ⟨1, 8, false, [.nilp], .ptr 3⟩ := rfl
theorem tab_145 : tab 145 = ⟨1, 8, false, [.raw .nilFunc], .func⟩ := rfl
theorem tab_146 : tab 146 = ⟨1, 8, false, [.nilp], .ptr 140⟩ := rfl
theorem tab_147 : tab 147 = ⟨1, 8, false, [.raw .nilFunc], .func⟩ := rfl
theorem tab_148 : tab 148 = ⟨4, 40, true, [.nilp, .nilp, .nilp, .str ⟨#[]⟩], .struct [(0, 1, false), (1, 1, false), (2, 1, false), (3, 1, false)]⟩ := rfl
theorem tab_149 : tab 149 = ⟨4, 40, true, [.nilp, .nilp, .nilp, .str ⟨#[]⟩], .struct [(0, 1, false), (1, 1, false), (2, 1, false), (3, 1, false)]⟩ := rfl
theorem tab_153 : tab 153 = ⟨1, 8, false, [.raw .nilFunc], .func⟩ := rfl
theorem tab_154 : tab 154 = ⟨1, 1, false, [.int .u8 0], .int .u8⟩ := rfl
theorem tab_155 : tab 155 = ⟨1, 1, false, [.int .u8 0], .int .u8⟩ := rfl
theorem tab_156 : tab 156 = ⟨1, 8, false, [.raw .nilFunc], .func⟩ := rfl
theorem tab_157 : tab 157 = ⟨1, 4, false, [.int .i32 0], .int .i32⟩ := rfl
theorem tab_158 : tab 158 = ⟨1, 4, false, [.int .i32 0], .int .i32⟩ := rfl
theorem tab_159 : tab 159 = ⟨11, 48, true, [.int .u64 0, .int .u64 0, .int .u32 0, .int .u8 0, .int .u8 0, .int .u8 0, .int .u8 0, .raw .nilFunc, .nilp, .int .i32 0, .int .i32 0], .struct [(0, 1, false), (1, 1, false), (2, 1, false), (3, 1, false), (4, 1, false), (5, 1, false), (6, 1, false), (7, 1, false), (8, 1, false), (9, 1, false), (10, 1, false)]⟩ := rfl
theorem tab_160 : tab 160 = ⟨11, 48, true, [.int .u64 0, .int .u64 0, .int .u32 0, .int .u8 0, .int .u8 0, .int .u8 0, .int .u8 0, .raw .nilFunc, .nilp, .int .i32 0, .int .i32 0], .struct [(0, 1, false), (1, 1, false), (2, 1, false), (3, 1, false), (4, 1, false), (5, 1, false), (6, 1, false), (7, 1, false), (8, 1, false), (9, 1, false), (10, 1, false)]⟩ := rfl
theorem tabL_ok : tabL.all (fun e => tyOk Try.prog e.1 e.2) = true := by kernel_rfl
theorem lookup_mem {α : Type} : ∀ {l : List (Nat × α)} {T : Nat} {x : α}, l.lookup T = some x → (T, x) ∈ l
  | (a, y) :: l, T, x, h => by
    rw [List.lookup_cons] at h
    by_cases e : T = a
    · subst e; simp at h; subst h; simp
    · have : (T == a) = false := by simpa using e
      rw [this] at h
      exact List.mem_cons_of_mem _ (lookup_mem h)
theorem tab_ok : TabOk Try.prog tab := by
  intro T
  cases h : tabL.lookup T with
  | none => simp [tab, h]
  | some ti =>
    have h1 := List.all_eq_true.1 tabL_ok _ (lookup_mem h)
    have h2 : tab T = ti := by simp [tab, h]
    rw [h2]
    split
    · trivial
    · exact h1
attribute [go_sem] tab_1 tab_2 tab_3 tab_4 tab_5 tab_6 tab_7 tab_8 tab_9 tab_10 tab_11 tab_12 tab_13 tab_14 tab_15 tab_16 tab_17 tab_18 tab_19 tab_21 tab_22 tab_23 tab_25 tab_26 tab_27 tab_28 tab_29 tab_30 tab_31 tab_32 tab_33 tab_34 tab_36 tab_37 tab_38 tab_39 tab_40 tab_41 tab_42 tab_43 tab_44 tab_45 tab_46 tab_47 tab_48 tab_49 tab_50 tab_51 tab_52 tab_53 tab_54 tab_55 tab_56 tab_57 tab_58 tab_59 tab_60 tab_61 tab_62 tab_63 tab_64 tab_65 tab_66 tab_67 tab_68 tab_69 tab_70 tab_71 tab_72 tab_73 tab_74 tab_75 tab_76 tab_77 tab_78 tab_80 tab_81 tab_82 tab_83 tab_84 tab_85 tab_86 tab_87 tab_88 tab_89 tab_90 tab_91 tab_92 tab_93 tab_94 tab_95 tab_96 tab_97 tab_98 tab_99 tab_102 tab_103 tab_104 tab_105 tab_106 tab_107 tab_108 tab_109 tab_110 tab_111 tab_112 tab_113 tab_114 tab_115 tab_116 tab_117 tab_118 tab_119 tab_120 tab_121 tab_122 tab_123 tab_124 tab_125 tab_127 tab_128 tab_129 tab_130 tab_132 tab_133 tab_134 tab_136 tab_137 tab_138 tab_139 tab_140 tab_141 tab_142 tab_143 tab_144 tab_145 tab_146 tab_147 tab_148 tab_149 tab_153 tab_154 tab_155 tab_156 tab_157 tab_158 tab_159 tab_160
theorem mixed : Try.prog.follows .mixedOrders = true := by kernel_rfl
end Go.Proofs.Ytnbpbehlemaeoaa

set_option linter.unusedVariables false
set_option linter.unusedSimpArgs false
set_option maxRecDepth 10000
namespace Go.Proofs.Ytnbpbehlemaeoaa
open Go.IL
def ink (W H : Int) (pix : List Int) : SV := .agg [.int .i64 W, .int .i64 H, .sl true (nums .u8 pix)]
attribute [go_sem] ink
def rightS (W H : Int) (pix : List Int) : Bool := decide (0 ≤ W ∧ 0 ≤ H ∧ W ≤ 640 ∧ H ≤ 640 ∧ (pix.length : Int) = W * H) && pix.all fun x => decide (x ≤ 1)
theorem mul_bd {W H a b : Int} (h1 : 0 ≤ W) (h2 : W ≤ a) (h3 : 0 ≤ H) (h4 : H ≤ b) : 0 ≤ W * H ∧ W * H ≤ a * b := ⟨Int.mul_nonneg h1 h3, Int.mul_le_mul h2 h4 h3 (by omega)⟩
theorem right_shape {W H : Int} {pix : List Int} : (decide (W < 0) || decide (H < 0) || decide (640 < W) || decide (640 < H) || (pix.length : Int) != IntKind.i64.wrap (W * H)) = !decide (0 ≤ W ∧ 0 ≤ H ∧ W ≤ 640 ∧ H ≤ 640 ∧ (pix.length : Int) = W * H) := by
  by_cases h : 0 ≤ W ∧ 0 ≤ H ∧ W ≤ 640 ∧ H ≤ 640
  · obtain ⟨h1, h2, h3, h4⟩ := h
    have hb := mul_bd h1 h3 h2 h4
    rw [wrap_eq (by omega) (by omega)]
    generalize W * H = m at *
    by_cases e : (pix.length : Int) = m <;> simp [e, h1, h2, h3, h4, Int.not_lt.2]
  · have : (decide (W < 0) || decide (H < 0) || decide (640 < W) || decide (640 < H)) = true := by
      simp only [Bool.or_eq_true, decide_eq_true_eq]; omega
    rw [this, Bool.true_or]
    have : ¬ (0 ≤ W ∧ 0 ≤ H ∧ W ≤ 640 ∧ H ≤ 640 ∧ (pix.length : Int) = W * H) := fun h' => h ⟨h'.1, h'.2.1, h'.2.2.1, h'.2.2.2.1⟩
    simp [this]
theorem getD_mem {l : List Int} {i : Nat} (h : i < l.length) : l.getD i 0 ∈ l := by simp [h]
theorem refRight (W H : Int) (pix : List Int) (hl : pix.length ≤ 1000000) : FSpec Try.prog 35 [ink W H pix] (.bool (rightS W H pix)) [] := by
  refine FSpec.intro tab_ok Try.func35 rfl rfl rfl (by kernel_rfl) (by simp) fun w0 => ?_
  simp only [argTM, Nat.zero_add, Nat.reduceAdd]
  simp only [ink]
  repeat refine IW.seq ?_
  refine IW.region_seq tab_ok [some 1, some 2] rfl fun X K hX hK => ?_
  simp only [go_sem]
  refine hK _ _ ?_; clear hX hK X K
  show IW _ _ _ _ _ _ _ _
  repeat refine IW.seq ?_
  refine IW.region_seq tab_ok [some 4, some 5, some 6, some 7, some 8, some 9, some 10, some 11, some 12, some 13, some 14, some 15, some 16, some 17, some 18, some 19, some 20, some 21, some 22, some 23, some 24, some 25, some 26, some 27, some 28, some 29, some 30, some 31, some 32] rfl fun X K hX hK => ?_
  simp only [go_sem]
  refine hK _ _ ?_; clear hX hK X K
  show IW _ _ _ _ _ _ _ _
  refine IW.cond rfl (fun hb => ?_) (fun hb => ?_)
  · repeat refine IW.seq ?_
    refine IW.region_seq tab_ok [some 2] rfl fun X K hX hK => ?_
    simp only [go_sem]
    refine hK _ _ ?_; clear hX hK X K
    show IW _ _ _ _ _ _ _ _
    refine IW.ret (Fin.scal rfl rfl ?_)
    rw [right_shape, Bool.not_eq_true'] at hb
    show SV.bool false = SV.bool _
    rw [rightS, hb]; rfl
  · rw [right_shape, Bool.not_eq_false'] at hb
    refine IW.skip ?_
    show IW _ _ _ _ _ _ _ _
    repeat refine IW.seq ?_
    refine IW.region_seq tab_ok [some 3] rfl fun X K hX hK => ?_
    simp only [go_sem]
    refine hK _ _ ?_; clear hX hK X K
    show IW _ _ _ _ _ _ _ _
    refine IW.block ?_
    refine IW.loop (α := {i : Nat // i ≤ pix.length ∧ ∀ j, j < i → pix.getD j 0 ≤ 1}) (fun i => [(1, .ptr 0 0 0), (3, .int .i64 i.1)]) (fun _ => [some ⟨3, 33, [[.int .i64 W, .int .i64 H, .sl true (nums .u8 pix)]]⟩]) (fun i => pix.length - i.1) ⟨0, by omega, fun j h => absurd h (by omega)⟩ ?_ fun ⟨i, hi, hp⟩ => ?_
    · refine Ent.cut ?_ ?_ <;> simp only [go_sem]
    · simp only []
      repeat refine IW.seq ?_
      refine IW.region_seq tab_ok [some 33, some 34, some 35, some 36, some 37] rfl fun X K hX hK => ?_
      simp only [go_sem]
      refine hK _ _ ?_; clear hX hK X K
      show IW _ _ _ _ _ _ _ _
      refine IW.cond rfl (fun hb1 => ?_) (fun hb1 => ?_)
      · refine IW.skip ?_
        show IW _ _ _ _ _ _ _ _
        simp only [decide_eq_true_eq] at hb1
        have hlt : i < pix.length := by omega
        refine IW.seq (IW.block ?_)
        repeat refine IW.seq ?_
        refine IW.region_seq tab_ok [some 40, some 41, some 42, some 43, some 44, some 45] rfl fun X K hX hK => ?_
        simp only [go_sem, Int.toNat_natCast, nums_at hlt]
        refine ⟨⟨by omega, by omega⟩, ?_⟩
        refine hK _ _ ?_; clear hX hK X K
        show IW _ _ _ _ _ _ _ _
        refine IW.cond rfl (fun hb2 => ?_) (fun hb2 => ?_)
        · repeat refine IW.seq ?_
          refine IW.region_seq tab_ok [some 2] rfl fun X K hX hK => ?_
          simp only [go_sem]
          refine hK _ _ ?_; clear hX hK X K
          show IW _ _ _ _ _ _ _ _
          refine IW.ret (Fin.scal rfl rfl ?_)
          show SV.bool false = SV.bool _
          have : (pix.all fun x => decide (x ≤ 1)) = false := List.all_eq_false.2 ⟨_, getD_mem hlt, by simpa using hb2⟩
          rw [rightS, this, Bool.and_false]
        · refine IW.skip ?_
          show IW _ _ _ _ _ _ _ _
          have e1 : IntKind.i64.wrap ((i : Int) + 1) = ((i + 1 : Nat) : Int) := (wrap_eq (by omega) (by omega)).trans (by omega)
          repeat refine IW.seq ?_
          refine IW.region_seq tab_ok [some 38, some 39, some 3] rfl fun X K hX hK => ?_
          simp only [go_sem, e1]
          refine hK _ _ ⟨⟨i + 1, hlt, fun j hj => ?_⟩, by simp only []; omega, ?_⟩
          · rcases Nat.lt_succ_iff_lt_or_eq.1 hj with h | h
            · exact hp j h
            · subst h; simpa using hb2
          · refine Ent.cut ?_ ?_ <;> simp only [go_sem]
      · refine IW.exit ?_
        show IW _ _ _ _ _ _ _ _
        repeat refine IW.seq ?_
        refine IW.region_seq tab_ok [some 2] rfl fun X K hX hK => ?_
        simp only [go_sem]
        refine hK _ _ ?_; clear hX hK X K
        show IW _ _ _ _ _ _ _ _
        refine IW.ret (Fin.scal rfl rfl ?_)
        show SV.bool true = SV.bool _
        have : (pix.all fun x => decide (x ≤ 1)) = true := List.all_eq_true.2 fun x hx => by
          obtain ⟨j, hj, rfl⟩ := List.mem_iff_getElem.1 hx
          have := hp j (by simp only [decide_eq_false_iff_not] at hb1; omega)
          simpa [hj] using this
        rw [rightS, this, hb]; rfl
/-- How many of the first n differ. -/
def cnt (p q : List Int) : Nat → Int
  | 0 => 0
  | n + 1 => cnt p q n + if p.getD n 0 ≠ q.getD n 0 then 1 else 0
theorem cnt_bd (p q : List Int) : ∀ n : Nat, 0 ≤ cnt p q n ∧ cnt p q n ≤ n
  | 0 => by simp [cnt]
  | n + 1 => by have := cnt_bd p q n; simp only [cnt]; split <;> omega
def missS (W H : Int) (p : List Int) (W' H' : Int) (q : List Int) : Int := if rightS W H p = true ∧ rightS W' H' q = true ∧ W = W' ∧ H = H' then cnt p q p.length else -1
theorem miss_shape {W H W' H' : Int} {p q : List Int} : (!rightS W H p || !rightS W' H' q || W != W' || H != H') = !decide (rightS W H p = true ∧ rightS W' H' q = true ∧ W = W' ∧ H = H') := by
  cases rightS W H p <;> cases rightS W' H' q <;> simp
  by_cases h1 : W = W' <;> by_cases h2 : H = H' <;> simp [h1, h2]
theorem right_len {W H : Int} {p : List Int} (h : rightS W H p = true) : (p.length : Int) = W * H ∧ 0 ≤ W ∧ 0 ≤ H ∧ W ≤ 640 ∧ H ≤ 640 := by
  simp only [rightS, Bool.and_eq_true, decide_eq_true_eq] at h; exact ⟨h.1.2.2.2.2, h.1.1, h.1.2.1, h.1.2.2.1, h.1.2.2.2.1⟩
theorem refMiss (W H : Int) (p : List Int) (W' H' : Int) (q : List Int) (hl : p.length ≤ 1000000) (hl' : q.length ≤ 1000000) : FSpec Try.prog 24 [ink W H p, ink W' H' q] (.int .i64 (missS W H p W' H' q)) [] := by
  refine FSpec.intro tab_ok Try.func24 rfl rfl rfl (by kernel_rfl) (by simp) fun w0 => ?_
  simp only [argTM, Nat.zero_add, Nat.reduceAdd]
  simp only [ink]
  repeat refine IW.seq ?_
  refine IW.region_seq tab_ok [some 2, some 3, some 4] rfl fun X K hX hK => ?_
  simp only [go_sem]
  refine hK _ _ ?_; clear hX hK X K
  show IW _ _ _ _ _ _ _ _
  repeat refine IW.seq ?_
  refine IW.region_seq tab_ok [some 7, some 8, some 9, some 10, some 11, some 12, some 13, some 14, some 15, some 16, some 17, some 18, some 19, some 20, some 21, some 22, some 23, some 24, some 25, some 26, some 27, some 28] rfl fun X K hX hK => ?_
  simp only [go_sem]
  refine hX.quiet _ _ (OpG.of_B rfl (opB_call rfl rfl (FSpec.nz (refRight W H p hl) (by simp [go_sem, List.map_cons, List.map_nil, List.append_nil, opnd, unc])))) ?_
  simp only [go_sem]
  refine hX.quiet _ _ (OpG.of_BG rfl rfl rfl (by first | (simp only [go_sem]; done) | (simp [go_sem] <;> (intros; simp_all))) fun hc => opB_call rfl rfl (FSpec.nz (refRight W' H' q hl') (by simp [go_sem, List.map_cons, List.map_nil, List.append_nil, opnd, unc]))) ?_
  simp only [go_sem]
  refine hK _ _ ?_; clear hX hK X K
  show IW _ _ _ _ _ _ _ _
  refine IW.cond rfl (fun hb => ?_) (fun hb => ?_) <;> rw [miss_shape] at hb
  · repeat refine IW.seq ?_
    refine IW.region_seq tab_ok [some 4] rfl fun X K hX hK => ?_
    simp only [go_sem]
    refine hK _ _ ?_; clear hX hK X K
    show IW _ _ _ _ _ _ _ _
    refine IW.ret (Fin.scal rfl rfl ?_)
    simp only [Bool.not_eq_true', decide_eq_false_iff_not] at hb
    show SV.int .i64 (-1) = SV.int .i64 _
    rw [missS, if_neg hb]
  · refine IW.skip ?_
    show IW _ _ _ _ _ _ _ _
    simp only [Bool.not_eq_false', decide_eq_true_eq] at hb
    have hlen : p.length = q.length := by
      have h1 := (right_len hb.1).1
      have h2 := (right_len hb.2.1).1
      rw [hb.2.2.1, hb.2.2.2] at h1
      omega
    repeat refine IW.seq ?_
    refine IW.region_seq tab_ok [some 5] rfl fun X K hX hK => ?_
    simp only [go_sem]
    refine hK _ _ ?_; clear hX hK X K
    show IW _ _ _ _ _ _ _ _
    repeat refine IW.seq ?_
    refine IW.region_seq tab_ok [some 6] rfl fun X K hX hK => ?_
    simp only [go_sem]
    refine hK _ _ ?_; clear hX hK X K
    show IW _ _ _ _ _ _ _ _
    refine IW.block ?_
    refine IW.loop (α := {i : Nat // i ≤ p.length}) (fun i => [(2, .ptr 0 0 0), (3, .ptr 1 0 0), (5, .int .i64 (cnt p q i)), (6, .int .i64 i.1)]) (fun _ => [some ⟨3, 33, [[.int .i64 W, .int .i64 H, .sl true (nums .u8 p)]]⟩, some ⟨3, 33, [[.int .i64 W', .int .i64 H', .sl true (nums .u8 q)]]⟩]) (fun i => p.length - i.1) ⟨0, by omega⟩ ?_ fun ⟨i, hi⟩ => ?_
    · refine Ent.cut ?_ ?_ <;> simp only [go_sem, cnt]
    · simp only []
      have hc := cnt_bd p q i
      repeat refine IW.seq ?_
      refine IW.region_seq tab_ok [some 29, some 30, some 31, some 32, some 33] rfl fun X K hX hK => ?_
      simp only [go_sem]
      refine hK _ _ ?_; clear hX hK X K
      show IW _ _ _ _ _ _ _ _
      refine IW.cond rfl (fun hb1 => ?_) (fun hb1 => ?_)
      · refine IW.skip ?_
        show IW _ _ _ _ _ _ _ _
        simp only [decide_eq_true_eq] at hb1
        have hlt : i < p.length := by omega
        have hlt' : i < q.length := by omega
        refine IW.seq (IW.block ?_)
        repeat refine IW.seq ?_
        refine IW.region_draw tab_ok mixed [some 36, some 37, some 38, some 39, some 40, some 41, some 42, some 43, some 44, some 45, some 46] 11 (by kernel_rfl) rfl fun Xq Xs K hXq hXs hK K1 hK1 => ?_
        simp only [go_sem, Int.toNat_natCast, nums_at hlt, nums_at hlt']

        refine ⟨⟨by omega, by omega⟩, ⟨by omega, by omega⟩, ?_⟩
        refine hK1 _ _ ?_; clear hXq hK1 K1 Xq
        simp only [List.drop_zero, List.drop_succ_cons, go_sem]
        refine hK _ _ ?_; clear hXs hK K Xs
        show IW _ _ _ _ _ _ _ _
        have e1 : IntKind.i64.wrap ((i : Int) + 1) = ((i + 1 : Nat) : Int) := (wrap_eq (by omega) (by omega)).trans (by omega)
        have e2 : IntKind.i64.wrap (cnt p q i + 1) = cnt p q i + 1 := wrap_eq (by omega) (by omega)
        refine IW.cond rfl (fun hb2 => ?_) (fun hb2 => ?_)
        · repeat refine IW.seq ?_
          refine IW.region_seq tab_ok [some 47, some 48, some 5] rfl fun X K hX hK => ?_
          simp only [go_sem, e2]
          refine hK _ _ ?_; clear hX hK X K
          show IW _ _ _ _ _ _ _ _
          repeat refine IW.seq ?_
          refine IW.region_seq tab_ok [some 34, some 35, some 6] rfl fun X K hX hK => ?_
          simp only [go_sem, e1]
          refine hK _ _ ⟨⟨i + 1, hlt⟩, by simp only []; omega, ?_⟩
          simp only [bne_iff_ne, ne_eq] at hb2
          refine Ent.cut ?_ ?_ <;> simp only [go_sem, cnt, ne_eq, hb2, not_false_eq_true]
        · refine IW.skip ?_
          show IW _ _ _ _ _ _ _ _
          repeat refine IW.seq ?_
          refine IW.region_seq tab_ok [some 34, some 35, some 6] rfl fun X K hX hK => ?_
          simp only [go_sem, e1]
          refine hK _ _ ⟨⟨i + 1, hlt⟩, by simp only []; omega, ?_⟩
          simp only [bne_eq_false_iff_eq] at hb2
          refine Ent.cut ?_ ?_ <;> simp only [go_sem, cnt, hb2, ne_eq, not_true_eq_false, Int.add_zero]
      · refine IW.exit ?_
        show IW _ _ _ _ _ _ _ _
        repeat refine IW.seq ?_
        refine IW.region_seq tab_ok [some 49, some 4] rfl fun X K hX hK => ?_
        simp only [go_sem]
        refine hK _ _ ?_; clear hX hK X K
        show IW _ _ _ _ _ _ _ _
        refine IW.ret (Fin.scal rfl rfl ?_)
        simp only [decide_eq_false_iff_not] at hb1
        have : i = p.length := by omega
        subst this
        show SV.int .i64 _ = SV.int .i64 _
        rw [missS, if_pos hb]
end Go.Proofs.Ytnbpbehlemaeoaa

set_option linter.unusedVariables false
set_option linter.unusedSimpArgs false
set_option maxRecDepth 10000
namespace Go.Proofs.Ytnbpbehlemaeoaa
open Go.IL
/-- The font's image: a struct about an ink. -/
def img (W H : Int) (pix : List Int) : SV := .agg [.int .i64 W, .int .i64 H, .sl true (nums .u8 pix)]
attribute [go_sem] img
theorem pBig (x : Int) : FSpec Try.prog 84 [.int .u8 x] (.bool (decide (1 < x))) [] := by
  refine FSpec.intro tab_ok Try.func84 rfl rfl rfl (by kernel_rfl) (by simp) fun w0 => ?_
  simp only [argTM, Nat.zero_add, Nat.reduceAdd]
  repeat refine IW.seq ?_
  refine IW.region_seq tab_ok [some 2] rfl fun X K hX hK => ?_
  simp only [go_sem]
  refine hK _ _ ?_; clear hX hK X K
  show IW _ _ _ _ _ _ _ _
  repeat refine IW.seq ?_
  refine IW.region_seq tab_ok [some 3, some 4, some 2] rfl fun X K hX hK => ?_
  simp only [go_sem]
  refine hK _ _ ?_; clear hX hK X K
  show IW _ _ _ _ _ _ _ _
  refine IW.ret (Fin.scal rfl rfl ?_)
  rfl
/-- The first place of one greater than 1. -/
def bigAt : List Int → Nat → Int
  | [], _ => -1
  | x :: l, i => if 1 < x then i else bigAt l (i + 1)
theorem fIndexFunc (xs : List Int) (hl : xs.length ≤ 1000000) : ∃ n : Int, (0 ≤ n ↔ (xs.all fun x => decide (x ≤ 1)) = false) ∧ FSpec Try.prog 92 [.sl true (nums .u8 xs), .clo 84 []] (.int .i64 n) [] := by
  refine ⟨bigAt xs 0, ?_, ?_⟩
  · have key : ∀ (l : List Int) (i : Nat), 0 ≤ bigAt l i ↔ (l.all fun x => decide (x ≤ 1)) = false := by
      intro l
      induction l with
      | nil => intro i; simp [bigAt]
      | cons x l ih =>
        intro i
        simp only [bigAt, List.all_cons]
        by_cases h : 1 < x
        · rw [if_pos h]
          have : decide (x ≤ 1) = false := by simp; omega
          simp [this]
        · rw [if_neg h, ih]
          have : decide (x ≤ 1) = true := by simp; omega
          simp [this]
    exact key xs 0
  · refine FSpec.intro tab_ok Try.func92 rfl rfl rfl (by kernel_rfl) (by simp) fun w0 => ?_
    simp only [argTM, Nat.zero_add, Nat.reduceAdd]
    repeat refine IW.seq ?_
    refine IW.region_seq tab_ok [some 4] rfl fun X K hX hK => ?_
    simp only [go_sem]
    refine hK _ _ ?_; clear hX hK X K
    show IW _ _ _ _ _ _ _ _
    repeat refine IW.seq ?_
    refine IW.region_seq tab_ok [some 6, some 7, some 8] rfl fun X K hX hK => ?_
    simp only [go_sem]
    refine hK _ _ ?_; clear hX hK X K
    show IW _ _ _ _ _ _ _ _
    refine IW.block ?_
    refine IW.loop (α := {i : Nat // i ≤ xs.length ∧ bigAt xs 0 = bigAt (xs.drop i) i}) (fun i => [(0, .sl true (nums .u8 xs)), (1, .clo 84 []), (7, .int .i64 xs.length), (8, .int .i64 i.1)]) (fun _ => []) (fun i => xs.length - i.1) ⟨0, by omega, rfl⟩ ?_ fun ⟨i, hi, hp⟩ => ?_
    · refine Ent.cut ?_ ?_ <;> simp only [go_sem]
    · simp only []
      repeat refine IW.seq ?_
      refine IW.region_seq tab_ok [some 9] rfl fun X K hX hK => ?_
      simp only [go_sem]
      refine hK _ _ ?_; clear hX hK X K
      show IW _ _ _ _ _ _ _ _
      repeat refine IW.seq ?_
      refine IW.cond rfl (fun hb1 => ?_) (fun hb1 => ?_)
      · refine IW.skip ?_
        show IW _ _ _ _ _ _ _ _
        simp only [decide_eq_true_eq] at hb1
        have hlt : i < xs.length := by omega
        refine IW.seq (IW.block ?_)
        repeat refine IW.seq ?_
        refine IW.region_seq tab_ok [some 10, some 5] rfl fun X K hX hK => ?_
        simp only [go_sem]
        refine hK _ _ ?_; clear hX hK X K
        show IW _ _ _ _ _ _ _ _
        repeat refine IW.seq ?_
        refine IW.region_seq tab_ok [some 11, some 12, some 13, some 14, some 15, some 16] rfl fun X K hX hK => ?_
        simp only [go_sem, Int.toNat_natCast, nums_at hlt]
        refine ⟨⟨by omega, by omega⟩, ?_⟩
        refine hX.quiet _ _ (OpG.of_B rfl (opB_call rfl rfl (FSpec.nz (pBig (xs.getD i 0)) (by simp [go_sem, List.map_cons, List.map_nil, List.append_nil, opnd, unc])))) ?_
        simp only [go_sem]
        refine hK _ _ ?_; clear hX hK X K
        show IW _ _ _ _ _ _ _ _
        have e0 : bigAt (xs.drop i) i = if 1 < xs.getD i 0 then (i : Int) else bigAt (xs.drop (i + 1)) (i + 1) := by
          rw [List.drop_eq_getElem_cons hlt]
          simp [bigAt, hlt]
        repeat refine IW.seq ?_
        refine IW.cond rfl (fun hb2 => ?_) (fun hb2 => ?_)
        · repeat refine IW.seq ?_
          refine IW.region_seq tab_ok [some 17, some 4] rfl fun X K hX hK => ?_
          simp only [go_sem]
          refine hK _ _ ?_; clear hX hK X K
          show IW _ _ _ _ _ _ _ _
          refine IW.ret (Fin.scal rfl rfl ?_)
          show SV.int .i64 _ = SV.int .i64 _
          rw [hp, e0, if_pos (by simpa using hb2)]
        · refine IW.skip ?_
          show IW _ _ _ _ _ _ _ _
          have e1 : IntKind.i64.wrap ((i : Int) + 1) = ((i + 1 : Nat) : Int) := (wrap_eq (by omega) (by omega)).trans (by omega)
          repeat refine IW.seq ?_
          refine IW.region_seq tab_ok [some 18, some 8] rfl fun X K hX hK => ?_
          simp only [go_sem, e1]
          refine hK _ _ ⟨⟨i + 1, hlt, ?_⟩, by simp only []; omega, ?_⟩
          · rw [hp, e0, if_neg (by simpa using hb2)]
          · refine Ent.cut ?_ ?_ <;> simp only [go_sem]
      · refine IW.exit ?_
        show IW _ _ _ _ _ _ _ _
        repeat refine IW.seq ?_
        refine IW.region_seq tab_ok [some 4] rfl fun X K hX hK => ?_
        simp only [go_sem]
        refine hK _ _ ?_; clear hX hK X K
        show IW _ _ _ _ _ _ _ _
        refine IW.ret (Fin.scal rfl rfl ?_)
        show SV.int .i64 (-1) = SV.int .i64 _
        rw [hp, List.drop_eq_nil_of_le (by simp only [decide_eq_false_iff_not] at hb1; omega)]; rfl
theorem fContainsFunc (xs : List Int) (hl : xs.length ≤ 1000000) : FSpec Try.prog 83 [.sl true (nums .u8 xs), .clo 84 []] (.bool (!xs.all fun x => decide (x ≤ 1))) [] := by
  obtain ⟨n, hn, hs⟩ := fIndexFunc xs hl
  refine FSpec.intro tab_ok Try.func83 rfl rfl rfl (by kernel_rfl) (by simp) fun w0 => ?_
  simp only [argTM, Nat.zero_add, Nat.reduceAdd]
  repeat refine IW.seq ?_
  refine IW.region_seq tab_ok [some 4] rfl fun X K hX hK => ?_
  simp only [go_sem]
  refine hK _ _ ?_; clear hX hK X K
  show IW _ _ _ _ _ _ _ _
  repeat refine IW.seq ?_
  refine IW.region_seq tab_ok [some 5, some 6, some 7, some 8, some 4] rfl fun X K hX hK => ?_
  simp only [go_sem]
  refine hX.quiet _ _ (OpG.of_B rfl (opB_call rfl rfl (FSpec.nz (hs) (by simp [go_sem, List.map_cons, List.map_nil, List.append_nil, opnd, unc])))) ?_
  simp only [go_sem]
  refine hK _ _ ?_; clear hX hK X K
  show IW _ _ _ _ _ _ _ _
  refine IW.ret (Fin.scal rfl rfl ?_)
  show SV.bool (decide (0 ≤ n)) = SV.bool _
  congr 1
  by_cases h : 0 ≤ n
  · simp only [h, decide_true, hn.1 h, Bool.not_false]
  · have : (xs.all fun x => decide (x ≤ 1)) = true := by
      cases e : (xs.all fun x => decide (x ≤ 1)) with
      | true => rfl
      | false => exact absurd (hn.2 e) h
    simp only [h, decide_false, this, Bool.not_true]
theorem iRight (W H : Int) (pix : List Int) (hl : pix.length ≤ 1000000) : FSpec Try.prog 67 [img W H pix] (.bool (rightS W H pix)) [] := by
  refine FSpec.intro tab_ok Try.func67 rfl rfl rfl (by kernel_rfl) (by simp) fun w0 => ?_
  simp only [argTM, Nat.zero_add, Nat.reduceAdd]
  simp only [img]
  repeat refine IW.seq ?_
  refine IW.region_seq tab_ok [some 1, some 2] rfl fun X K hX hK => ?_
  simp only [go_sem]
  refine hK _ _ ?_; clear hX hK X K
  show IW _ _ _ _ _ _ _ _
  repeat refine IW.seq ?_
  refine IW.region_seq tab_ok [some 3, some 4, some 5, some 6, some 7, some 8, some 9, some 10, some 11, some 12, some 13, some 14, some 15, some 16, some 17, some 18, some 19, some 20, some 21, some 22, some 23, some 24, some 25, some 26, some 27, some 28, some 29, some 30, some 31, some 32, some 33, some 34, some 35, some 36, some 37, some 38] rfl fun X K hX hK => ?_
  simp only [go_sem]
  refine hK _ _ ?_; clear hX hK X K
  show IW _ _ _ _ _ _ _ _
  repeat refine IW.seq ?_
  refine IW.cond rfl (fun hb => ?_) (fun hb => ?_) <;> rw [right_shape] at hb
  · repeat refine IW.seq ?_
    refine IW.region_seq tab_ok [some 2] rfl fun X K hX hK => ?_
    simp only [go_sem]
    refine hK _ _ ?_; clear hX hK X K
    show IW _ _ _ _ _ _ _ _
    refine IW.ret (Fin.scal rfl rfl ?_)
    rw [Bool.not_eq_true'] at hb
    show SV.bool false = SV.bool _
    rw [rightS, hb]; rfl
  · rw [Bool.not_eq_false'] at hb
    refine IW.skip ?_
    show IW _ _ _ _ _ _ _ _
    repeat refine IW.seq ?_
    refine IW.region_seq tab_ok [some 39, some 40, some 41, some 42, some 43, some 2] rfl fun X K hX hK => ?_
    simp only [go_sem]
    refine hX.quiet _ _ (OpG.of_B rfl (opB_call rfl rfl (FSpec.nz (fContainsFunc pix hl) (by simp [go_sem, List.map_cons, List.map_nil, List.append_nil, opnd, unc])))) ?_
    simp only [go_sem]
    refine hK _ _ ?_; clear hX hK X K
    show IW _ _ _ _ _ _ _ _
    refine IW.ret (Fin.scal rfl rfl ?_)
    show SV.bool _ = SV.bool _
    rw [rightS, hb]; simp
theorem fRight (W H : Int) (pix : List Int) (hl : pix.length ≤ 1000000) : FSpec Try.prog 34 [ink W H pix] (.bool (rightS W H pix)) [] := by
  refine FSpec.intro tab_ok Try.func34 rfl rfl rfl (by kernel_rfl) (by simp) fun w0 => ?_
  simp only [argTM, Nat.zero_add, Nat.reduceAdd]
  simp only [ink]
  repeat refine IW.seq ?_
  refine IW.region_seq tab_ok [some 1, some 2] rfl fun X K hX hK => ?_
  simp only [go_sem]
  refine hK _ _ ?_; clear hX hK X K
  show IW _ _ _ _ _ _ _ _
  repeat refine IW.seq ?_
  refine IW.region_seq tab_ok [some 3, some 4, some 5, some 2] rfl fun X K hX hK => ?_
  simp only [go_sem]
  refine hX.quiet _ _ (OpG.of_B rfl (opB_call rfl rfl (FSpec.nz (iRight W H pix hl) (by simp [go_sem, List.map_cons, List.map_nil, List.append_nil, opnd, unc])))) ?_
  simp only [go_sem]
  refine hK _ _ ?_; clear hX hK X K
  show IW _ _ _ _ _ _ _ _
  refine IW.ret (Fin.scal rfl rfl ?_)
  rfl
end Go.Proofs.Ytnbpbehlemaeoaa

set_option linter.unusedVariables false
set_option linter.unusedSimpArgs false
set_option maxRecDepth 10000
namespace Go.Proofs.Ytnbpbehlemaeoaa
open Go.IL
theorem succ_wrap {i n : Nat} (h : i < n) (hn : n ≤ 9223372036854775807) : IntKind.i64.wrap ((i : Int) + 1) = ((i + 1 : Nat) : Int) := (wrap_eq (by omega) (by omega)).trans (by omega)
theorem divw {a b : Nat} (h : a ≤ 9223372036854775807) : IntKind.i64.wrap ((a : Int).tdiv (b : Int)) = ((a / b : Nat) : Int) := by
  have := Nat.div_le_self a b
  rw [← Int.ofNat_tdiv]
  generalize a / b = q at *
  exact wrap_eq (by omega) (by omega)
theorem fMiss (W H : Int) (p : List Int) (W' H' : Int) (q : List Int) (hl : p.length ≤ 1000000) (hl' : q.length ≤ 1000000) : FSpec Try.prog 23 [ink W H p, ink W' H' q] (.int .i64 (missS W H p W' H' q)) [] := by
  refine FSpec.intro tab_ok Try.func23 rfl rfl rfl (by kernel_rfl) (by simp) fun w0 => ?_
  simp only [argTM, Nat.zero_add, Nat.reduceAdd]
  simp only [ink]
  repeat refine IW.seq ?_
  refine IW.region_seq tab_ok [some 2, some 3, some 4] rfl fun X K hX hK => ?_
  simp only [go_sem]
  refine hK _ _ ?_; clear hX hK X K
  show IW _ _ _ _ _ _ _ _
  repeat refine IW.seq ?_
  refine IW.region_seq tab_ok [some 8, some 9, some 10, some 11, some 12, some 13, some 14, some 15, some 16, some 17, some 18, some 19, some 20, some 21, some 22, some 23, some 24, some 25, some 26, some 27, some 28, some 29] rfl fun X K hX hK => ?_
  simp only [go_sem]
  refine hX.quiet _ _ (OpG.of_B rfl (opB_call rfl rfl (FSpec.nz (fRight W H p hl) (by simp [go_sem, List.map_cons, List.map_nil, List.append_nil, opnd, unc])))) ?_
  simp only [go_sem]
  refine hX.quiet _ _ (OpG.of_BG rfl rfl rfl (by first | (simp only [go_sem]; done) | (simp [go_sem] <;> (intros; simp_all))) fun hc => opB_call rfl rfl (FSpec.nz (fRight W' H' q hl') (by simp [go_sem, List.map_cons, List.map_nil, List.append_nil, opnd, unc]))) ?_
  simp only [go_sem]
  refine hK _ _ ?_; clear hX hK X K
  show IW _ _ _ _ _ _ _ _
  repeat refine IW.seq ?_
  refine IW.cond rfl (fun hb => ?_) (fun hb => ?_) <;> rw [miss_shape] at hb
  · repeat refine IW.seq ?_
    refine IW.region_seq tab_ok [some 4] rfl fun X K hX hK => ?_
    simp only [go_sem]
    refine hK _ _ ?_; clear hX hK X K
    show IW _ _ _ _ _ _ _ _
    refine IW.ret (Fin.scal rfl rfl ?_)
    simp only [Bool.not_eq_true', decide_eq_false_iff_not] at hb
    show SV.int .i64 (-1) = SV.int .i64 _
    rw [missS, if_neg hb]
  · refine IW.skip ?_
    show IW _ _ _ _ _ _ _ _
    simp only [Bool.not_eq_false', decide_eq_true_eq] at hb
    have hlen : p.length = q.length := by
      have h1 := (right_len hb.1).1
      have h2 := (right_len hb.2.1).1
      rw [hb.2.2.1, hb.2.2.2] at h1
      omega
    repeat refine IW.seq ?_
    refine IW.region_seq tab_ok [some 5] rfl fun X K hX hK => ?_
    simp only [go_sem]
    refine hK _ _ ?_; clear hX hK X K
    show IW _ _ _ _ _ _ _ _
    repeat refine IW.seq ?_
    refine IW.region_seq tab_ok [some 30, some 31, some 32, some 33] rfl fun X K hX hK => ?_
    simp only [go_sem]
    refine hK _ _ ?_; clear hX hK X K
    show IW _ _ _ _ _ _ _ _
    refine IW.block ?_
    refine IW.loop (α := {i : Nat // i ≤ p.length}) (fun i => [(2, .ptr 0 0 0), (3, .ptr 1 0 0), (31, .sl true (nums .u8 p)), (32, .int .i64 p.length), (5, .int .i64 (cnt p q i)), (33, .int .i64 i.1)]) (fun _ => [some ⟨3, 33, [[.int .i64 W, .int .i64 H, .sl true (nums .u8 p)]]⟩, some ⟨3, 33, [[.int .i64 W', .int .i64 H', .sl true (nums .u8 q)]]⟩]) (fun i => p.length - i.1) ⟨0, by omega⟩ ?_ fun ⟨i, hi⟩ => ?_
    · refine Ent.cut ?_ ?_ <;> simp only [go_sem, cnt]
    · simp only []
      have hc := cnt_bd p q i
      repeat refine IW.seq ?_
      refine IW.region_seq tab_ok [some 34] rfl fun X K hX hK => ?_
      simp only [go_sem]
      refine hK _ _ ?_; clear hX hK X K
      show IW _ _ _ _ _ _ _ _
      repeat refine IW.seq ?_
      refine IW.cond rfl (fun hb1 => ?_) (fun hb1 => ?_)
      · refine IW.skip ?_
        show IW _ _ _ _ _ _ _ _
        simp only [decide_eq_true_eq] at hb1
        have hlt : i < p.length := by omega
        have hlt' : i < q.length := by omega
        refine IW.seq (IW.block ?_)
        repeat refine IW.seq ?_
        refine IW.region_seq tab_ok [some 35, some 36, some 37, some 6, some 7] rfl fun X K hX hK => ?_
        simp only [go_sem, Int.toNat_natCast, nums_at hlt]
        refine ⟨⟨by omega, by omega⟩, ?_⟩
        refine hK _ _ ?_; clear hX hK X K
        show IW _ _ _ _ _ _ _ _
        repeat refine IW.seq ?_
        refine IW.region_seq tab_ok [some 38, some 39, some 40, some 41, some 42, some 43, some 44] rfl fun X K hX hK => ?_
        simp only [go_sem, Int.toNat_natCast, nums_at hlt']
        refine ⟨⟨by omega, by omega⟩, ?_⟩
        refine hK _ _ ?_; clear hX hK X K
        show IW _ _ _ _ _ _ _ _
        have e1 := succ_wrap hlt (by omega)
        have e2 : IntKind.i64.wrap (cnt p q i + 1) = cnt p q i + 1 := wrap_eq (by omega) (by omega)
        repeat refine IW.seq ?_
        refine IW.cond rfl (fun hb2 => ?_) (fun hb2 => ?_)
        · repeat refine IW.seq ?_
          refine IW.region_seq tab_ok [some 45, some 46, some 5] rfl fun X K hX hK => ?_
          simp only [go_sem, e2]
          refine hK _ _ ?_; clear hX hK X K
          show IW _ _ _ _ _ _ _ _
          repeat refine IW.seq ?_
          refine IW.region_seq tab_ok [some 47, some 33] rfl fun X K hX hK => ?_
          simp only [go_sem, e1]
          refine hK _ _ ⟨⟨i + 1, hlt⟩, by simp only []; omega, ?_⟩
          simp only [bne_iff_ne, ne_eq] at hb2
          refine Ent.cut ?_ ?_ <;> simp only [go_sem, cnt, ne_eq, hb2, not_false_eq_true]
        · refine IW.skip ?_
          show IW _ _ _ _ _ _ _ _
          repeat refine IW.seq ?_
          refine IW.region_seq tab_ok [some 47, some 33] rfl fun X K hX hK => ?_
          simp only [go_sem, e1]
          refine hK _ _ ⟨⟨i + 1, hlt⟩, by simp only []; omega, ?_⟩
          simp only [bne_eq_false_iff_eq] at hb2
          refine Ent.cut ?_ ?_ <;> simp only [go_sem, cnt, hb2, ne_eq, not_true_eq_false, Int.add_zero]
      · refine IW.exit ?_
        show IW _ _ _ _ _ _ _ _
        repeat refine IW.seq ?_
        refine IW.region_seq tab_ok [some 48, some 4] rfl fun X K hX hK => ?_
        simp only [go_sem]
        refine hK _ _ ?_; clear hX hK X K
        show IW _ _ _ _ _ _ _ _
        refine IW.ret (Fin.scal rfl rfl ?_)
        simp only [decide_eq_false_iff_not] at hb1
        have : i = p.length := by omega
        subst this
        show SV.int .i64 _ = SV.int .i64 _
        rw [missS, if_pos hb]
/-- The fraction of those that are equal, n being different. -/
def ratS (n : Int) (all : Nat) : Int × Int :=
  if n < 0 then (0, 1) else if all = 0 then (1, 1) else let a := all - n.toNat; let g := Nat.gcd a all; ((a / g : Nat), (all / g : Nat))
def ratV (r : Int × Int) : SV := .agg [.int .i64 r.1, .int .i64 r.2]
attribute [go_sem] ratV
theorem missS_bd (W H : Int) (p : List Int) (W' H' : Int) (q : List Int) : missS W H p W' H' q ≤ p.length ∧ -1 ≤ missS W H p W' H' q := by
  have := cnt_bd p q p.length
  unfold missS; split <;> omega
theorem fShare (W H : Int) (p : List Int) (W' H' : Int) (q : List Int) (hl : p.length ≤ 1000000) (hl' : q.length ≤ 1000000) : FSpec Try.prog 25 [ink W H p, ink W' H' q] (ratV (ratS (missS W H p W' H' q) p.length)) [] := by
  have hm := missS_bd W H p W' H' q
  have hs := fMiss W H p W' H' q hl hl'
  generalize missS W H p W' H' q = n at *
  refine FSpec.intro tab_ok Try.func25 rfl rfl rfl (by kernel_rfl) (by simp) fun w0 => ?_
  simp only [argTM, Nat.zero_add, Nat.reduceAdd]
  simp only [ink]
  repeat refine IW.seq ?_
  refine IW.region_seq tab_ok [some 2, some 3, some 4] rfl fun X K hX hK => ?_
  simp only [go_sem]
  refine hK _ _ ?_; clear hX hK X K
  show IW _ _ _ _ _ _ _ _
  repeat refine IW.seq ?_
  refine IW.region_seq tab_ok [some 9, some 10, some 11, some 5] rfl fun X K hX hK => ?_
  simp only [go_sem]
  refine hX.quiet _ _ (OpG.of_B rfl (opB_call rfl rfl (FSpec.nz (hs) (by simp [go_sem, List.map_cons, List.map_nil, List.append_nil, opnd, unc])))) ?_
  simp only [go_sem]
  refine hK _ _ ?_; clear hX hK X K
  show IW _ _ _ _ _ _ _ _
  repeat refine IW.seq ?_
  refine IW.region_seq tab_ok [some 12, some 13] rfl fun X K hX hK => ?_
  simp only [go_sem]
  refine hK _ _ ?_; clear hX hK X K
  show IW _ _ _ _ _ _ _ _
  repeat refine IW.seq ?_
  refine IW.cond rfl (fun hb => ?_) (fun hb => ?_)
  · repeat refine IW.seq ?_
    refine IW.region_seq tab_ok [some 14, none] rfl fun X K hX hK => ?_
    simp only [go_sem]
    refine hX.op _ _ rfl (opS_store tab_ok rfl (by simp [go_sem]) (by simp [go_sem]) (by simp [go_sem]) (by simp [go_sem]) (by simp [go_sem]) (by simp [go_sem])) ?_
    simp only [go_sem]
    refine hK _ _ ?_; clear hX hK X K
    show IW _ _ _ _ _ _ _ _
    refine IW.ret (Fin.cell ⟨trivial, by simp [go_sem]⟩ rfl rfl ?_)
    simp only [decide_eq_true_eq] at hb
    simp [go_sem, ratS, hb]
  · refine IW.skip ?_
    show IW _ _ _ _ _ _ _ _
    repeat refine IW.seq ?_
    refine IW.region_seq tab_ok [some 15, some 16, some 17, some 6] rfl fun X K hX hK => ?_
    simp only [go_sem]
    refine hK _ _ ?_; clear hX hK X K
    show IW _ _ _ _ _ _ _ _
    repeat refine IW.seq ?_
    refine IW.region_seq tab_ok [some 18, some 19] rfl fun X K hX hK => ?_
    simp only [go_sem]
    refine hK _ _ ?_; clear hX hK X K
    show IW _ _ _ _ _ _ _ _
    repeat refine IW.seq ?_
    refine IW.cond rfl (fun hb2 => ?_) (fun hb2 => ?_)
    · repeat refine IW.seq ?_
      refine IW.region_seq tab_ok [some 20, none] rfl fun X K hX hK => ?_
      simp only [go_sem]
      refine hX.op _ _ rfl (opS_store tab_ok rfl (by simp [go_sem]) (by simp [go_sem]) (by simp [go_sem]) (by simp [go_sem]) (by simp [go_sem]) (by simp [go_sem])) ?_
      simp only [go_sem]
      refine hK _ _ ?_; clear hX hK X K
      show IW _ _ _ _ _ _ _ _
      refine IW.ret (Fin.cell ⟨trivial, by simp [go_sem]⟩ rfl rfl ?_)
      simp only [beq_iff_eq, decide_eq_true_eq, decide_eq_false_iff_not] at hb hb2
      have : p.length = 0 := by omega
      simp [go_sem, ratS, hb, this]
    · refine IW.skip ?_
      show IW _ _ _ _ _ _ _ _
      simp only [beq_eq_false_iff_ne, ne_eq, decide_eq_false_iff_not] at hb hb2
      obtain ⟨m, rfl⟩ : ∃ m : Nat, n = m := ⟨n.toNat, by omega⟩
      have e1 : IntKind.i64.wrap ((p.length : Int) - (m : Int)) = ((p.length - m : Nat) : Int) := (wrap_eq (by omega) (by omega)).trans (by omega)
      repeat refine IW.seq ?_
      refine IW.region_seq tab_ok [some 21, some 22, some 23, some 24, some 7, some 8] rfl fun X K hX hK => ?_
      simp only [go_sem, e1]
      refine hK _ _ ?_; clear hX hK X K
      show IW _ _ _ _ _ _ _ _
      refine IW.seq (IW.block ?_)
      refine IW.loop (α := {x : Nat × Nat // Nat.gcd x.1 x.2 = Nat.gcd (p.length - m) p.length ∧ x.1 ≤ p.length ∧ x.2 ≤ p.length}) (fun x => [(4, .ptr 2 0 0), (5, .int .i64 m), (6, .int .i64 p.length), (7, .int .i64 x.1.1), (8, .int .i64 x.1.2)]) (fun _ => [none, none, some ⟨2, 44, [[.int .i64 0, .int .i64 0]]⟩]) (fun x => x.1.1) ⟨(p.length - m, p.length), rfl, by simp only []; omega, Nat.le_refl _⟩ ?_ fun ⟨⟨x, y⟩, hg, hx, hy⟩ => ?_
      · refine Ent.cut ?_ ?_ <;> simp only [go_sem]
      · simp only [] at hg hx hy ⊢
        repeat refine IW.seq ?_
        refine IW.region_seq tab_ok [some 25, some 26] rfl fun X K hX hK => ?_
        simp only [go_sem]
        refine hK _ _ ?_; clear hX hK X K
        show IW _ _ _ _ _ _ _ _
        repeat refine IW.seq ?_
        refine IW.cond rfl (fun hb3 => ?_) (fun hb3 => ?_)
        · refine IW.skip ?_
          show IW _ _ _ _ _ _ _ _
          simp only [bne_iff_ne, ne_eq] at hb3
          have h0 : x ≠ 0 := by omega
          refine IW.block ?_
          have e2 : (y : Int).tmod (x : Int) = ((y % x : Nat) : Int) := (Int.ofNat_tmod y x).symm
          repeat refine IW.seq ?_
          refine IW.region_seq tab_ok [some 27, some 28, some 29, some 30, some 7, some 8] rfl fun X K hX hK => ?_
          simp only [go_sem, e2]
          have := Nat.mod_lt y (by omega : 0 < x)
          refine ⟨by omega, ?_⟩
          refine hK _ _ ⟨⟨(y % x, x), ?_, by simp only []; omega, hx⟩, by simp only []; omega, ?_⟩
          · rw [← hg]; exact (Nat.gcd_rec x y).symm
          · refine Ent.cut ?_ ?_ <;> simp only [go_sem]
        · refine IW.exit ?_
          show IW _ _ _ _ _ _ _ _
          simp only [bne_eq_false_iff_eq] at hb3
          have h0 : x = 0 := by omega
          subst h0
          rw [Nat.gcd_zero_left] at hg
          subst hg
          have hgp : 0 < Nat.gcd (p.length - m) p.length := Nat.gcd_pos_of_pos_right _ (by omega)
          generalize hG : Nat.gcd (p.length - m) p.length = g at *
          have e3 : IntKind.i64.wrap (((p.length - m : Nat) : Int).tdiv (g : Int)) = (((p.length - m) / g : Nat) : Int) := divw (by omega)
          have e4 : IntKind.i64.wrap ((p.length : Int).tdiv (g : Int)) = ((p.length / g : Nat) : Int) := divw (by omega)
          have hg0 : (g : Int) ≠ 0 := by omega
          repeat refine IW.seq ?_
          refine IW.region_draw tab_ok mixed [some 31, some 32, some 33, some 34, some 35, some 36, some 37, some 38, some 39, none] 9 (by kernel_rfl) rfl fun Xq Xs K hXq hXs hK K1 hK1 => ?_
          simp only [go_sem, e1, e3, e4]
          refine ⟨hg0, hg0, ?_⟩
          refine hK1 _ _ ?_; clear hXq hK1 K1 Xq
          simp only [List.drop_zero, List.drop_succ_cons, go_sem]
          refine hXs.op _ _ rfl (opS_store tab_ok rfl (by simp [go_sem]) (by simp [go_sem]) (by simp [go_sem]) (by simp [go_sem]) (by simp [go_sem]) (by simp [go_sem])) ?_
          simp only [go_sem]
          refine hK _ _ ?_; clear hXs hK K Xs
          show IW _ _ _ _ _ _ _ _
          refine IW.ret (Fin.cell ⟨trivial, by simp [go_sem]⟩ rfl rfl ?_)
          simp only [ratS, if_neg hb, if_neg (show ¬ p.length = 0 by omega), Int.toNat_natCast, hG]
          rfl
end Go.Proofs.Ytnbpbehlemaeoaa

set_option linter.unusedVariables false
set_option linter.unusedSimpArgs false
set_option maxRecDepth 10000
namespace Go.Proofs.Ytnbpbehlemaeoaa
open Go.IL
theorem refBlank (W H : Nat) (hb : W * H ≤ 1000000) (hw : W ≤ 1000000) (hh : H ≤ 1000000) : FSpec Try.prog 54 [.int .i64 W, .int .i64 H] (imgSV (some (W, H, List.replicate (W * H) 0))) (imgRows (some (W, H, List.replicate (W * H) 0))) := by
  refine FSpec.intro tab_ok Try.func54 rfl rfl rfl (by kernel_rfl) (by simp) fun w0 => ?_
  simp only [argTM, Nat.zero_add, Nat.reduceAdd]
  repeat refine IW.seq ?_
  refine IW.region_seq tab_ok [some 4] rfl fun X K hX hK => ?_
  simp only [go_sem]
  refine hK _ _ ?_; clear hX hK X K
  show IW _ _ _ _ _ _ _ _
  have e1 : IntKind.i64.wrap ((W : Int) * (H : Int)) = ((W * H : Nat) : Int) := by
    rw [← Int.natCast_mul]; exact wrap_eq (by omega) (by omega)
  repeat refine IW.seq ?_
  refine IW.region_seq tab_ok [some 5, some 6, some 7, some 8, some 9, some 10, some 11, none] rfl fun X K hX hK => ?_
  simp only [go_sem, e1]
  refine hX.quiet _ _ (OpG.of_B rfl (opB_makeSlice tab_ok (k := .i64) (n := W * H) (by simp only [go_sem]) rfl (by simp [go_sem]) (by simp [go_sem]; omega) (by omega))) ?_
  simp only [go_sem]
  refine hX.op _ _ rfl (opS_store tab_ok rfl (by simp [go_sem]) (by simp [go_sem]) (by simp [go_sem]) (by simp [go_sem]) (by simp [go_sem]) (by simp [go_sem])) ?_
  simp only [go_sem]
  refine hK _ _ ?_; clear hX hK X K
  show IW _ _ _ _ _ _ _ _
  refine IW.ret (Fin.cell1 1 ⟨trivial, by simp [go_sem]⟩ rfl (by simp [go_sem]) ?_ ?_)
  · simp [go_sem, imgSV]
  · simp [go_sem]
def hasS (l : List Int) (n : Int) : Bool := l.any fun x => x == n
theorem refHas (l : List Int) (n : Int) (hl : l.length ≤ 1000000) : FSpec Try.prog 69 [.sl true (nums .i64 l), .int .i64 n] (.bool (hasS l n)) [] := by
  refine FSpec.intro tab_ok Try.func69 rfl rfl rfl (by kernel_rfl) (by simp) fun w0 => ?_
  simp only [argTM, Nat.zero_add, Nat.reduceAdd]
  repeat refine IW.seq ?_
  refine IW.region_seq tab_ok [some 4] rfl fun X K hX hK => ?_
  simp only [go_sem]
  refine hK _ _ ?_; clear hX hK X K
  show IW _ _ _ _ _ _ _ _
  repeat refine IW.seq ?_
  refine IW.region_seq tab_ok [some 5] rfl fun X K hX hK => ?_
  simp only [go_sem]
  refine hK _ _ ?_; clear hX hK X K
  show IW _ _ _ _ _ _ _ _
  repeat refine IW.seq ?_
  refine IW.block ?_
  refine IW.loop (α := {i : Nat // i ≤ l.length ∧ ∀ j, j < i → l.getD j 0 ≠ n}) (fun i => [(0, .sl true (nums .i64 l)), (1, .int .i64 n), (5, .int .i64 i.1)]) (fun _ => []) (fun i => l.length - i.1) ⟨0, by omega, fun j h => absurd h (by omega)⟩ ?_ fun ⟨i, hi, hp⟩ => ?_
  · refine Ent.cut ?_ ?_ <;> simp only [go_sem]
  · simp only []
    repeat refine IW.seq ?_
    refine IW.region_seq tab_ok [some 6, some 7, some 8, some 9] rfl fun X K hX hK => ?_
    simp only [go_sem]
    refine hK _ _ ?_; clear hX hK X K
    show IW _ _ _ _ _ _ _ _
    repeat refine IW.seq ?_
    refine IW.cond rfl (fun hb1 => ?_) (fun hb1 => ?_)
    · refine IW.skip ?_
      show IW _ _ _ _ _ _ _ _
      simp only [decide_eq_true_eq] at hb1
      have hlt : i < l.length := by omega
      repeat refine IW.seq ?_
      refine IW.block ?_
      repeat refine IW.seq ?_
      refine IW.region_seq tab_ok [some 12, some 13, some 14, some 15, some 16, some 17] rfl fun X K hX hK => ?_
      simp only [go_sem, Int.toNat_natCast, nums_at hlt]
      refine ⟨⟨by omega, by omega⟩, ?_⟩
      refine hK _ _ ?_; clear hX hK X K
      show IW _ _ _ _ _ _ _ _
      repeat refine IW.seq ?_
      refine IW.cond rfl (fun hb2 => ?_) (fun hb2 => ?_)
      · repeat refine IW.seq ?_
        refine IW.region_seq tab_ok [some 4] rfl fun X K hX hK => ?_
        simp only [go_sem]
        refine hK _ _ ?_; clear hX hK X K
        show IW _ _ _ _ _ _ _ _
        refine IW.ret (Fin.scal rfl rfl ?_)
        show SV.bool true = SV.bool _
        simp only [beq_iff_eq] at hb2
        have : hasS l n = true := List.any_eq_true.2 ⟨_, getD_mem hlt, by simpa using hb2⟩
        rw [this]
      · refine IW.skip ?_
        show IW _ _ _ _ _ _ _ _
        repeat refine IW.seq ?_
        refine IW.region_seq tab_ok [some 10, some 11, some 5] rfl fun X K hX hK => ?_
        simp only [go_sem, succ_wrap hlt (by omega)]
        refine hK _ _ ⟨⟨i + 1, hlt, fun j hj => ?_⟩, by simp only []; omega, ?_⟩
        · rcases Nat.lt_succ_iff_lt_or_eq.1 hj with h | h
          · exact hp j h
          · subst h; simpa using hb2
        · refine Ent.cut ?_ ?_ <;> simp only [go_sem]
    · refine IW.exit ?_
      show IW _ _ _ _ _ _ _ _
      repeat refine IW.seq ?_
      refine IW.region_seq tab_ok [some 4] rfl fun X K hX hK => ?_
      simp only [go_sem]
      refine hK _ _ ?_; clear hX hK X K
      show IW _ _ _ _ _ _ _ _
      refine IW.ret (Fin.scal rfl rfl ?_)
      show SV.bool false = SV.bool _
      have : hasS l n = false := List.any_eq_false.2 fun x hx => by
        obtain ⟨j, hj, rfl⟩ := List.mem_iff_getElem.1 hx
        have := hp j (by simp only [decide_eq_false_iff_not] at hb1; omega)
        simpa [hj] using this
      rw [this]
/-- Images with lines. -/
def linedF (W : Nat) (p : List Int) (l : List Int) (t : Nat) : Int := if hasS l ((t / W : Nat) : Int) then 1 else p.getD t 0
def linedS (W H : Int) (p : List Int) (l : List Int) : Img := if rightS W H p then some (W.toNat, H.toNat, (List.range p.length).map (linedF W.toNat p l)) else none
theorem refAt (W H x y : Nat) (p : List Int) (hx : x < W) (hy : y < H) (hp : p.length = W * H) (hl : p.length ≤ 1000000) : FSpec Try.prog 68 [ink W H p, .int .i64 x, .int .i64 y] (.int .u8 (p.getD (y * W + x) 0)) [] := by
  have hlt : y * W + x < p.length := by
    have : (y + 1) * W ≤ H * W := Nat.mul_le_mul_right _ hy
    rw [Nat.add_mul] at this; rw [hp, Nat.mul_comm W H]; omega
  refine FSpec.intro tab_ok Try.func68 rfl rfl rfl (by kernel_rfl) (by simp) fun w0 => ?_
  simp only [argTM, Nat.zero_add, Nat.reduceAdd]
  repeat refine IW.seq ?_
  refine IW.region_seq tab_ok [some 3, some 6] rfl fun X K hX hK => ?_
  simp only [go_sem]
  refine hK _ _ ?_; clear hX hK X K
  show IW _ _ _ _ _ _ _ _
  repeat refine IW.seq ?_
  refine IW.region_seq tab_ok [some 7, some 8, some 9, some 10, some 11, some 12, some 13, some 14, some 15, some 16, some 17, some 18, some 19, some 20, some 21, some 22, some 23, some 24] rfl fun X K hX hK => ?_
  simp only [go_sem]
  refine hK _ _ ?_; clear hX hK X K
  show IW _ _ _ _ _ _ _ _
  repeat refine IW.seq ?_
  refine IW.cond rfl (fun hb => ?_) (fun hb => ?_)
  · exfalso; simp only [Bool.or_eq_true, decide_eq_true_eq] at hb; omega
  · refine IW.skip ?_
    show IW _ _ _ _ _ _ _ _
    have e1 : IntKind.i64.wrap ((y : Int) * (W : Int)) = ((y * W : Nat) : Int) := by
      rw [← Int.natCast_mul]; exact wrap_eq (by omega) (by omega)
    have e2 : IntKind.i64.wrap (((y * W : Nat) : Int) + (x : Int)) = ((y * W + x : Nat) : Int) := (wrap_eq (by omega) (by omega)).trans (by omega)
    repeat refine IW.seq ?_
    refine IW.region_seq tab_ok [some 25, some 26, some 27, some 28, some 29, some 30, some 31, some 32, some 33, some 34, some 6] rfl fun X K hX hK => ?_
    simp only [go_sem, e1, e2, Int.toNat_natCast, nums_at hlt]
    refine ⟨⟨by omega, by omega⟩, ?_⟩
    refine hK _ _ ?_; clear hX hK X K
    show IW _ _ _ _ _ _ _ _
    refine IW.ret (Fin.scal rfl rfl ?_)
    rfl
theorem refLined (W H : Int) (p l : List Int) (hl : p.length ≤ 1000000) (hll : l.length ≤ 1000000) : FSpec Try.prog 37 [ink W H p, .sl true (nums .i64 l)] (imgSV (linedS W H p l)) (imgRows (linedS W H p l)) := by
  refine FSpec.intro tab_ok Try.func37 rfl rfl rfl (by kernel_rfl) (by simp) fun w0 => ?_
  simp only [argTM, Nat.zero_add, Nat.reduceAdd]
  repeat refine IW.seq ?_
  refine IW.region_seq tab_ok [some 2, some 4] rfl fun X K hX hK => ?_
  simp only [go_sem]
  refine hK _ _ ?_; clear hX hK X K
  show IW _ _ _ _ _ _ _ _
  repeat refine IW.seq ?_
  refine IW.region_seq tab_ok [some 8, some 9, some 10] rfl fun X K hX hK => ?_
  simp only [go_sem]
  refine hX.quiet _ _ (OpG.of_B rfl (opB_call rfl rfl (FSpec.nz (refRight W H p hl) (by simp [go_sem, List.map_cons, List.map_nil, List.append_nil, opnd, unc])))) ?_
  simp only [go_sem]
  refine hK _ _ ?_; clear hX hK X K
  show IW _ _ _ _ _ _ _ _
  repeat refine IW.seq ?_
  refine IW.cond rfl (fun hb => ?_) (fun hb => ?_)
  · repeat refine IW.seq ?_
    refine IW.region_seq tab_ok [some 11, none] rfl fun X K hX hK => ?_
    simp only [go_sem]
    refine hX.op _ _ rfl (opS_store tab_ok rfl (by simp [go_sem]) (by simp [go_sem]) (by simp [go_sem]) (by simp [go_sem]) (by simp [go_sem]) (by simp [go_sem])) ?_
    simp only [go_sem]
    refine hK _ _ ?_; clear hX hK X K
    show IW _ _ _ _ _ _ _ _
    simp only [Bool.not_eq_true'] at hb
    simp only [linedS, hb, Bool.false_eq_true, if_false]
    refine IW.ret (Fin.cell ⟨trivial, by simp [go_sem]⟩ rfl rfl ?_)
    simp [go_sem, imgSV]
  · refine IW.skip ?_
    show IW _ _ _ _ _ _ _ _
    simp only [Bool.not_eq_false'] at hb
    obtain ⟨hlen, h0, h1, h2, h3⟩ := right_len hb
    obtain ⟨w, rfl⟩ : ∃ w : Nat, W = w := ⟨W.toNat, by omega⟩
    obtain ⟨h, rfl⟩ : ∃ h : Nat, H = h := ⟨H.toNat, by omega⟩
    have hlen' : p.length = w * h := by exact_mod_cast hlen
    simp only [linedS, hb, if_true, Int.toNat_natCast]
    repeat refine IW.seq ?_
    refine IW.region_seq tab_ok [some 12, some 13, some 14, some 15, some 16, some 5, none] rfl fun X K hX hK => ?_
    simp only [go_sem]
    refine hX.quiet _ _ (OpG.of_B rfl (opB_call rfl rfl (FSpec.nz (refBlank w h (by omega) (by omega) (by omega)) (by simp [go_sem, List.map_cons, List.map_nil, List.append_nil, opnd, unc, imgSV, imgRows])))) ?_
    simp only [go_sem, imgSV, imgRows]
    refine hX.op _ _ rfl (opS_store tab_ok rfl (by simp [go_sem]) (by simp [go_sem]) (by simp [go_sem]) (by simp [go_sem]) (by simp [go_sem]) (by simp [go_sem])) ?_
    simp only [go_sem]
    refine hK _ _ ?_; clear hX hK X K
    show IW _ _ _ _ _ _ _ _
    repeat refine IW.seq ?_
    refine IW.region_seq tab_ok [some 6] rfl fun X K hX hK => ?_
    simp only [go_sem]
    refine hK _ _ ?_; clear hX hK X K
    show IW _ _ _ _ _ _ _ _
    repeat refine IW.seq ?_
    refine IW.block ?_
    have hrow : ∀ {y : Nat}, y < h → y * w + w ≤ p.length := fun {y} hy => by
      have : (y + 1) * w ≤ h * w := Nat.mul_le_mul_right _ hy
      rw [Nat.add_mul] at this; rw [hlen', Nat.mul_comm w h]; omega
    refine IW.loop (α := {y : Nat // y ≤ h}) (fun y => [(1, .sl true (nums .i64 l)), (2, .ptr 0 0 0), (4, .ptr 1 0 0), (5, .ptr 3 0 0), (6, .int .i64 y.1)]) (fun y => [some ⟨3, 33, [[.int .i64 w, .int .i64 h, .sl true (nums .u8 p)]]⟩, some ⟨3, 33, [[.int .i64 0, .int .i64 0, .nils]]⟩, some ⟨1, 5, nums .u8 (upto (linedF w p l) p.length (y.1 * w))⟩, some ⟨3, 33, [[.int .i64 w, .int .i64 h, .ref 2 0 p.length]]⟩]) (fun y => h - y.1) ⟨0, by omega⟩ ?_ fun ⟨y, hy⟩ => ?_
    · refine Ent.cut ?_ ?_ <;> simp only [go_sem, hlen', Nat.zero_mul, upto_zero, List.length_replicate]
    · simp only []
      repeat refine IW.seq ?_
      refine IW.region_seq tab_ok [some 17, some 18, some 19, some 20] rfl fun X K hX hK => ?_
      simp only [go_sem]
      refine hK _ _ ?_; clear hX hK X K
      show IW _ _ _ _ _ _ _ _
      repeat refine IW.seq ?_
      refine IW.cond rfl (fun hb1 => ?_) (fun hb1 => ?_)
      · refine IW.skip ?_
        show IW _ _ _ _ _ _ _ _
        simp only [decide_eq_true_eq] at hb1
        have hyh : y < h := by omega
        have hr := hrow hyh
        refine IW.seq (IW.block ?_)
        repeat refine IW.seq ?_
        refine IW.region_seq tab_ok [some 7] rfl fun X K hX hK => ?_
        simp only [go_sem]
        refine hK _ _ ?_; clear hX hK X K
        show IW _ _ _ _ _ _ _ _
        repeat refine IW.seq ?_
        refine IW.block ?_
        refine IW.loop (α := {x : Nat // x ≤ w}) (fun x => [(1, .sl true (nums .i64 l)), (2, .ptr 0 0 0), (4, .ptr 1 0 0), (5, .ptr 3 0 0), (6, .int .i64 y), (7, .int .i64 x.1)]) (fun x => [some ⟨3, 33, [[.int .i64 w, .int .i64 h, .sl true (nums .u8 p)]]⟩, some ⟨3, 33, [[.int .i64 0, .int .i64 0, .nils]]⟩, some ⟨1, 5, nums .u8 (upto (linedF w p l) p.length (y * w + x.1))⟩, some ⟨3, 33, [[.int .i64 w, .int .i64 h, .ref 2 0 p.length]]⟩]) (fun x => w - x.1) ⟨0, by omega⟩ ?_ fun ⟨x, hx⟩ => ?_
        · refine Ent.cut ?_ ?_ <;> simp only [go_sem, Nat.add_zero]
        · simp only []
          repeat refine IW.seq ?_
          refine IW.region_seq tab_ok [some 23, some 24, some 25, some 26] rfl fun X K hX hK => ?_
          simp only [go_sem]
          refine hK _ _ ?_; clear hX hK X K
          show IW _ _ _ _ _ _ _ _
          repeat refine IW.seq ?_
          refine IW.cond rfl (fun hb2 => ?_) (fun hb2 => ?_)
          · refine IW.skip ?_
            show IW _ _ _ _ _ _ _ _
            simp only [decide_eq_true_eq] at hb2
            have hxw : x < w := by omega
            have e1 : IntKind.i64.wrap ((y : Int) * (w : Int)) = ((y * w : Nat) : Int) := by
              rw [← Int.natCast_mul]; exact wrap_eq (by omega) (by omega)
            have e2 : IntKind.i64.wrap (((y * w : Nat) : Int) + (x : Int)) = ((y * w + x : Nat) : Int) := (wrap_eq (by omega) (by omega)).trans (by omega)
            have hdiv : (y * w + x) / w = y := by rw [Nat.mul_comm, Nat.mul_add_div (by omega), Nat.div_eq_of_lt hxw]; rfl
            refine IW.seq (IW.block ?_)
            repeat refine IW.seq ?_
            refine IW.region_draw tab_ok mixed [some 29, some 30, some 31, some 32, some 33, some 34, some 35, some 36, some 37, some 38, some 39, some 40, some 41, none] 13 (by kernel_rfl) rfl fun Xq Xs K hXq hXs hK K1 hK1 => ?_
            simp only [go_sem, e1, e2, Int.toNat_natCast]
            refine hXq.quiet _ _ (OpG.of_B rfl (opB_call rfl rfl (FSpec.nz (refAt w h x y p hxw hyh hlen' hl) (by simp [go_sem, List.map_cons, List.map_nil, List.append_nil, opnd, unc, e1, e2, Int.toNat_natCast])))) ?_
            simp only [go_sem, e1, e2, Int.toNat_natCast]
            have hk2 : y * w + x < p.length := by omega
            refine ⟨⟨by omega, by omega⟩, ?_⟩
            refine hK1 _ _ ?_; clear hXq hK1 K1 Xq
            simp only [List.drop_zero, List.drop_succ_cons, go_sem]
            have hk3 := nums_at (k := .u8) (xs := upto (linedF w p l) p.length (y * w + x)) (i := y * w + x) (by simp [upto_length, hk2])
            refine hXs.op _ _ rfl (opS_store tab_ok rfl (by simp [go_sem]) (by simp [go_sem]) (by simp [go_sem]) (by simp [go_sem, hk2, hk3]) (by simp [go_sem]) (by simp [go_sem])) ?_
            simp only [go_sem, hk2, hk3]
            refine hK _ _ ?_; clear hXs hK K Xs
            show IW _ _ _ _ _ _ _ _
            repeat refine IW.seq ?_
            refine IW.region_seq tab_ok [some 42, some 43, some 44] rfl fun X K hX hK => ?_
            simp only [go_sem]
            refine hX.quiet _ _ (OpG.of_B rfl (opB_call rfl rfl (FSpec.nz (refHas l y hll) (by simp [go_sem, List.map_cons, List.map_nil, List.append_nil, opnd, unc])))) ?_
            simp only [go_sem]
            refine hK _ _ ?_; clear hX hK X K
            show IW _ _ _ _ _ _ _ _
            have hset := upto_set (linedF w p l) p.length (y * w + x)
            repeat refine IW.seq ?_
            refine IW.cond rfl (fun hb3 => ?_) (fun hb3 => ?_)
            · have hk4 := nums_at (k := .u8) (xs := (upto (linedF w p l) p.length (y * w + x)).set (y * w + x) (p.getD (y * w + x) 0)) (i := y * w + x) (by simp [upto_length, hk2])
              repeat refine IW.seq ?_
              refine IW.region_seq tab_ok [some 45, some 46, some 47, some 48, some 49, some 50, some 51, some 52, some 53, none] rfl fun X K hX hK => ?_
              simp only [go_sem, e1, e2, Int.toNat_natCast]
              refine ⟨⟨by omega, by omega⟩, ?_⟩
              refine hX.op _ _ rfl (opS_store tab_ok rfl (by simp [go_sem]) (by simp [go_sem]) (by simp [go_sem]) (by simp [go_sem, hk2, hk4]) (by simp [go_sem]) (by simp [go_sem])) ?_
              simp only [go_sem, hk2, hk4]
              refine hK _ _ ?_; clear hX hK X K
              show IW _ _ _ _ _ _ _ _
              repeat refine IW.seq ?_
              refine IW.region_seq tab_ok [some 27, some 28, some 7] rfl fun X K hX hK => ?_
              simp only [go_sem, succ_wrap hxw (by omega)]
              refine hK _ _ ⟨⟨x + 1, hxw⟩, by simp only []; omega, ?_⟩
              have : linedF w p l (y * w + x) = 1 := by simp only [linedF, hdiv, hb3, if_true]
              rw [this] at hset
              refine Ent.cut ?_ ?_ <;> simp only [go_sem, List.set_set, ← Nat.add_assoc, hset]
            · refine IW.skip ?_
              show IW _ _ _ _ _ _ _ _
              repeat refine IW.seq ?_
              refine IW.region_seq tab_ok [some 27, some 28, some 7] rfl fun X K hX hK => ?_
              simp only [go_sem, succ_wrap hxw (by omega)]
              refine hK _ _ ⟨⟨x + 1, hxw⟩, by simp only []; omega, ?_⟩
              have : linedF w p l (y * w + x) = p.getD (y * w + x) 0 := by simp only [linedF, hdiv, hb3, Bool.false_eq_true, if_false]
              rw [this] at hset
              refine Ent.cut ?_ ?_ <;> simp only [go_sem, ← Nat.add_assoc, hset]
          · refine IW.exit ?_
            show IW _ _ _ _ _ _ _ _
            simp only [decide_eq_false_iff_not] at hb2
            have hxw : x = w := by omega
            subst hxw
            repeat refine IW.seq ?_
            refine IW.region_seq tab_ok [some 21, some 22, some 6] rfl fun X K hX hK => ?_
            simp only [go_sem, succ_wrap hyh (by omega)]
            refine hK _ _ ⟨⟨y + 1, hyh⟩, by simp only []; omega, ?_⟩
            refine Ent.cut ?_ ?_ <;> simp only [go_sem, Nat.add_mul, Nat.one_mul]
      · refine IW.exit ?_
        show IW _ _ _ _ _ _ _ _
        simp only [decide_eq_false_iff_not] at hb1
        have hyh : y = h := by omega
        subst hyh
        repeat refine IW.seq ?_
        refine IW.region_seq tab_ok [some 54, none] rfl fun X K hX hK => ?_
        simp only [go_sem]
        refine hX.op _ _ rfl (opS_store tab_ok rfl (by simp [go_sem]) (by simp [go_sem]) (by simp [go_sem]) (by simp [go_sem]) (by simp [go_sem]) (by simp [go_sem])) ?_
        simp only [go_sem]
        refine hK _ _ ?_; clear hX hK X K
        show IW _ _ _ _ _ _ _ _
        refine IW.ret (Fin.cell1 2 ⟨trivial, by simp [go_sem]⟩ rfl (by simp [go_sem]) ?_ ?_)
        · simp [go_sem, imgSV]
        · simp [go_sem, Nat.mul_comm y w, ← hlen', upto_all]
end Go.Proofs.Ytnbpbehlemaeoaa

set_option linter.unusedVariables false
set_option linter.unusedSimpArgs false
set_option maxRecDepth 10000
namespace Go.Proofs.Ytnbpbehlemaeoaa
open Go.IL
theorem m72 : Try.prog.underlying 72 = some (.map 3 74) := by kernel_rfl
theorem u3 : Try.prog.underlying 3 = some (.int .i64) := by kernel_rfl
def strs (l : List ByteArray) : List (List SV) := l.map fun s => [.str s]
def mapE : Nat → List (Int × List ByteArray) → List (List SV)
  | _, [] => []
  | i, e :: r => [.int .i64 e.1, .ref i 0 e.2.length] :: mapE (i + 1) r
def mapSV (l : List (Int × List ByteArray)) : SV := .mp false (mapE 0 l)
def mapRows (l : List (Int × List ByteArray)) : List Row := l.map fun e => ⟨1, 9, strs e.2⟩
theorem fin_map {tm : TM} {h : Heap} {t : Nat} {l : List (Int × List ByteArray)} (h1 : (mapSV l).nold = true) (h2 : rowsNold (mapRows l) = true) (hl : (List.range l.length).length = (mapRows l).length) (e : tm.get t = (mapSV l).ren (sg (List.range l.length) h.length)) (hh : subH (sg (List.range l.length) h.length) h 0 ((mapRows l).map some)) : IL.Fin tab [.tmp t] (mapSV l) (mapRows l) .ret tm h :=
  ⟨⟨trivial, trivial⟩, h1, h2, _, hl, List.nodup_range, e, hh⟩
def drw1 : List (Int × List ByteArray) := [(1, [⟨#[46, 35, 35, 35, 35, 46]⟩, ⟨#[35, 35, 35, 35, 35, 35]⟩, ⟨#[35, 35, 35, 35, 35, 35]⟩, ⟨#[35, 35, 35, 35, 35, 35]⟩, ⟨#[46, 35, 35, 35, 35, 46]⟩]), (2, [⟨#[46, 35, 35, 35, 35, 46]⟩, ⟨#[35, 46, 46, 46, 46, 35]⟩, ⟨#[35, 46, 46, 46, 46, 35]⟩, ⟨#[35, 46, 46, 46, 46, 35]⟩, ⟨#[46, 35, 35, 35, 35, 46]⟩]), (3, [⟨#[46, 35, 35, 35, 35, 46]⟩, ⟨#[35, 35, 46, 46, 35, 35]⟩, ⟨#[35, 35, 46, 46, 35, 35]⟩, ⟨#[35, 35, 46, 46, 35, 35]⟩, ⟨#[46, 35, 35, 35, 35, 46]⟩])]
theorem fDraw1 : FSpec Try.prog 49 [.int .i64 1] (mapSV drw1) (mapRows drw1) := by
  refine FSpec.intro tab_ok Try.func49 rfl rfl rfl (by kernel_rfl) (by simp) fun w0 => ?_
  simp only [argTM, Nat.zero_add, Nat.reduceAdd]
  repeat refine IW.seq ?_
  refine IW.region_seq tab_ok [some 2] rfl fun X K hX hK => ?_
  simp only [go_sem]
  refine hK _ _ ?_; clear hX hK X K
  show IW _ _ _ _ _ _ _ _
  repeat refine IW.seq ?_
  refine IW.region_seq tab_ok [some 3] rfl fun X K hX hK => ?_
  simp only [go_sem]
  refine hK _ _ ?_; clear hX hK X K
  show IW _ _ _ _ _ _ _ _
  repeat refine IW.seq ?_
  refine IW.block ?_
  repeat refine IW.seq ?_
  refine IW.region_seq tab_ok [some 5, some 4] rfl fun X K hX hK => ?_
  simp only [go_sem]
  refine hK _ _ ?_; clear hX hK X K
  show IW _ _ _ _ _ _ _ _
  repeat refine IW.seq ?_
  refine IW.cond rfl (fun hb => ?_) (fun hb => absurd hb (by decide))
  repeat refine IW.seq ?_
  refine IW.region_seq tab_ok [some 6, some 7, none, some 8, none, some 9, none, some 10, some 2] rfl fun X K hX hK => ?_
  simp only [go_sem]
  refine hX.quiet _ _ (OpG.of_B rfl opB_makeMap) ?_
  simp only [go_sem]
  refine hX.quiet _ _ (OpG.of_B rfl (opB_buildSlice tab_ok rfl (by simp [go_sem]) (by simp [go_sem]) (by simp) (by simp [go_sem, bsO, List.map_cons, List.map_nil]))) ?_
  simp only [go_sem, List.map_cons, List.map_nil]
  refine hX.op _ _ rfl (opS_insert rfl rfl (by simp [go_sem]) m72 u3 (by simp [go_sem]) (by simp [go_sem]) (by simp [go_sem]) (by decide)) ?_
  simp only [go_sem, List.nil_append, List.cons_append]
  refine hX.quiet _ _ (OpG.of_B rfl (opB_buildSlice tab_ok rfl (by simp [go_sem]) (by simp [go_sem]) (by simp) (by simp [go_sem, bsO, List.map_cons, List.map_nil]))) ?_
  simp only [go_sem, List.map_cons, List.map_nil]
  refine hX.op _ _ rfl (opS_insert rfl rfl (by simp [go_sem]) m72 u3 (by simp [go_sem]) (by simp [go_sem]) (by simp [go_sem]) (by decide)) ?_
  simp only [go_sem, List.nil_append, List.cons_append]
  refine hX.quiet _ _ (OpG.of_B rfl (opB_buildSlice tab_ok rfl (by simp [go_sem]) (by simp [go_sem]) (by simp) (by simp [go_sem, bsO, List.map_cons, List.map_nil]))) ?_
  simp only [go_sem, List.map_cons, List.map_nil]
  refine hX.op _ _ rfl (opS_insert rfl rfl (by simp [go_sem]) m72 u3 (by simp [go_sem]) (by simp [go_sem]) (by simp [go_sem]) (by decide)) ?_
  simp only [go_sem, List.nil_append, List.cons_append]
  refine hK _ _ ?_; clear hX hK X K
  show IW _ _ _ _ _ _ _ _
  refine IW.ret (fin_map rfl rfl rfl rfl ⟨rfl, rfl, rfl, trivial⟩)
def drw2 : List (Int × List ByteArray) := [(1, [⟨#[46, 35, 46, 35]⟩, ⟨#[35, 35, 35, 35]⟩, ⟨#[46, 35, 46, 35]⟩, ⟨#[35, 35, 35, 35]⟩, ⟨#[46, 35, 46, 35]⟩]), (2, [⟨#[35, 46, 46, 46]⟩, ⟨#[35, 46, 46, 46]⟩, ⟨#[35, 35, 35, 46]⟩, ⟨#[35, 46, 35, 46]⟩, ⟨#[35, 35, 46, 46]⟩]), (3, [⟨#[35, 46, 46, 35]⟩, ⟨#[35, 46, 35, 35]⟩, ⟨#[35, 35, 35, 35]⟩, ⟨#[35, 35, 46, 35]⟩, ⟨#[35, 46, 46, 35]⟩])]
theorem fDraw2 : FSpec Try.prog 49 [.int .i64 2] (mapSV drw2) (mapRows drw2) := by
  refine FSpec.intro tab_ok Try.func49 rfl rfl rfl (by kernel_rfl) (by simp) fun w0 => ?_
  simp only [argTM, Nat.zero_add, Nat.reduceAdd]
  repeat refine IW.seq ?_
  refine IW.region_seq tab_ok [some 2] rfl fun X K hX hK => ?_
  simp only [go_sem]
  refine hK _ _ ?_; clear hX hK X K
  show IW _ _ _ _ _ _ _ _
  repeat refine IW.seq ?_
  refine IW.region_seq tab_ok [some 3] rfl fun X K hX hK => ?_
  simp only [go_sem]
  refine hK _ _ ?_; clear hX hK X K
  show IW _ _ _ _ _ _ _ _
  repeat refine IW.seq ?_
  refine IW.block ?_
  repeat refine IW.seq ?_
  refine IW.region_seq tab_ok [some 5, some 4] rfl fun X K hX hK => ?_
  simp only [go_sem]
  refine hK _ _ ?_; clear hX hK X K
  show IW _ _ _ _ _ _ _ _
  repeat refine IW.seq ?_
  refine IW.cond rfl (fun hb => absurd hb (by decide)) (fun hb => ?_)
  repeat refine IW.seq ?_
  refine IW.region_seq tab_ok [some 12, some 11] rfl fun X K hX hK => ?_
  simp only [go_sem]
  refine hK _ _ ?_; clear hX hK X K
  show IW _ _ _ _ _ _ _ _
  repeat refine IW.seq ?_
  refine IW.cond rfl (fun hb => ?_) (fun hb => absurd hb (by decide))
  repeat refine IW.seq ?_
  refine IW.region_seq tab_ok [some 13, some 14, none, some 15, none, some 16, none, some 17, some 2] rfl fun X K hX hK => ?_
  simp only [go_sem]
  refine hX.quiet _ _ (OpG.of_B rfl opB_makeMap) ?_
  simp only [go_sem]
  refine hX.quiet _ _ (OpG.of_B rfl (opB_buildSlice tab_ok rfl (by simp [go_sem]) (by simp [go_sem]) (by simp) (by simp [go_sem, bsO, List.map_cons, List.map_nil]))) ?_
  simp only [go_sem, List.map_cons, List.map_nil]
  refine hX.op _ _ rfl (opS_insert rfl rfl (by simp [go_sem]) m72 u3 (by simp [go_sem]) (by simp [go_sem]) (by simp [go_sem]) (by decide)) ?_
  simp only [go_sem, List.nil_append, List.cons_append]
  refine hX.quiet _ _ (OpG.of_B rfl (opB_buildSlice tab_ok rfl (by simp [go_sem]) (by simp [go_sem]) (by simp) (by simp [go_sem, bsO, List.map_cons, List.map_nil]))) ?_
  simp only [go_sem, List.map_cons, List.map_nil]
  refine hX.op _ _ rfl (opS_insert rfl rfl (by simp [go_sem]) m72 u3 (by simp [go_sem]) (by simp [go_sem]) (by simp [go_sem]) (by decide)) ?_
  simp only [go_sem, List.nil_append, List.cons_append]
  refine hX.quiet _ _ (OpG.of_B rfl (opB_buildSlice tab_ok rfl (by simp [go_sem]) (by simp [go_sem]) (by simp) (by simp [go_sem, bsO, List.map_cons, List.map_nil]))) ?_
  simp only [go_sem, List.map_cons, List.map_nil]
  refine hX.op _ _ rfl (opS_insert rfl rfl (by simp [go_sem]) m72 u3 (by simp [go_sem]) (by simp [go_sem]) (by simp [go_sem]) (by decide)) ?_
  simp only [go_sem, List.nil_append, List.cons_append]
  refine hK _ _ ?_; clear hX hK X K
  show IW _ _ _ _ _ _ _ _
  refine IW.ret (fin_map rfl rfl rfl rfl ⟨rfl, rfl, rfl, trivial⟩)
def drw3 : List (Int × List ByteArray) := [(1, [⟨#[46, 46]⟩, ⟨#[35, 35]⟩, ⟨#[35, 35]⟩, ⟨#[46, 46]⟩, ⟨#[46, 46]⟩])]
theorem fDraw3 : FSpec Try.prog 49 [.int .i64 3] (mapSV drw3) (mapRows drw3) := by
  refine FSpec.intro tab_ok Try.func49 rfl rfl rfl (by kernel_rfl) (by simp) fun w0 => ?_
  simp only [argTM, Nat.zero_add, Nat.reduceAdd]
  repeat refine IW.seq ?_
  refine IW.region_seq tab_ok [some 2] rfl fun X K hX hK => ?_
  simp only [go_sem]
  refine hK _ _ ?_; clear hX hK X K
  show IW _ _ _ _ _ _ _ _
  repeat refine IW.seq ?_
  refine IW.region_seq tab_ok [some 3] rfl fun X K hX hK => ?_
  simp only [go_sem]
  refine hK _ _ ?_; clear hX hK X K
  show IW _ _ _ _ _ _ _ _
  repeat refine IW.seq ?_
  refine IW.block ?_
  repeat refine IW.seq ?_
  refine IW.region_seq tab_ok [some 5, some 4] rfl fun X K hX hK => ?_
  simp only [go_sem]
  refine hK _ _ ?_; clear hX hK X K
  show IW _ _ _ _ _ _ _ _
  repeat refine IW.seq ?_
  refine IW.cond rfl (fun hb => absurd hb (by decide)) (fun hb => ?_)
  repeat refine IW.seq ?_
  refine IW.region_seq tab_ok [some 12, some 11] rfl fun X K hX hK => ?_
  simp only [go_sem]
  refine hK _ _ ?_; clear hX hK X K
  show IW _ _ _ _ _ _ _ _
  repeat refine IW.seq ?_
  refine IW.cond rfl (fun hb => absurd hb (by decide)) (fun hb => ?_)
  repeat refine IW.seq ?_
  refine IW.region_seq tab_ok [some 19, some 18] rfl fun X K hX hK => ?_
  simp only [go_sem]
  refine hK _ _ ?_; clear hX hK X K
  show IW _ _ _ _ _ _ _ _
  repeat refine IW.seq ?_
  refine IW.cond rfl (fun hb => ?_) (fun hb => absurd hb (by decide))
  repeat refine IW.seq ?_
  refine IW.region_seq tab_ok [some 20, some 21, none, some 22, some 2] rfl fun X K hX hK => ?_
  simp only [go_sem]
  refine hX.quiet _ _ (OpG.of_B rfl opB_makeMap) ?_
  simp only [go_sem]
  refine hX.quiet _ _ (OpG.of_B rfl (opB_buildSlice tab_ok rfl (by simp [go_sem]) (by simp [go_sem]) (by simp) (by simp [go_sem, bsO, List.map_cons, List.map_nil]))) ?_
  simp only [go_sem, List.map_cons, List.map_nil]
  refine hX.op _ _ rfl (opS_insert rfl rfl (by simp [go_sem]) m72 u3 (by simp [go_sem]) (by simp [go_sem]) (by simp [go_sem]) (by decide)) ?_
  simp only [go_sem, List.nil_append, List.cons_append]
  refine hK _ _ ?_; clear hX hK X K
  show IW _ _ _ _ _ _ _ _
  refine IW.ret (fin_map rfl rfl rfl rfl ⟨rfl, trivial⟩)
def drw4 : List (Int × List ByteArray) := [(1, [⟨#[46, 46, 46]⟩, ⟨#[46, 46, 46]⟩, ⟨#[46, 46, 46]⟩, ⟨#[35, 46, 35]⟩, ⟨#[46, 35, 46]⟩])]
theorem fDraw4 : FSpec Try.prog 49 [.int .i64 4] (mapSV drw4) (mapRows drw4) := by
  refine FSpec.intro tab_ok Try.func49 rfl rfl rfl (by kernel_rfl) (by simp) fun w0 => ?_
  simp only [argTM, Nat.zero_add, Nat.reduceAdd]
  repeat refine IW.seq ?_
  refine IW.region_seq tab_ok [some 2] rfl fun X K hX hK => ?_
  simp only [go_sem]
  refine hK _ _ ?_; clear hX hK X K
  show IW _ _ _ _ _ _ _ _
  repeat refine IW.seq ?_
  refine IW.region_seq tab_ok [some 3] rfl fun X K hX hK => ?_
  simp only [go_sem]
  refine hK _ _ ?_; clear hX hK X K
  show IW _ _ _ _ _ _ _ _
  repeat refine IW.seq ?_
  refine IW.block ?_
  repeat refine IW.seq ?_
  refine IW.region_seq tab_ok [some 5, some 4] rfl fun X K hX hK => ?_
  simp only [go_sem]
  refine hK _ _ ?_; clear hX hK X K
  show IW _ _ _ _ _ _ _ _
  repeat refine IW.seq ?_
  refine IW.cond rfl (fun hb => absurd hb (by decide)) (fun hb => ?_)
  repeat refine IW.seq ?_
  refine IW.region_seq tab_ok [some 12, some 11] rfl fun X K hX hK => ?_
  simp only [go_sem]
  refine hK _ _ ?_; clear hX hK X K
  show IW _ _ _ _ _ _ _ _
  repeat refine IW.seq ?_
  refine IW.cond rfl (fun hb => absurd hb (by decide)) (fun hb => ?_)
  repeat refine IW.seq ?_
  refine IW.region_seq tab_ok [some 19, some 18] rfl fun X K hX hK => ?_
  simp only [go_sem]
  refine hK _ _ ?_; clear hX hK X K
  show IW _ _ _ _ _ _ _ _
  repeat refine IW.seq ?_
  refine IW.cond rfl (fun hb => absurd hb (by decide)) (fun hb => ?_)
  repeat refine IW.seq ?_
  refine IW.region_seq tab_ok [some 24, some 23] rfl fun X K hX hK => ?_
  simp only [go_sem]
  refine hK _ _ ?_; clear hX hK X K
  show IW _ _ _ _ _ _ _ _
  repeat refine IW.seq ?_
  refine IW.cond rfl (fun hb => ?_) (fun hb => absurd hb (by decide))
  repeat refine IW.seq ?_
  refine IW.region_seq tab_ok [some 25, some 26, none, some 27, some 2] rfl fun X K hX hK => ?_
  simp only [go_sem]
  refine hX.quiet _ _ (OpG.of_B rfl opB_makeMap) ?_
  simp only [go_sem]
  refine hX.quiet _ _ (OpG.of_B rfl (opB_buildSlice tab_ok rfl (by simp [go_sem]) (by simp [go_sem]) (by simp) (by simp [go_sem, bsO, List.map_cons, List.map_nil]))) ?_
  simp only [go_sem, List.map_cons, List.map_nil]
  refine hX.op _ _ rfl (opS_insert rfl rfl (by simp [go_sem]) m72 u3 (by simp [go_sem]) (by simp [go_sem]) (by simp [go_sem]) (by decide)) ?_
  simp only [go_sem, List.nil_append, List.cons_append]
  refine hK _ _ ?_; clear hX hK X K
  show IW _ _ _ _ _ _ _ _
  refine IW.ret (fin_map rfl rfl rfl rfl ⟨rfl, trivial⟩)
def drw5 : List (Int × List ByteArray) := [(1, [⟨#[46, 46, 46, 46, 46, 46]⟩, ⟨#[46, 46, 46, 46, 46, 46]⟩, ⟨#[46, 46, 46, 46, 46, 46]⟩, ⟨#[46, 46, 46, 46, 46, 46]⟩, ⟨#[46, 35, 35, 35, 35, 46]⟩, ⟨#[46, 35, 35, 35, 35, 46]⟩, ⟨#[46, 46, 46, 46, 46, 46]⟩]), (2, [⟨#[46, 46, 46, 46, 46, 46]⟩, ⟨#[46, 35, 35, 35, 35, 46]⟩, ⟨#[46, 35, 35, 35, 35, 46]⟩, ⟨#[46, 46, 46, 46, 46, 46]⟩, ⟨#[46, 46, 46, 46, 46, 46]⟩, ⟨#[46, 46, 46, 46, 46, 46]⟩, ⟨#[46, 46, 46, 46, 46, 46]⟩]), (4, [⟨#[46, 35, 35, 46, 46, 46]⟩, ⟨#[46, 46, 35, 35, 46, 46]⟩, ⟨#[46, 46, 46, 35, 35, 46]⟩, ⟨#[46, 46, 35, 35, 46, 46]⟩, ⟨#[46, 35, 35, 46, 46, 46]⟩, ⟨#[46, 46, 35, 35, 46, 46]⟩, ⟨#[46, 46, 46, 35, 35, 46]⟩]), (8, [⟨#[35, 35, 46, 46, 46, 35]⟩, ⟨#[35, 35, 46, 46, 35, 46]⟩, ⟨#[46, 35, 35, 35, 46, 46]⟩, ⟨#[46, 46, 46, 35, 46, 46]⟩, ⟨#[46, 46, 35, 46, 46, 46]⟩, ⟨#[46, 46, 35, 46, 46, 46]⟩, ⟨#[46, 35, 46, 46, 46, 46]⟩]), (16, [⟨#[35, 35, 46, 46, 46, 35]⟩, ⟨#[35, 35, 46, 46, 35, 46]⟩, ⟨#[46, 35, 35, 35, 46, 46]⟩, ⟨#[35, 35, 46, 35, 46, 46]⟩, ⟨#[35, 35, 35, 35, 46, 46]⟩, ⟨#[46, 46, 35, 46, 46, 46]⟩, ⟨#[46, 35, 46, 46, 46, 46]⟩])]
theorem fDraw5 : FSpec Try.prog 49 [.int .i64 5] (mapSV drw5) (mapRows drw5) := by
  refine FSpec.intro tab_ok Try.func49 rfl rfl rfl (by kernel_rfl) (by simp) fun w0 => ?_
  simp only [argTM, Nat.zero_add, Nat.reduceAdd]
  repeat refine IW.seq ?_
  refine IW.region_seq tab_ok [some 2] rfl fun X K hX hK => ?_
  simp only [go_sem]
  refine hK _ _ ?_; clear hX hK X K
  show IW _ _ _ _ _ _ _ _
  repeat refine IW.seq ?_
  refine IW.region_seq tab_ok [some 3] rfl fun X K hX hK => ?_
  simp only [go_sem]
  refine hK _ _ ?_; clear hX hK X K
  show IW _ _ _ _ _ _ _ _
  repeat refine IW.seq ?_
  refine IW.block ?_
  repeat refine IW.seq ?_
  refine IW.region_seq tab_ok [some 5, some 4] rfl fun X K hX hK => ?_
  simp only [go_sem]
  refine hK _ _ ?_; clear hX hK X K
  show IW _ _ _ _ _ _ _ _
  repeat refine IW.seq ?_
  refine IW.cond rfl (fun hb => absurd hb (by decide)) (fun hb => ?_)
  repeat refine IW.seq ?_
  refine IW.region_seq tab_ok [some 12, some 11] rfl fun X K hX hK => ?_
  simp only [go_sem]
  refine hK _ _ ?_; clear hX hK X K
  show IW _ _ _ _ _ _ _ _
  repeat refine IW.seq ?_
  refine IW.cond rfl (fun hb => absurd hb (by decide)) (fun hb => ?_)
  repeat refine IW.seq ?_
  refine IW.region_seq tab_ok [some 19, some 18] rfl fun X K hX hK => ?_
  simp only [go_sem]
  refine hK _ _ ?_; clear hX hK X K
  show IW _ _ _ _ _ _ _ _
  repeat refine IW.seq ?_
  refine IW.cond rfl (fun hb => absurd hb (by decide)) (fun hb => ?_)
  repeat refine IW.seq ?_
  refine IW.region_seq tab_ok [some 24, some 23] rfl fun X K hX hK => ?_
  simp only [go_sem]
  refine hK _ _ ?_; clear hX hK X K
  show IW _ _ _ _ _ _ _ _
  repeat refine IW.seq ?_
  refine IW.cond rfl (fun hb => absurd hb (by decide)) (fun hb => ?_)
  repeat refine IW.seq ?_
  refine IW.region_seq tab_ok [some 29, some 28] rfl fun X K hX hK => ?_
  simp only [go_sem]
  refine hK _ _ ?_; clear hX hK X K
  show IW _ _ _ _ _ _ _ _
  repeat refine IW.seq ?_
  refine IW.cond rfl (fun hb => ?_) (fun hb => absurd hb (by decide))
  repeat refine IW.seq ?_
  refine IW.region_seq tab_ok [some 30, some 31, none, some 32, none, some 33, none, some 34, none, some 35, none, some 36, some 2] rfl fun X K hX hK => ?_
  simp only [go_sem]
  refine hX.quiet _ _ (OpG.of_B rfl opB_makeMap) ?_
  simp only [go_sem]
  refine hX.quiet _ _ (OpG.of_B rfl (opB_buildSlice tab_ok rfl (by simp [go_sem]) (by simp [go_sem]) (by simp) (by simp [go_sem, bsO, List.map_cons, List.map_nil]))) ?_
  simp only [go_sem, List.map_cons, List.map_nil]
  refine hX.op _ _ rfl (opS_insert rfl rfl (by simp [go_sem]) m72 u3 (by simp [go_sem]) (by simp [go_sem]) (by simp [go_sem]) (by decide)) ?_
  simp only [go_sem, List.nil_append, List.cons_append]
  refine hX.quiet _ _ (OpG.of_B rfl (opB_buildSlice tab_ok rfl (by simp [go_sem]) (by simp [go_sem]) (by simp) (by simp [go_sem, bsO, List.map_cons, List.map_nil]))) ?_
  simp only [go_sem, List.map_cons, List.map_nil]
  refine hX.op _ _ rfl (opS_insert rfl rfl (by simp [go_sem]) m72 u3 (by simp [go_sem]) (by simp [go_sem]) (by simp [go_sem]) (by decide)) ?_
  simp only [go_sem, List.nil_append, List.cons_append]
  refine hX.quiet _ _ (OpG.of_B rfl (opB_buildSlice tab_ok rfl (by simp [go_sem]) (by simp [go_sem]) (by simp) (by simp [go_sem, bsO, List.map_cons, List.map_nil]))) ?_
  simp only [go_sem, List.map_cons, List.map_nil]
  refine hX.op _ _ rfl (opS_insert rfl rfl (by simp [go_sem]) m72 u3 (by simp [go_sem]) (by simp [go_sem]) (by simp [go_sem]) (by decide)) ?_
  simp only [go_sem, List.nil_append, List.cons_append]
  refine hX.quiet _ _ (OpG.of_B rfl (opB_buildSlice tab_ok rfl (by simp [go_sem]) (by simp [go_sem]) (by simp) (by simp [go_sem, bsO, List.map_cons, List.map_nil]))) ?_
  simp only [go_sem, List.map_cons, List.map_nil]
  refine hX.op _ _ rfl (opS_insert rfl rfl (by simp [go_sem]) m72 u3 (by simp [go_sem]) (by simp [go_sem]) (by simp [go_sem]) (by decide)) ?_
  simp only [go_sem, List.nil_append, List.cons_append]
  refine hX.quiet _ _ (OpG.of_B rfl (opB_buildSlice tab_ok rfl (by simp [go_sem]) (by simp [go_sem]) (by simp) (by simp [go_sem, bsO, List.map_cons, List.map_nil]))) ?_
  simp only [go_sem, List.map_cons, List.map_nil]
  refine hX.op _ _ rfl (opS_insert rfl rfl (by simp [go_sem]) m72 u3 (by simp [go_sem]) (by simp [go_sem]) (by simp [go_sem]) (by decide)) ?_
  simp only [go_sem, List.nil_append, List.cons_append]
  refine hK _ _ ?_; clear hX hK X K
  show IW _ _ _ _ _ _ _ _
  refine IW.ret (fin_map rfl rfl rfl rfl ⟨rfl, rfl, rfl, rfl, rfl, trivial⟩)
def drw6 : List (Int × List ByteArray) := [(1, [⟨#[46, 35, 35, 35, 35, 35]⟩, ⟨#[35, 35, 46, 46, 46, 46]⟩, ⟨#[35, 35, 46, 35, 35, 35]⟩, ⟨#[35, 35, 46, 46, 35, 35]⟩, ⟨#[46, 35, 35, 35, 35, 35]⟩]), (2, [⟨#[46, 35, 35, 35, 35, 35]⟩, ⟨#[35, 35, 46, 46, 46, 46]⟩, ⟨#[35, 35, 46, 46, 46, 46]⟩, ⟨#[35, 35, 46, 46, 46, 46]⟩, ⟨#[46, 35, 35, 35, 35, 35]⟩]), (3, [⟨#[35, 35, 35, 35, 35, 35]⟩, ⟨#[35, 35, 46, 46, 46, 46]⟩, ⟨#[35, 35, 35, 35, 35, 46]⟩, ⟨#[35, 35, 46, 46, 46, 46]⟩, ⟨#[35, 35, 46, 46, 46, 46]⟩])]
theorem fDraw6 : FSpec Try.prog 49 [.int .i64 6] (mapSV drw6) (mapRows drw6) := by
  refine FSpec.intro tab_ok Try.func49 rfl rfl rfl (by kernel_rfl) (by simp) fun w0 => ?_
  simp only [argTM, Nat.zero_add, Nat.reduceAdd]
  repeat refine IW.seq ?_
  refine IW.region_seq tab_ok [some 2] rfl fun X K hX hK => ?_
  simp only [go_sem]
  refine hK _ _ ?_; clear hX hK X K
  show IW _ _ _ _ _ _ _ _
  repeat refine IW.seq ?_
  refine IW.region_seq tab_ok [some 3] rfl fun X K hX hK => ?_
  simp only [go_sem]
  refine hK _ _ ?_; clear hX hK X K
  show IW _ _ _ _ _ _ _ _
  repeat refine IW.seq ?_
  refine IW.block ?_
  repeat refine IW.seq ?_
  refine IW.region_seq tab_ok [some 5, some 4] rfl fun X K hX hK => ?_
  simp only [go_sem]
  refine hK _ _ ?_; clear hX hK X K
  show IW _ _ _ _ _ _ _ _
  repeat refine IW.seq ?_
  refine IW.cond rfl (fun hb => absurd hb (by decide)) (fun hb => ?_)
  repeat refine IW.seq ?_
  refine IW.region_seq tab_ok [some 12, some 11] rfl fun X K hX hK => ?_
  simp only [go_sem]
  refine hK _ _ ?_; clear hX hK X K
  show IW _ _ _ _ _ _ _ _
  repeat refine IW.seq ?_
  refine IW.cond rfl (fun hb => absurd hb (by decide)) (fun hb => ?_)
  repeat refine IW.seq ?_
  refine IW.region_seq tab_ok [some 19, some 18] rfl fun X K hX hK => ?_
  simp only [go_sem]
  refine hK _ _ ?_; clear hX hK X K
  show IW _ _ _ _ _ _ _ _
  repeat refine IW.seq ?_
  refine IW.cond rfl (fun hb => absurd hb (by decide)) (fun hb => ?_)
  repeat refine IW.seq ?_
  refine IW.region_seq tab_ok [some 24, some 23] rfl fun X K hX hK => ?_
  simp only [go_sem]
  refine hK _ _ ?_; clear hX hK X K
  show IW _ _ _ _ _ _ _ _
  repeat refine IW.seq ?_
  refine IW.cond rfl (fun hb => absurd hb (by decide)) (fun hb => ?_)
  repeat refine IW.seq ?_
  refine IW.region_seq tab_ok [some 29, some 28] rfl fun X K hX hK => ?_
  simp only [go_sem]
  refine hK _ _ ?_; clear hX hK X K
  show IW _ _ _ _ _ _ _ _
  repeat refine IW.seq ?_
  refine IW.cond rfl (fun hb => absurd hb (by decide)) (fun hb => ?_)
  repeat refine IW.seq ?_
  refine IW.region_seq tab_ok [some 38, some 37] rfl fun X K hX hK => ?_
  simp only [go_sem]
  refine hK _ _ ?_; clear hX hK X K
  show IW _ _ _ _ _ _ _ _
  repeat refine IW.seq ?_
  refine IW.cond rfl (fun hb => ?_) (fun hb => absurd hb (by decide))
  repeat refine IW.seq ?_
  refine IW.region_seq tab_ok [some 39, some 40, none, some 41, none, some 42, none, some 43, some 2] rfl fun X K hX hK => ?_
  simp only [go_sem]
  refine hX.quiet _ _ (OpG.of_B rfl opB_makeMap) ?_
  simp only [go_sem]
  refine hX.quiet _ _ (OpG.of_B rfl (opB_buildSlice tab_ok rfl (by simp [go_sem]) (by simp [go_sem]) (by simp) (by simp [go_sem, bsO, List.map_cons, List.map_nil]))) ?_
  simp only [go_sem, List.map_cons, List.map_nil]
  refine hX.op _ _ rfl (opS_insert rfl rfl (by simp [go_sem]) m72 u3 (by simp [go_sem]) (by simp [go_sem]) (by simp [go_sem]) (by decide)) ?_
  simp only [go_sem, List.nil_append, List.cons_append]
  refine hX.quiet _ _ (OpG.of_B rfl (opB_buildSlice tab_ok rfl (by simp [go_sem]) (by simp [go_sem]) (by simp) (by simp [go_sem, bsO, List.map_cons, List.map_nil]))) ?_
  simp only [go_sem, List.map_cons, List.map_nil]
  refine hX.op _ _ rfl (opS_insert rfl rfl (by simp [go_sem]) m72 u3 (by simp [go_sem]) (by simp [go_sem]) (by simp [go_sem]) (by decide)) ?_
  simp only [go_sem, List.nil_append, List.cons_append]
  refine hX.quiet _ _ (OpG.of_B rfl (opB_buildSlice tab_ok rfl (by simp [go_sem]) (by simp [go_sem]) (by simp) (by simp [go_sem, bsO, List.map_cons, List.map_nil]))) ?_
  simp only [go_sem, List.map_cons, List.map_nil]
  refine hX.op _ _ rfl (opS_insert rfl rfl (by simp [go_sem]) m72 u3 (by simp [go_sem]) (by simp [go_sem]) (by simp [go_sem]) (by decide)) ?_
  simp only [go_sem, List.nil_append, List.cons_append]
  refine hK _ _ ?_; clear hX hK X K
  show IW _ _ _ _ _ _ _ _
  refine IW.ret (fin_map rfl rfl rfl rfl ⟨rfl, rfl, rfl, trivial⟩)
def drw7 : List (Int × List ByteArray) := [(1, [⟨#[46, 46, 35, 46]⟩, ⟨#[46, 35, 35, 46]⟩, ⟨#[46, 46, 35, 46]⟩, ⟨#[46, 46, 35, 46]⟩, ⟨#[46, 35, 35, 35]⟩]), (2, [⟨#[35, 35, 35, 46]⟩, ⟨#[46, 46, 46, 35]⟩, ⟨#[46, 35, 35, 46]⟩, ⟨#[35, 46, 46, 46]⟩, ⟨#[35, 35, 35, 35]⟩]), (3, [⟨#[35, 35, 35, 46]⟩, ⟨#[46, 46, 46, 35]⟩, ⟨#[46, 35, 35, 46]⟩, ⟨#[46, 46, 46, 35]⟩, ⟨#[35, 35, 35, 46]⟩]), (4, [⟨#[35, 46, 46, 35]⟩, ⟨#[35, 46, 46, 35]⟩, ⟨#[35, 35, 35, 35]⟩, ⟨#[46, 46, 46, 35]⟩, ⟨#[46, 46, 46, 35]⟩]), (5, [⟨#[35, 35, 35, 35]⟩, ⟨#[35, 46, 46, 46]⟩, ⟨#[35, 35, 35, 46]⟩, ⟨#[46, 46, 46, 35]⟩, ⟨#[35, 35, 35, 46]⟩]), (6, [⟨#[46, 35, 35, 46]⟩, ⟨#[35, 46, 46, 46]⟩, ⟨#[35, 35, 35, 46]⟩, ⟨#[35, 46, 46, 35]⟩, ⟨#[46, 35, 35, 46]⟩]), (7, [⟨#[35, 35, 35, 35]⟩, ⟨#[46, 46, 46, 35]⟩, ⟨#[46, 46, 35, 46]⟩, ⟨#[46, 35, 46, 46]⟩, ⟨#[46, 35, 46, 46]⟩]), (8, [⟨#[46, 35, 35, 46]⟩, ⟨#[35, 46, 46, 35]⟩, ⟨#[46, 35, 35, 46]⟩, ⟨#[35, 46, 46, 35]⟩, ⟨#[46, 35, 35, 46]⟩]), (9, [⟨#[46, 35, 35, 46]⟩, ⟨#[35, 46, 46, 35]⟩, ⟨#[46, 35, 35, 35]⟩, ⟨#[46, 46, 46, 35]⟩, ⟨#[46, 35, 35, 46]⟩])]
theorem fDraw7 : FSpec Try.prog 49 [.int .i64 7] (mapSV drw7) (mapRows drw7) := by
  refine FSpec.intro tab_ok Try.func49 rfl rfl rfl (by kernel_rfl) (by simp) fun w0 => ?_
  simp only [argTM, Nat.zero_add, Nat.reduceAdd]
  repeat refine IW.seq ?_
  refine IW.region_seq tab_ok [some 2] rfl fun X K hX hK => ?_
  simp only [go_sem]
  refine hK _ _ ?_; clear hX hK X K
  show IW _ _ _ _ _ _ _ _
  repeat refine IW.seq ?_
  refine IW.region_seq tab_ok [some 3] rfl fun X K hX hK => ?_
  simp only [go_sem]
  refine hK _ _ ?_; clear hX hK X K
  show IW _ _ _ _ _ _ _ _
  repeat refine IW.seq ?_
  refine IW.block ?_
  repeat refine IW.seq ?_
  refine IW.region_seq tab_ok [some 5, some 4] rfl fun X K hX hK => ?_
  simp only [go_sem]
  refine hK _ _ ?_; clear hX hK X K
  show IW _ _ _ _ _ _ _ _
  repeat refine IW.seq ?_
  refine IW.cond rfl (fun hb => absurd hb (by decide)) (fun hb => ?_)
  repeat refine IW.seq ?_
  refine IW.region_seq tab_ok [some 12, some 11] rfl fun X K hX hK => ?_
  simp only [go_sem]
  refine hK _ _ ?_; clear hX hK X K
  show IW _ _ _ _ _ _ _ _
  repeat refine IW.seq ?_
  refine IW.cond rfl (fun hb => absurd hb (by decide)) (fun hb => ?_)
  repeat refine IW.seq ?_
  refine IW.region_seq tab_ok [some 19, some 18] rfl fun X K hX hK => ?_
  simp only [go_sem]
  refine hK _ _ ?_; clear hX hK X K
  show IW _ _ _ _ _ _ _ _
  repeat refine IW.seq ?_
  refine IW.cond rfl (fun hb => absurd hb (by decide)) (fun hb => ?_)
  repeat refine IW.seq ?_
  refine IW.region_seq tab_ok [some 24, some 23] rfl fun X K hX hK => ?_
  simp only [go_sem]
  refine hK _ _ ?_; clear hX hK X K
  show IW _ _ _ _ _ _ _ _
  repeat refine IW.seq ?_
  refine IW.cond rfl (fun hb => absurd hb (by decide)) (fun hb => ?_)
  repeat refine IW.seq ?_
  refine IW.region_seq tab_ok [some 29, some 28] rfl fun X K hX hK => ?_
  simp only [go_sem]
  refine hK _ _ ?_; clear hX hK X K
  show IW _ _ _ _ _ _ _ _
  repeat refine IW.seq ?_
  refine IW.cond rfl (fun hb => absurd hb (by decide)) (fun hb => ?_)
  repeat refine IW.seq ?_
  refine IW.region_seq tab_ok [some 38, some 37] rfl fun X K hX hK => ?_
  simp only [go_sem]
  refine hK _ _ ?_; clear hX hK X K
  show IW _ _ _ _ _ _ _ _
  repeat refine IW.seq ?_
  refine IW.cond rfl (fun hb => absurd hb (by decide)) (fun hb => ?_)
  repeat refine IW.seq ?_
  refine IW.region_seq tab_ok [some 45, some 44] rfl fun X K hX hK => ?_
  simp only [go_sem]
  refine hK _ _ ?_; clear hX hK X K
  show IW _ _ _ _ _ _ _ _
  repeat refine IW.seq ?_
  refine IW.cond rfl (fun hb => ?_) (fun hb => absurd hb (by decide))
  repeat refine IW.seq ?_
  refine IW.region_seq tab_ok [some 46, some 47, none, some 48, none, some 49, none, some 50, none, some 51, none, some 52, none, some 53, none, some 54, none, some 55, none, some 56, some 2] rfl fun X K hX hK => ?_
  simp only [go_sem]
  refine hX.quiet _ _ (OpG.of_B rfl opB_makeMap) ?_
  simp only [go_sem]
  refine hX.quiet _ _ (OpG.of_B rfl (opB_buildSlice tab_ok rfl (by simp [go_sem]) (by simp [go_sem]) (by simp) (by simp [go_sem, bsO, List.map_cons, List.map_nil]))) ?_
  simp only [go_sem, List.map_cons, List.map_nil]
  refine hX.op _ _ rfl (opS_insert rfl rfl (by simp [go_sem]) m72 u3 (by simp [go_sem]) (by simp [go_sem]) (by simp [go_sem]) (by decide)) ?_
  simp only [go_sem, List.nil_append, List.cons_append]
  refine hX.quiet _ _ (OpG.of_B rfl (opB_buildSlice tab_ok rfl (by simp [go_sem]) (by simp [go_sem]) (by simp) (by simp [go_sem, bsO, List.map_cons, List.map_nil]))) ?_
  simp only [go_sem, List.map_cons, List.map_nil]
  refine hX.op _ _ rfl (opS_insert rfl rfl (by simp [go_sem]) m72 u3 (by simp [go_sem]) (by simp [go_sem]) (by simp [go_sem]) (by decide)) ?_
  simp only [go_sem, List.nil_append, List.cons_append]
  refine hX.quiet _ _ (OpG.of_B rfl (opB_buildSlice tab_ok rfl (by simp [go_sem]) (by simp [go_sem]) (by simp) (by simp [go_sem, bsO, List.map_cons, List.map_nil]))) ?_
  simp only [go_sem, List.map_cons, List.map_nil]
  refine hX.op _ _ rfl (opS_insert rfl rfl (by simp [go_sem]) m72 u3 (by simp [go_sem]) (by simp [go_sem]) (by simp [go_sem]) (by decide)) ?_
  simp only [go_sem, List.nil_append, List.cons_append]
  refine hX.quiet _ _ (OpG.of_B rfl (opB_buildSlice tab_ok rfl (by simp [go_sem]) (by simp [go_sem]) (by simp) (by simp [go_sem, bsO, List.map_cons, List.map_nil]))) ?_
  simp only [go_sem, List.map_cons, List.map_nil]
  refine hX.op _ _ rfl (opS_insert rfl rfl (by simp [go_sem]) m72 u3 (by simp [go_sem]) (by simp [go_sem]) (by simp [go_sem]) (by decide)) ?_
  simp only [go_sem, List.nil_append, List.cons_append]
  refine hX.quiet _ _ (OpG.of_B rfl (opB_buildSlice tab_ok rfl (by simp [go_sem]) (by simp [go_sem]) (by simp) (by simp [go_sem, bsO, List.map_cons, List.map_nil]))) ?_
  simp only [go_sem, List.map_cons, List.map_nil]
  refine hX.op _ _ rfl (opS_insert rfl rfl (by simp [go_sem]) m72 u3 (by simp [go_sem]) (by simp [go_sem]) (by simp [go_sem]) (by decide)) ?_
  simp only [go_sem, List.nil_append, List.cons_append]
  refine hX.quiet _ _ (OpG.of_B rfl (opB_buildSlice tab_ok rfl (by simp [go_sem]) (by simp [go_sem]) (by simp) (by simp [go_sem, bsO, List.map_cons, List.map_nil]))) ?_
  simp only [go_sem, List.map_cons, List.map_nil]
  refine hX.op _ _ rfl (opS_insert rfl rfl (by simp [go_sem]) m72 u3 (by simp [go_sem]) (by simp [go_sem]) (by simp [go_sem]) (by decide)) ?_
  simp only [go_sem, List.nil_append, List.cons_append]
  refine hX.quiet _ _ (OpG.of_B rfl (opB_buildSlice tab_ok rfl (by simp [go_sem]) (by simp [go_sem]) (by simp) (by simp [go_sem, bsO, List.map_cons, List.map_nil]))) ?_
  simp only [go_sem, List.map_cons, List.map_nil]
  refine hX.op _ _ rfl (opS_insert rfl rfl (by simp [go_sem]) m72 u3 (by simp [go_sem]) (by simp [go_sem]) (by simp [go_sem]) (by decide)) ?_
  simp only [go_sem, List.nil_append, List.cons_append]
  refine hX.quiet _ _ (OpG.of_B rfl (opB_buildSlice tab_ok rfl (by simp [go_sem]) (by simp [go_sem]) (by simp) (by simp [go_sem, bsO, List.map_cons, List.map_nil]))) ?_
  simp only [go_sem, List.map_cons, List.map_nil]
  refine hX.op _ _ rfl (opS_insert rfl rfl (by simp [go_sem]) m72 u3 (by simp [go_sem]) (by simp [go_sem]) (by simp [go_sem]) (by decide)) ?_
  simp only [go_sem, List.nil_append, List.cons_append]
  refine hX.quiet _ _ (OpG.of_B rfl (opB_buildSlice tab_ok rfl (by simp [go_sem]) (by simp [go_sem]) (by simp) (by simp [go_sem, bsO, List.map_cons, List.map_nil]))) ?_
  simp only [go_sem, List.map_cons, List.map_nil]
  refine hX.op _ _ rfl (opS_insert rfl rfl (by simp [go_sem]) m72 u3 (by simp [go_sem]) (by simp [go_sem]) (by simp [go_sem]) (by decide)) ?_
  simp only [go_sem, List.nil_append, List.cons_append]
  refine hK _ _ ?_; clear hX hK X K
  show IW _ _ _ _ _ _ _ _
  refine IW.ret (fin_map rfl rfl rfl rfl ⟨rfl, rfl, rfl, rfl, rfl, rfl, rfl, rfl, rfl, trivial⟩)
def drw10 : List (Int × List ByteArray) := [(1, [⟨#[46, 46]⟩, ⟨#[35, 35]⟩, ⟨#[35, 35]⟩, ⟨#[46, 46]⟩])]
theorem fDraw10 : FSpec Try.prog 49 [.int .i64 10] (mapSV drw10) (mapRows drw10) := by
  refine FSpec.intro tab_ok Try.func49 rfl rfl rfl (by kernel_rfl) (by simp) fun w0 => ?_
  simp only [argTM, Nat.zero_add, Nat.reduceAdd]
  repeat refine IW.seq ?_
  refine IW.region_seq tab_ok [some 2] rfl fun X K hX hK => ?_
  simp only [go_sem]
  refine hK _ _ ?_; clear hX hK X K
  show IW _ _ _ _ _ _ _ _
  repeat refine IW.seq ?_
  refine IW.region_seq tab_ok [some 3] rfl fun X K hX hK => ?_
  simp only [go_sem]
  refine hK _ _ ?_; clear hX hK X K
  show IW _ _ _ _ _ _ _ _
  repeat refine IW.seq ?_
  refine IW.block ?_
  repeat refine IW.seq ?_
  refine IW.region_seq tab_ok [some 5, some 4] rfl fun X K hX hK => ?_
  simp only [go_sem]
  refine hK _ _ ?_; clear hX hK X K
  show IW _ _ _ _ _ _ _ _
  repeat refine IW.seq ?_
  refine IW.cond rfl (fun hb => absurd hb (by decide)) (fun hb => ?_)
  repeat refine IW.seq ?_
  refine IW.region_seq tab_ok [some 12, some 11] rfl fun X K hX hK => ?_
  simp only [go_sem]
  refine hK _ _ ?_; clear hX hK X K
  show IW _ _ _ _ _ _ _ _
  repeat refine IW.seq ?_
  refine IW.cond rfl (fun hb => absurd hb (by decide)) (fun hb => ?_)
  repeat refine IW.seq ?_
  refine IW.region_seq tab_ok [some 19, some 18] rfl fun X K hX hK => ?_
  simp only [go_sem]
  refine hK _ _ ?_; clear hX hK X K
  show IW _ _ _ _ _ _ _ _
  repeat refine IW.seq ?_
  refine IW.cond rfl (fun hb => absurd hb (by decide)) (fun hb => ?_)
  repeat refine IW.seq ?_
  refine IW.region_seq tab_ok [some 24, some 23] rfl fun X K hX hK => ?_
  simp only [go_sem]
  refine hK _ _ ?_; clear hX hK X K
  show IW _ _ _ _ _ _ _ _
  repeat refine IW.seq ?_
  refine IW.cond rfl (fun hb => absurd hb (by decide)) (fun hb => ?_)
  repeat refine IW.seq ?_
  refine IW.region_seq tab_ok [some 29, some 28] rfl fun X K hX hK => ?_
  simp only [go_sem]
  refine hK _ _ ?_; clear hX hK X K
  show IW _ _ _ _ _ _ _ _
  repeat refine IW.seq ?_
  refine IW.cond rfl (fun hb => absurd hb (by decide)) (fun hb => ?_)
  repeat refine IW.seq ?_
  refine IW.region_seq tab_ok [some 38, some 37] rfl fun X K hX hK => ?_
  simp only [go_sem]
  refine hK _ _ ?_; clear hX hK X K
  show IW _ _ _ _ _ _ _ _
  repeat refine IW.seq ?_
  refine IW.cond rfl (fun hb => absurd hb (by decide)) (fun hb => ?_)
  repeat refine IW.seq ?_
  refine IW.region_seq tab_ok [some 45, some 44] rfl fun X K hX hK => ?_
  simp only [go_sem]
  refine hK _ _ ?_; clear hX hK X K
  show IW _ _ _ _ _ _ _ _
  repeat refine IW.seq ?_
  refine IW.cond rfl (fun hb => absurd hb (by decide)) (fun hb => ?_)
  repeat refine IW.seq ?_
  refine IW.region_seq tab_ok [some 58, some 57] rfl fun X K hX hK => ?_
  simp only [go_sem]
  refine hK _ _ ?_; clear hX hK X K
  show IW _ _ _ _ _ _ _ _
  repeat refine IW.seq ?_
  refine IW.cond rfl (fun hb => absurd hb (by decide)) (fun hb => ?_)
  repeat refine IW.seq ?_
  refine IW.region_seq tab_ok [some 61, some 60] rfl fun X K hX hK => ?_
  simp only [go_sem]
  refine hK _ _ ?_; clear hX hK X K
  show IW _ _ _ _ _ _ _ _
  repeat refine IW.seq ?_
  refine IW.cond rfl (fun hb => ?_) (fun hb => absurd hb (by decide))
  repeat refine IW.seq ?_
  refine IW.region_seq tab_ok [some 62, some 63, none, some 64, some 2] rfl fun X K hX hK => ?_
  simp only [go_sem]
  refine hX.quiet _ _ (OpG.of_B rfl opB_makeMap) ?_
  simp only [go_sem]
  refine hX.quiet _ _ (OpG.of_B rfl (opB_buildSlice tab_ok rfl (by simp [go_sem]) (by simp [go_sem]) (by simp) (by simp [go_sem, bsO, List.map_cons, List.map_nil]))) ?_
  simp only [go_sem, List.map_cons, List.map_nil]
  refine hX.op _ _ rfl (opS_insert rfl rfl (by simp [go_sem]) m72 u3 (by simp [go_sem]) (by simp [go_sem]) (by simp [go_sem]) (by decide)) ?_
  simp only [go_sem, List.nil_append, List.cons_append]
  refine hK _ _ ?_; clear hX hK X K
  show IW _ _ _ _ _ _ _ _
  refine IW.ret (fin_map rfl rfl rfl rfl ⟨rfl, trivial⟩)
end Go.Proofs.Ytnbpbehlemaeoaa

set_option linter.unusedVariables false
set_option linter.unusedSimpArgs false
set_option maxRecDepth 10000
namespace Go.Proofs.Ytnbpbehlemaeoaa
open Go.IL
theorem strs_length (l : List ByteArray) : (strs l).length = l.length := by simp [strs]
theorem strs_at {l : List ByteArray} {i : Nat} (h : i < l.length) : (strs l).getD i [] = [.str (l.getD i default)] := by simp [strs, h]
theorem strs_bnd (n : Nat) : ∀ l : List ByteArray, bndLL n (strs l) = true
  | [] => rfl
  | x :: xs => by show bndLL n ([SV.str x] :: strs xs) = true; simp [bndLL, bndL, SV.bnd, strs_bnd n xs]
theorem strs_rei (n : Nat) (h : Heap) (l : List ByteArray) : (strs l).map (fun x => x.map (rei (n + 1) h)) = strs l := by simp [strs, rei]
theorem strs_take (l : List ByteArray) : (strs l).take l.length = strs l := List.take_of_length_le (by simp [strs])
attribute [go_sem] Int.toNat_zero Int.toNat_natCast strs_length strs_bnd strs_rei strs_take
theorem fBlank (W H : Nat) (hb : W * H ≤ 1000000) (hw : W ≤ 1000000) (hh : H ≤ 1000000) : FSpec Try.prog 58 [.int .i64 W, .int .i64 H] (imgSV (some (W, H, List.replicate (W * H) 0))) (imgRows (some (W, H, List.replicate (W * H) 0))) := by
  refine FSpec.intro tab_ok Try.func58 rfl rfl rfl (by kernel_rfl) (by simp) fun w0 => ?_
  simp only [argTM, Nat.zero_add, Nat.reduceAdd]
  repeat refine IW.seq ?_
  refine IW.region_seq tab_ok [some 4] rfl fun X K hX hK => ?_
  simp only [go_sem]
  refine hK _ _ ?_; clear hX hK X K
  show IW _ _ _ _ _ _ _ _
  have e1 : IntKind.i64.wrap ((W : Int) * (H : Int)) = ((W * H : Nat) : Int) := by
    rw [← Int.natCast_mul]; exact wrap_eq (by omega) (by omega)
  repeat refine IW.seq ?_
  refine IW.region_seq tab_ok [some 5, some 6, some 7, some 8, some 9, some 10, some 11, none] rfl fun X K hX hK => ?_
  simp only [go_sem, e1]
  refine hX.quiet _ _ (OpG.of_B rfl (opB_makeSlice tab_ok (k := .i64) (n := W * H) (by simp only [go_sem]) rfl (by simp [go_sem]) (by simp [go_sem]; omega) (by omega))) ?_
  simp only [go_sem]
  refine hX.op _ _ rfl (opS_store tab_ok rfl (by simp [go_sem]) (by simp [go_sem]) (by simp [go_sem]) (by simp [go_sem]) (by simp [go_sem]) (by simp [go_sem])) ?_
  simp only [go_sem]
  refine hK _ _ ?_; clear hX hK X K
  show IW _ _ _ _ _ _ _ _
  refine IW.ret (Fin.cell1 1 ⟨trivial, by simp [go_sem]⟩ rfl (by simp [go_sem]) ?_ ?_)
  · simp [go_sem, imgSV]
  · simp [go_sem]
/-- The pixels of some rows, w wide. -/
def drawF (rows : List ByteArray) (w t : Nat) : Int := if sbAt (rows.getD (t / w) default) (t % w) = 35 then 1 else 0
def drawS (rows : List ByteArray) : Img := let w := (rows.getD 0 default).size; some (w, rows.length, (List.range (w * rows.length)).map (drawF rows w))
theorem fDraw (rows : List ByteArray) (w : Nat) (h0 : 0 < rows.length) (hw : ∀ i, i < rows.length → (rows.getD i default).size = w) (hb1 : rows.length ≤ 640) (hb2 : w ≤ 640) : FSpec Try.prog 53 [.sl true (strs rows)] (imgSV (drawS rows)) (imgRows (drawS rows)) := by
  have hw0 := hw 0 h0
  have hmul : w * rows.length ≤ 640 * 640 := Nat.mul_le_mul hb2 hb1
  simp only [drawS, hw0]
  generalize hn : rows.length = n at *
  refine FSpec.intro tab_ok Try.func53 rfl rfl rfl (by kernel_rfl) (by simp) fun w0 => ?_
  simp only [argTM, Nat.zero_add, Nat.reduceAdd]
  repeat refine IW.seq ?_
  refine IW.region_seq tab_ok [some 2] rfl fun X K hX hK => ?_
  simp only [go_sem]
  refine hK _ _ ?_; clear hX hK X K
  show IW _ _ _ _ _ _ _ _
  have hlt0 : 0 < rows.length := by omega
  repeat refine IW.seq ?_
  refine IW.region_seq tab_ok [some 7, some 8, some 9, some 10, some 11, some 12, some 13, some 3, none] rfl fun X K hX hK => ?_
  simp only [go_sem, strs_at hlt0, hw0, hn]
  refine ⟨⟨Int.le_refl _, by omega⟩, ?_⟩
  refine hX.quiet _ _ (OpG.of_B rfl (opB_call rfl rfl (FSpec.nz (fBlank w n (by omega) (by omega) (by omega)) (by simp [go_sem, List.map_cons, List.map_nil, List.append_nil, opnd, unc, imgSV, imgRows])))) ?_
  simp only [go_sem, imgSV, imgRows]
  refine hX.op _ _ rfl (opS_store tab_ok rfl (by simp [go_sem]) (by simp [go_sem]) (by simp [go_sem]) (by simp [go_sem]) (by simp [go_sem]) (by simp [go_sem])) ?_
  simp only [go_sem]
  refine hK _ _ ?_; clear hX hK X K
  show IW _ _ _ _ _ _ _ _
  repeat refine IW.seq ?_
  refine IW.region_seq tab_ok [some 14, some 15, some 16] rfl fun X K hX hK => ?_
  simp only [go_sem, hn]
  refine hK _ _ ?_; clear hX hK X K
  show IW _ _ _ _ _ _ _ _
  repeat refine IW.seq ?_
  refine IW.block ?_
  have hrow : ∀ {y : Nat}, y < n → y * w + w ≤ w * n := fun {y} hy => by
    have : (y + 1) * w ≤ n * w := Nat.mul_le_mul_right _ hy
    rw [Nat.add_mul] at this; rw [Nat.mul_comm w n]; omega
  refine IW.loop (α := {y : Nat // y ≤ n}) (fun y => [(2, .ptr 0 0 0), (3, .ptr 2 0 0), (14, .sl true (strs rows)), (15, .int .i64 n), (16, .int .i64 y.1)]) (fun y => [some ⟨3, 33, [[.int .i64 0, .int .i64 0, .nils]]⟩, some ⟨1, 5, nums .u8 (upto (drawF rows w) (w * n) (y.1 * w))⟩, some ⟨3, 33, [[.int .i64 w, .int .i64 n, .ref 1 0 (w * n)]]⟩]) (fun y => n - y.1) ⟨0, by omega⟩ ?_ fun ⟨y, hy⟩ => ?_
  · refine Ent.cut ?_ ?_ <;> simp only [go_sem, Nat.zero_mul, upto_zero, List.length_replicate]
  · simp only []
    repeat refine IW.seq ?_
    refine IW.region_seq tab_ok [some 17] rfl fun X K hX hK => ?_
    simp only [go_sem]
    refine hK _ _ ?_; clear hX hK X K
    show IW _ _ _ _ _ _ _ _
    repeat refine IW.seq ?_
    refine IW.cond rfl (fun hb1 => ?_) (fun hb1 => ?_)
    · refine IW.skip ?_
      show IW _ _ _ _ _ _ _ _
      simp only [decide_eq_true_eq] at hb1
      have hyh : y < n := by omega
      have hyr : y < rows.length := by omega
      have hr := hrow hyh
      refine IW.seq (IW.block ?_)
      repeat refine IW.seq ?_
      refine IW.region_seq tab_ok [some 18, some 19, some 20, some 4, some 5] rfl fun X K hX hK => ?_
      simp only [go_sem, Int.toNat_natCast, strs_at hyr, hn]
      refine ⟨⟨by omega, by omega⟩, ?_⟩
      refine hK _ _ ?_; clear hX hK X K
      show IW _ _ _ _ _ _ _ _
      repeat refine IW.seq ?_
      refine IW.region_seq tab_ok [some 21, some 22, some 23] rfl fun X K hX hK => ?_
      simp only [go_sem, hw y hyh]
      refine hK _ _ ?_; clear hX hK X K
      show IW _ _ _ _ _ _ _ _
      repeat refine IW.seq ?_
      refine IW.block ?_
      refine IW.loop (α := {x : Nat // x ≤ w}) (fun x => [(2, .ptr 0 0 0), (3, .ptr 2 0 0), (4, .int .i64 y), (5, .str (rows.getD y default)), (14, .sl true (strs rows)), (15, .int .i64 n), (16, .int .i64 y), (22, .int .i64 w), (23, .int .i64 x.1)]) (fun x => [some ⟨3, 33, [[.int .i64 0, .int .i64 0, .nils]]⟩, some ⟨1, 5, nums .u8 (upto (drawF rows w) (w * n) (y * w + x.1))⟩, some ⟨3, 33, [[.int .i64 w, .int .i64 n, .ref 1 0 (w * n)]]⟩]) (fun x => w - x.1) ⟨0, by omega⟩ ?_ fun ⟨x, hx⟩ => ?_
      · refine Ent.cut ?_ ?_ <;> simp only [go_sem, Nat.add_zero]
      · simp only []
        repeat refine IW.seq ?_
        refine IW.region_seq tab_ok [some 24] rfl fun X K hX hK => ?_
        simp only [go_sem]
        refine hK _ _ ?_; clear hX hK X K
        show IW _ _ _ _ _ _ _ _
        repeat refine IW.seq ?_
        refine IW.cond rfl (fun hb2 => ?_) (fun hb2 => ?_)
        · refine IW.skip ?_
          show IW _ _ _ _ _ _ _ _
          simp only [decide_eq_true_eq] at hb2
          have hxw : x < w := by omega
          have e1 : IntKind.i64.wrap ((y : Int) * (w : Int)) = ((y * w : Nat) : Int) := by
            rw [← Int.natCast_mul]; exact wrap_eq (by omega) (by omega)
          have e2 : IntKind.i64.wrap (((y * w : Nat) : Int) + (x : Int)) = ((y * w + x : Nat) : Int) := (wrap_eq (by omega) (by omega)).trans (by omega)
          have hdiv : (y * w + x) / w = y := by rw [Nat.mul_comm, Nat.mul_add_div (by omega), Nat.div_eq_of_lt hxw]; rfl
          have hmod : (y * w + x) % w = x := by rw [Nat.mul_comm, Nat.mul_add_mod, Nat.mod_eq_of_lt hxw]
          refine IW.seq (IW.block ?_)
          repeat refine IW.seq ?_
          refine IW.region_seq tab_ok [some 25, some 6] rfl fun X K hX hK => ?_
          simp only [go_sem]
          refine hK _ _ ?_; clear hX hK X K
          show IW _ _ _ _ _ _ _ _
          repeat refine IW.seq ?_
          refine IW.region_seq tab_ok [some 26, some 27, some 28, some 29] rfl fun X K hX hK => ?_
          simp only [go_sem, Int.toNat_natCast, hw y hyh]
          refine ⟨⟨by omega, by omega⟩, ?_⟩
          refine hK _ _ ?_; clear hX hK X K
          show IW _ _ _ _ _ _ _ _
          have hset := upto_set (drawF rows w) (w * n) (y * w + x)
          have hk2 : y * w + x < w * n := by omega
          repeat refine IW.seq ?_
          refine IW.cond rfl (fun hb3 => ?_) (fun hb3 => ?_)
          · have hk3 := nums_at (k := .u8) (xs := upto (drawF rows w) (w * n) (y * w + x)) (i := y * w + x) (by simp [upto_length, hk2])
            repeat refine IW.seq ?_
            refine IW.region_seq tab_ok [some 30, some 31, some 32, some 33, some 34, some 35, some 36, some 37, some 38, none] rfl fun X K hX hK => ?_
            simp only [go_sem, e1, e2]
            refine ⟨⟨by omega, by omega⟩, ?_⟩
            refine hX.op _ _ rfl (opS_store tab_ok rfl (by simp [go_sem]) (by simp [go_sem]) (by simp [go_sem]) (by simp [go_sem, hk2, hk3]) (by simp [go_sem]) (by simp [go_sem])) ?_
            simp only [go_sem, hk2, hk3]
            refine hK _ _ ?_; clear hX hK X K
            show IW _ _ _ _ _ _ _ _
            repeat refine IW.seq ?_
            refine IW.region_seq tab_ok [some 39, some 23] rfl fun X K hX hK => ?_
            simp only [go_sem, succ_wrap hxw (by omega)]
            refine hK _ _ ⟨⟨x + 1, hxw⟩, by simp only []; omega, ?_⟩
            have : drawF rows w (y * w + x) = 1 := by simp only [drawF, hdiv, hmod]; rw [if_pos (by simpa using hb3)]
            rw [this] at hset
            refine Ent.cut ?_ ?_ <;> simp only [go_sem, ← Nat.add_assoc, hset]
          · refine IW.skip ?_
            show IW _ _ _ _ _ _ _ _
            repeat refine IW.seq ?_
            refine IW.region_seq tab_ok [some 39, some 23] rfl fun X K hX hK => ?_
            simp only [go_sem, succ_wrap hxw (by omega)]
            refine hK _ _ ⟨⟨x + 1, hxw⟩, by simp only []; omega, ?_⟩
            have h0 : drawF rows w (y * w + x) = 0 := by simp only [drawF, hdiv, hmod]; rw [if_neg (by simpa using hb3)]
            have h1 : (upto (drawF rows w) (w * n) (y * w + x)).set (y * w + x) 0 = upto (drawF rows w) (w * n) (y * w + x) := by
              apply List.ext_getElem
              · simp
              · intro i h1 h2
                by_cases c : y * w + x = i
                · subst c; simp [upto]
                · rw [List.getElem_set_ne c]
            rw [h0, h1] at hset
            refine Ent.cut ?_ ?_ <;> simp only [go_sem, ← Nat.add_assoc, ← hset]
        · refine IW.exit ?_
          show IW _ _ _ _ _ _ _ _
          simp only [decide_eq_false_iff_not] at hb2
          have hxw : x = w := by omega
          subst hxw
          repeat refine IW.seq ?_
          refine IW.region_seq tab_ok [some 40, some 16] rfl fun X K hX hK => ?_
          simp only [go_sem, succ_wrap hyh (by omega)]
          refine hK _ _ ⟨⟨y + 1, hyh⟩, by simp only []; omega, ?_⟩
          refine Ent.cut ?_ ?_ <;> simp only [go_sem, Nat.add_mul, Nat.one_mul]
    · refine IW.exit ?_
      show IW _ _ _ _ _ _ _ _
      simp only [decide_eq_false_iff_not] at hb1
      have hyh : y = n := by omega
      subst hyh
      repeat refine IW.seq ?_
      refine IW.region_seq tab_ok [some 41, none] rfl fun X K hX hK => ?_
      simp only [go_sem]
      refine hX.op _ _ rfl (opS_store tab_ok rfl (by simp [go_sem]) (by simp [go_sem]) (by simp [go_sem]) (by simp [go_sem]) (by simp [go_sem]) (by simp [go_sem])) ?_
      simp only [go_sem]
      refine hK _ _ ?_; clear hX hK X K
      show IW _ _ _ _ _ _ _ _
      refine IW.ret (Fin.cell1 1 ⟨trivial, by simp [go_sem]⟩ rfl (by simp [go_sem]) ?_ ?_)
      · simp [go_sem, imgSV]
      · simp [go_sem, Nat.mul_comm y w, upto_all]
end Go.Proofs.Ytnbpbehlemaeoaa

set_option linter.unusedVariables false
set_option linter.unusedSimpArgs false
set_option maxRecDepth 10000
namespace Go.Proofs.Ytnbpbehlemaeoaa
open Go.IL
theorem strs_ren (σ : Nat → Nat) (l : List ByteArray) : renLL σ (strs l) = strs l := by rw [renLL_map]; simp [strs, renL, SV.ren]
theorem strs_nomap : ∀ l : List ByteArray, nomapLL (strs l) = true
  | [] => rfl
  | x :: xs => by show nomapLL ([SV.str x] :: strs xs) = true; simp [nomapLL, nomapL, SV.nomap, strs_nomap xs]
attribute [go_sem] strs_nomap strs_ren
end Go.Proofs.Ytnbpbehlemaeoaa

set_option linter.unusedVariables false
set_option linter.unusedSimpArgs false
set_option maxRecDepth 10000
namespace Go.Proofs.Ytnbpbehlemaeoaa
open Go.IL
theorem fIndex (l : List Int) (n : Int) (hl : l.length ≤ 1000000) : ∃ m : Int, (0 ≤ m ↔ hasS l n = true) ∧ FSpec Try.prog 82 [.sl true (nums .i64 l), .int .i64 n] (.int .i64 m) [] := by
  have key : ∀ (i : Nat), i ≤ l.length → (∀ j, j < i → l.getD j 0 ≠ n) → True := fun _ _ _ => trivial
  by_cases hex : ∃ i, i < l.length ∧ l.getD i 0 = n ∧ ∀ j, j < i → l.getD j 0 ≠ n
  · obtain ⟨i0, h1, h2, h3⟩ := hex
    refine ⟨i0, ⟨fun _ => List.any_eq_true.2 ⟨_, getD_mem h1, by simpa using h2⟩, fun _ => by omega⟩, ?_⟩
    refine FSpec.intro tab_ok Try.func82 rfl rfl rfl (by kernel_rfl) (by simp) fun w0 => ?_
    simp only [argTM, Nat.zero_add, Nat.reduceAdd]
    repeat refine IW.seq ?_
    refine IW.region_seq tab_ok [some 4] rfl fun X K hX hK => ?_
    simp only [go_sem]
    refine hK _ _ ?_; clear hX hK X K
    show IW _ _ _ _ _ _ _ _
    repeat refine IW.seq ?_
    refine IW.region_seq tab_ok [some 6, some 7, some 8] rfl fun X K hX hK => ?_
    simp only [go_sem]
    refine hK _ _ ?_; clear hX hK X K
    show IW _ _ _ _ _ _ _ _
    repeat refine IW.seq ?_
    refine IW.block ?_
    refine IW.loop (α := {i : Nat // i ≤ i0}) (fun i => [(0, .sl true (nums .i64 l)), (1, .int .i64 n), (7, .int .i64 l.length), (8, .int .i64 i.1)]) (fun _ => []) (fun i => i0 - i.1) ⟨0, by omega⟩ ?_ fun ⟨i, hi⟩ => ?_
    · refine Ent.cut ?_ ?_ <;> simp only [go_sem]
    · simp only []
      have hlt : i < l.length := by omega
      repeat refine IW.seq ?_
      refine IW.region_seq tab_ok [some 9] rfl fun X K hX hK => ?_
      simp only [go_sem]
      refine hK _ _ ?_; clear hX hK X K
      show IW _ _ _ _ _ _ _ _
      repeat refine IW.seq ?_
      refine IW.cond rfl (fun hb1 => ?_) (fun hb1 => ?_)
      · refine IW.skip ?_
        show IW _ _ _ _ _ _ _ _
        repeat refine IW.seq ?_
        refine IW.block ?_
        repeat refine IW.seq ?_
        refine IW.region_seq tab_ok [some 10, some 5] rfl fun X K hX hK => ?_
        simp only [go_sem]
        refine hK _ _ ?_; clear hX hK X K
        show IW _ _ _ _ _ _ _ _
        repeat refine IW.seq ?_
        refine IW.region_seq tab_ok [some 11, some 12, some 13, some 14, some 15, some 16] rfl fun X K hX hK => ?_
        simp only [go_sem, nums_at hlt]
        refine ⟨⟨by omega, by omega⟩, ?_⟩
        refine hK _ _ ?_; clear hX hK X K
        show IW _ _ _ _ _ _ _ _
        repeat refine IW.seq ?_
        refine IW.cond rfl (fun hb2 => ?_) (fun hb2 => ?_)
        · repeat refine IW.seq ?_
          refine IW.region_seq tab_ok [some 17, some 4] rfl fun X K hX hK => ?_
          simp only [go_sem]
          refine hK _ _ ?_; clear hX hK X K
          show IW _ _ _ _ _ _ _ _
          refine IW.ret (Fin.scal rfl rfl ?_)
          simp only [beq_iff_eq] at hb2
          have : i = i0 := by
            rcases Nat.lt_or_ge i i0 with h | h
            · exact absurd hb2.symm (h3 i h)
            · omega
          subst this; rfl
        · refine IW.skip ?_
          show IW _ _ _ _ _ _ _ _
          simp only [beq_eq_false_iff_ne, ne_eq] at hb2
          have hne : i ≠ i0 := by rintro rfl; exact hb2 h2.symm
          repeat refine IW.seq ?_
          refine IW.region_seq tab_ok [some 18, some 8] rfl fun X K hX hK => ?_
          simp only [go_sem, succ_wrap hlt (by omega)]
          refine hK _ _ ⟨⟨i + 1, by omega⟩, by simp only []; omega, ?_⟩
          refine Ent.cut ?_ ?_ <;> simp only [go_sem]
      · exfalso; simp only [decide_eq_false_iff_not] at hb1; omega
  · have hall : ∀ i, i < l.length → l.getD i 0 ≠ n := by
      intro i
      induction i using Nat.strongRecOn with
      | _ i ih => intro hi e; exact hex ⟨i, hi, e, fun j hj => ih j hj (by omega)⟩
    refine ⟨-1, ⟨fun h => by omega, fun h => ?_⟩, ?_⟩
    · obtain ⟨x, hx, e⟩ := List.any_eq_true.1 h
      obtain ⟨j, hj, rfl⟩ := List.mem_iff_getElem.1 hx
      exact absurd (by simpa [hj] using e) (hall j hj)
    · refine FSpec.intro tab_ok Try.func82 rfl rfl rfl (by kernel_rfl) (by simp) fun w0 => ?_
      simp only [argTM, Nat.zero_add, Nat.reduceAdd]
      repeat refine IW.seq ?_
      refine IW.region_seq tab_ok [some 4] rfl fun X K hX hK => ?_
      simp only [go_sem]
      refine hK _ _ ?_; clear hX hK X K
      show IW _ _ _ _ _ _ _ _
      repeat refine IW.seq ?_
      refine IW.region_seq tab_ok [some 6, some 7, some 8] rfl fun X K hX hK => ?_
      simp only [go_sem]
      refine hK _ _ ?_; clear hX hK X K
      show IW _ _ _ _ _ _ _ _
      repeat refine IW.seq ?_
      refine IW.block ?_
      refine IW.loop (α := {i : Nat // i ≤ l.length}) (fun i => [(0, .sl true (nums .i64 l)), (1, .int .i64 n), (7, .int .i64 l.length), (8, .int .i64 i.1)]) (fun _ => []) (fun i => l.length - i.1) ⟨0, by omega⟩ ?_ fun ⟨i, hi⟩ => ?_
      · refine Ent.cut ?_ ?_ <;> simp only [go_sem]
      · simp only []
        repeat refine IW.seq ?_
        refine IW.region_seq tab_ok [some 9] rfl fun X K hX hK => ?_
        simp only [go_sem]
        refine hK _ _ ?_; clear hX hK X K
        show IW _ _ _ _ _ _ _ _
        repeat refine IW.seq ?_
        refine IW.cond rfl (fun hb1 => ?_) (fun hb1 => ?_)
        · refine IW.skip ?_
          show IW _ _ _ _ _ _ _ _
          simp only [decide_eq_true_eq] at hb1
          have hlt : i < l.length := by omega
          repeat refine IW.seq ?_
          refine IW.block ?_
          repeat refine IW.seq ?_
          refine IW.region_seq tab_ok [some 10, some 5] rfl fun X K hX hK => ?_
          simp only [go_sem]
          refine hK _ _ ?_; clear hX hK X K
          show IW _ _ _ _ _ _ _ _
          repeat refine IW.seq ?_
          refine IW.region_seq tab_ok [some 11, some 12, some 13, some 14, some 15, some 16] rfl fun X K hX hK => ?_
          simp only [go_sem, nums_at hlt]
          refine ⟨⟨by omega, by omega⟩, ?_⟩
          refine hK _ _ ?_; clear hX hK X K
          show IW _ _ _ _ _ _ _ _
          repeat refine IW.seq ?_
          refine IW.cond rfl (fun hb2 => ?_) (fun hb2 => ?_)
          · exfalso; simp only [beq_iff_eq] at hb2; exact hall i hlt hb2.symm
          · refine IW.skip ?_
            show IW _ _ _ _ _ _ _ _
            repeat refine IW.seq ?_
            refine IW.region_seq tab_ok [some 18, some 8] rfl fun X K hX hK => ?_
            simp only [go_sem, succ_wrap hlt (by omega)]
            refine hK _ _ ⟨⟨i + 1, hlt⟩, by simp only []; omega, ?_⟩
            refine Ent.cut ?_ ?_ <;> simp only [go_sem]
        · refine IW.exit ?_
          show IW _ _ _ _ _ _ _ _
          repeat refine IW.seq ?_
          refine IW.region_seq tab_ok [some 4] rfl fun X K hX hK => ?_
          simp only [go_sem]
          refine hK _ _ ?_; clear hX hK X K
          show IW _ _ _ _ _ _ _ _
          refine IW.ret (Fin.scal rfl rfl ?_)
          rfl
theorem fContains (l : List Int) (n : Int) (hl : l.length ≤ 1000000) : FSpec Try.prog 64 [.sl true (nums .i64 l), .int .i64 n] (.bool (hasS l n)) [] := by
  obtain ⟨m, hm, hs⟩ := fIndex l n hl
  refine FSpec.intro tab_ok Try.func64 rfl rfl rfl (by kernel_rfl) (by simp) fun w0 => ?_
  simp only [argTM, Nat.zero_add, Nat.reduceAdd]
  repeat refine IW.seq ?_
  refine IW.region_seq tab_ok [some 4] rfl fun X K hX hK => ?_
  simp only [go_sem]
  refine hK _ _ ?_; clear hX hK X K
  show IW _ _ _ _ _ _ _ _
  repeat refine IW.seq ?_
  refine IW.region_seq tab_ok [some 5, some 6, some 7, some 8, some 4] rfl fun X K hX hK => ?_
  simp only [go_sem]
  refine hX.quiet _ _ (OpG.of_B rfl (opB_call rfl rfl (FSpec.nz (hs) (by simp [go_sem, List.map_cons, List.map_nil, List.append_nil, opnd, unc])))) ?_
  simp only [go_sem]
  refine hK _ _ ?_; clear hX hK X K
  show IW _ _ _ _ _ _ _ _
  refine IW.ret (Fin.scal rfl rfl ?_)
  show SV.bool (decide (0 ≤ m)) = SV.bool _
  congr 1
  by_cases h : 0 ≤ m
  · simp only [h, decide_true, hm.1 h]
  · have : hasS l n = false := by
      cases e : hasS l n with
      | false => rfl
      | true => exact absurd (hm.2 e) h
    simp only [h, decide_false, this]
/-- A pixel; outside there is paper. -/
def atF (W H : Nat) (p : List Int) (x y : Int) : Int := if x < 0 ∨ y < 0 ∨ (W : Int) ≤ x ∨ (H : Int) ≤ y then 0 else p.getD (y.toNat * W + x.toNat) 0
theorem iAt (W H : Nat) (x y : Int) (p : List Int) (hp : p.length = W * H) (hl : p.length ≤ 1000000) : FSpec Try.prog 65 [img W H p, .int .i64 x, .int .i64 y] (.int .u8 (atF W H p x y)) [] := by
  refine FSpec.intro tab_ok Try.func65 rfl rfl rfl (by kernel_rfl) (by simp) fun w0 => ?_
  simp only [argTM, Nat.zero_add, Nat.reduceAdd]
  repeat refine IW.seq ?_
  refine IW.region_seq tab_ok [some 3, some 6] rfl fun X K hX hK => ?_
  simp only [go_sem]
  refine hK _ _ ?_; clear hX hK X K
  show IW _ _ _ _ _ _ _ _
  repeat refine IW.seq ?_
  refine IW.region_seq tab_ok [some 7, some 8, some 9, some 10, some 11, some 12, some 13, some 14, some 15, some 16, some 17, some 18, some 19, some 20, some 21, some 22, some 23, some 24, some 25, some 26] rfl fun X K hX hK => ?_
  simp only [go_sem]
  refine hK _ _ ?_; clear hX hK X K
  show IW _ _ _ _ _ _ _ _
  repeat refine IW.seq ?_
  refine IW.cond rfl (fun hb => ?_) (fun hb => ?_)
  · repeat refine IW.seq ?_
    refine IW.region_seq tab_ok [some 6] rfl fun X K hX hK => ?_
    simp only [go_sem]
    refine hK _ _ ?_; clear hX hK X K
    show IW _ _ _ _ _ _ _ _
    refine IW.ret (Fin.scal rfl rfl ?_)
    simp only [Bool.or_eq_true, decide_eq_true_eq] at hb
    show SV.int .u8 0 = SV.int .u8 _
    rw [atF, if_pos (by omega)]
  · refine IW.skip ?_
    show IW _ _ _ _ _ _ _ _
    simp only [Bool.or_eq_false_iff, decide_eq_false_iff_not] at hb
    obtain ⟨x, rfl⟩ : ∃ n : Nat, x = n := ⟨x.toNat, by omega⟩
    obtain ⟨y, rfl⟩ : ∃ n : Nat, y = n := ⟨y.toNat, by omega⟩
    have hlt : y * W + x < p.length := by
      have : (y + 1) * W ≤ H * W := Nat.mul_le_mul_right _ (by omega)
      rw [Nat.add_mul] at this; rw [hp, Nat.mul_comm W H]; omega
    have e1 : IntKind.i64.wrap ((y : Int) * (W : Int)) = ((y * W : Nat) : Int) := by
      rw [← Int.natCast_mul]; exact wrap_eq (by omega) (by omega)
    have e2 : IntKind.i64.wrap (((y * W : Nat) : Int) + (x : Int)) = ((y * W + x : Nat) : Int) := (wrap_eq (by omega) (by omega)).trans (by omega)
    repeat refine IW.seq ?_
    refine IW.region_seq tab_ok [some 27, some 28, some 29, some 30, some 31, some 32, some 33, some 34, some 35, some 36, some 37, some 38, some 6] rfl fun X K hX hK => ?_
    simp only [go_sem, e1, e2, nums_at hlt]
    refine ⟨⟨by omega, by omega⟩, ?_⟩
    refine hK _ _ ?_; clear hX hK X K
    show IW _ _ _ _ _ _ _ _
    refine IW.ret (Fin.scal rfl rfl ?_)
    show SV.int .u8 _ = SV.int .u8 _
    rw [atF, if_neg (by omega)]
    simp only [Int.toNat_natCast]
end Go.Proofs.Ytnbpbehlemaeoaa

set_option linter.unusedVariables false
set_option linter.unusedSimpArgs false
set_option maxRecDepth 10000
namespace Go.Proofs.Ytnbpbehlemaeoaa
open Go.IL
def insF (x first n : Int) : Bool := decide (first ≤ x ∧ x - first < n)
theorem fInside (x first n : Int) (hx : -9223372036854775808 ≤ x ∧ x ≤ 9223372036854775807) (hf : -9223372036854775808 ≤ first ∧ first ≤ 9223372036854775807) (hn : -9223372036854775808 ≤ n ∧ n ≤ 9223372036854775807) :
    FSpec Try.prog 81 [.int .i64 x, .int .i64 first, .int .i64 n] (.bool (insF x first n)) [] := by
  refine FSpec.intro tab_ok Try.func81 rfl rfl rfl (by kernel_rfl) (by simp) fun w0 => ?_
  simp only [argTM, Nat.zero_add, Nat.reduceAdd]
  repeat refine IW.seq ?_
  refine IW.region_seq tab_ok [some 6] rfl fun X K hX hK => ?_
  simp only [go_sem]
  refine hK _ _ ?_; clear hX hK X K
  show IW _ _ _ _ _ _ _ _
  repeat refine IW.seq ?_
  refine IW.region_seq tab_ok [some 7, some 8, some 9, some 10, some 11, some 12, some 13] rfl fun X K hX hK => ?_
  simp only [go_sem]
  refine hK _ _ ?_; clear hX hK X K
  show IW _ _ _ _ _ _ _ _
  repeat refine IW.seq ?_
  refine IW.cond rfl (fun hb => ?_) (fun hb => ?_)
  · repeat refine IW.seq ?_
    refine IW.region_seq tab_ok [some 6] rfl fun X K hX hK => ?_
    simp only [go_sem]
    refine hK _ _ ?_; clear hX hK X K
    show IW _ _ _ _ _ _ _ _
    refine IW.ret (Fin.scal rfl rfl ?_)
    simp only [Bool.or_eq_true, decide_eq_true_eq] at hb
    show SV.bool false = SV.bool _
    have : ¬ (first ≤ x ∧ x - first < n) := by omega
    simp only [insF, this, decide_false]
  · refine IW.skip ?_
    show IW _ _ _ _ _ _ _ _
    simp only [Bool.or_eq_false_iff, decide_eq_false_iff_not] at hb
    repeat refine IW.seq ?_
    refine IW.region_seq tab_ok [some 14, some 15, some 16, some 17, some 18, some 19, some 20, some 21, some 6] rfl fun X K hX hK => ?_
    simp only [go_sem]
    have e1 : IntKind.u64.wrap (IntKind.u64.wrap x - IntKind.u64.wrap first) = x - first := by simp only [IntKind.wrap_u64]; omega
    have e2 : IntKind.u64.wrap n = n := by simp only [IntKind.wrap_u64]; omega
    simp only [e1, e2]
    refine hK _ _ ?_; clear hX hK X K
    show IW _ _ _ _ _ _ _ _
    refine IW.ret (Fin.scal rfl rfl ?_)
    show SV.bool (decide (x - first < n)) = SV.bool _
    have : first ≤ x := by omega
    simp only [insF, this, true_and]
end Go.Proofs.Ytnbpbehlemaeoaa

set_option linter.unusedVariables false
set_option linter.unusedSimpArgs false
set_option maxRecDepth 10000
namespace Go.Proofs.Ytnbpbehlemaeoaa
open Go.IL
/-- Elements of two numbers each. -/
def prs (l : List (Int × Int)) : List (List SV) := l.map fun p => [.int .i64 p.1, .int .i64 p.2]
theorem prs_length (l : List (Int × Int)) : (prs l).length = l.length := by simp [prs]
theorem prs_at {l : List (Int × Int)} {i : Nat} (h : i < l.length) : (prs l).getD i [] = [.int .i64 (l.getD i (0, 0)).1, .int .i64 (l.getD i (0, 0)).2] := by simp [prs, h]
theorem prs_bnd (n : Nat) : ∀ l : List (Int × Int), bndLL n (prs l) = true
  | [] => rfl
  | x :: xs => by show bndLL n ([SV.int .i64 x.1, SV.int .i64 x.2] :: prs xs) = true; simp [bndLL, bndL, SV.bnd, prs_bnd n xs]
theorem prs_nold : ∀ l : List (Int × Int), noldLL (prs l) = true
  | [] => rfl
  | x :: xs => by show noldLL ([SV.int .i64 x.1, SV.int .i64 x.2] :: prs xs) = true; simp [noldLL, noldL, SV.nold, prs_nold xs]
theorem prs_nomap : ∀ l : List (Int × Int), nomapLL (prs l) = true
  | [] => rfl
  | x :: xs => by show nomapLL ([SV.int .i64 x.1, SV.int .i64 x.2] :: prs xs) = true; simp [nomapLL, nomapL, SV.nomap, prs_nomap xs]
theorem prs_ren (σ : Nat → Nat) (l : List (Int × Int)) : renLL σ (prs l) = prs l := by rw [renLL_map]; simp [prs, renL, SV.ren]
theorem prs_rei (n : Nat) (h : Heap) (l : List (Int × Int)) : (prs l).map (fun x => x.map (rei (n + 1) h)) = prs l := by simp [prs, rei]
theorem prs_reW (σ : List Nat) (n : Nat) (h : Heap) (l : List (Int × Int)) : (prs l).map (fun x => x.map (reW σ (n + 1) h)) = prs l := by simp [prs, reW]
theorem nums_reW (k : IntKind) (σ : List Nat) (n : Nat) (h : Heap) (l : List Int) : (nums k l).map (fun x => x.map (reW σ (n + 1) h)) = nums k l := by simp [nums, reW]
theorem prs_takelen (l : List (Int × Int)) : (prs l).take l.length = prs l := List.take_of_length_le (by simp [prs])
theorem prs_append (a b : List (Int × Int)) : prs a ++ prs b = prs (a ++ b) := by simp [prs]
theorem prs_scal (l : List (Int × Int)) : ((prs l).all fun x => x.all scal) = true := by simp [prs, scal]
theorem prs_w (l : List (Int × Int)) : ∀ x ∈ prs l, x.length = 2 := by intro x hx; simp [prs] at hx; obtain ⟨_, _, _, rfl⟩ := hx; rfl
attribute [go_sem] prs_length prs_bnd prs_nold prs_nomap prs_ren prs_rei prs_reW nums_reW prs_takelen prs_scal
theorem eqTy70 : eqTy Try.prog 70 [.int .i64, .int .i64] = true := by kernel_rfl
theorem eqTy44 : eqTy Try.prog 44 [.int .i64, .int .i64] = true := by kernel_rfl
theorem same_full {α : Type} [DecidableEq α] {a b : List α} {d : α} (hl : a.length = b.length) (h : ∀ j, j < a.length → a.getD j d = b.getD j d) : a = b := by
  apply List.ext_getElem hl
  intro i h1 h2
  have := h i h1
  simpa [h1, h2] using this
theorem kSameOptions (a b : List (Int × Int)) (ha : a.length ≤ 1000000) (hb : b.length ≤ 1000000) : FSpec Try.prog 27 [.sl true (prs a), .sl true (prs b)] (.bool (decide (a = b))) [] := by
  refine FSpec.intro tab_ok Try.func27 rfl rfl rfl (by kernel_rfl) (by simp) fun w0 => ?_
  simp only [argTM, Nat.zero_add, Nat.reduceAdd]
  repeat refine IW.seq ?_
  refine IW.region_seq tab_ok [some 4] rfl fun X K hX hK => ?_
  simp only [go_sem]
  refine hK _ _ ?_; clear hX hK X K
  show IW _ _ _ _ _ _ _ _
  repeat refine IW.seq ?_
  refine IW.region_seq tab_ok [some 6, some 7, some 8, some 9, some 10] rfl fun X K hX hK => ?_
  simp only [go_sem]
  refine hK _ _ ?_; clear hX hK X K
  show IW _ _ _ _ _ _ _ _
  repeat refine IW.seq ?_
  refine IW.cond rfl (fun hb1 => ?_) (fun hb1 => ?_)
  · repeat refine IW.seq ?_
    refine IW.region_seq tab_ok [some 4] rfl fun X K hX hK => ?_
    simp only [go_sem]
    refine hK _ _ ?_; clear hX hK X K
    show IW _ _ _ _ _ _ _ _
    refine IW.ret (Fin.scal rfl rfl ?_)
    simp only [bne_iff_ne, ne_eq] at hb1
    have : a ≠ b := by rintro rfl; exact hb1 rfl
    show SV.bool false = SV.bool _
    rw [decide_eq_false this]
  · refine IW.skip ?_
    show IW _ _ _ _ _ _ _ _
    simp only [bne_eq_false_iff_eq] at hb1
    have hl : a.length = b.length := by omega
    repeat refine IW.seq ?_
    refine IW.region_seq tab_ok [some 5] rfl fun X K hX hK => ?_
    simp only [go_sem]
    refine hK _ _ ?_; clear hX hK X K
    show IW _ _ _ _ _ _ _ _
    repeat refine IW.seq ?_
    refine IW.block ?_
    refine IW.loop (α := {i : Nat // i ≤ a.length ∧ ∀ j, j < i → a.getD j (0, 0) = b.getD j (0, 0)}) (fun i => [(0, .sl true (prs a)), (1, .sl true (prs b)), (5, .int .i64 i.1)]) (fun _ => []) (fun i => a.length - i.1) ⟨0, by omega, fun j h => absurd h (by omega)⟩ ?_ fun ⟨i, hi, hp⟩ => ?_
    · refine Ent.cut ?_ ?_ <;> simp only [go_sem]
    · simp only []
      repeat refine IW.seq ?_
      refine IW.region_seq tab_ok [some 11, some 12, some 13, some 14] rfl fun X K hX hK => ?_
      simp only [go_sem]
      refine hK _ _ ?_; clear hX hK X K
      show IW _ _ _ _ _ _ _ _
      repeat refine IW.seq ?_
      refine IW.cond rfl (fun hb2 => ?_) (fun hb2 => ?_)
      · refine IW.skip ?_
        show IW _ _ _ _ _ _ _ _
        simp only [decide_eq_true_eq] at hb2
        have hlt : i < a.length := by omega
        have hlt' : i < b.length := by omega
        repeat refine IW.seq ?_
        refine IW.block ?_
        repeat refine IW.seq ?_
        refine IW.region_draw tab_ok mixed [some 17, some 18, some 19, some 20, some 21, some 22, some 23, some 24, some 25] 9 (by kernel_rfl) rfl fun Xq Xs K hXq hXs hK K1 hK1 => ?_
        simp only [go_sem, prs_at hlt, prs_at hlt']
        refine ⟨⟨by omega, by omega⟩, ⟨by omega, by omega⟩, ?_⟩
        refine hXq.quiet _ _ (OpG.of_B rfl (opB_eqAgg eqTy70 rfl rfl rfl rfl rfl)) ?_
        simp only [go_sem]
        refine hK1 _ _ ?_; clear hXq hK1 K1 Xq
        simp only [List.drop_zero, List.drop_succ_cons, go_sem]
        refine hK _ _ ?_; clear hXs hK K Xs
        show IW _ _ _ _ _ _ _ _
        repeat refine IW.seq ?_
        refine IW.cond rfl (fun hb3 => ?_) (fun hb3 => ?_)
        · repeat refine IW.seq ?_
          refine IW.region_seq tab_ok [some 4] rfl fun X K hX hK => ?_
          simp only [go_sem]
          refine hK _ _ ?_; clear hX hK X K
          show IW _ _ _ _ _ _ _ _
          refine IW.ret (Fin.scal rfl rfl ?_)
          simp only [Bool.not_eq_true', Bool.and_eq_false_iff, beq_eq_false_iff_ne, ne_eq] at hb3
          have hb3 : ¬ (a.getD i (0, 0) = b.getD i (0, 0)) := fun e => by rw [e] at hb3; simp at hb3
          show SV.bool false = SV.bool _
          rw [decide_eq_false (fun e => hb3 (by rw [e]))]
        · refine IW.skip ?_
          show IW _ _ _ _ _ _ _ _
          repeat refine IW.seq ?_
          refine IW.region_seq tab_ok [some 15, some 16, some 5] rfl fun X K hX hK => ?_
          simp only [go_sem, succ_wrap hlt (by omega)]
          refine hK _ _ ⟨⟨i + 1, hlt, fun j hj => ?_⟩, by simp only []; omega, ?_⟩
          · rcases Nat.lt_succ_iff_lt_or_eq.1 hj with h | h
            · exact hp j h
            · subst h
              simp only [Bool.not_eq_false', Bool.and_eq_true, beq_iff_eq] at hb3
              exact Prod.ext hb3.1 hb3.2
          · refine Ent.cut ?_ ?_ <;> simp only [go_sem]
      · refine IW.exit ?_
        show IW _ _ _ _ _ _ _ _
        repeat refine IW.seq ?_
        refine IW.region_seq tab_ok [some 4] rfl fun X K hX hK => ?_
        simp only [go_sem]
        refine hK _ _ ?_; clear hX hK X K
        show IW _ _ _ _ _ _ _ _
        refine IW.ret (Fin.scal rfl rfl ?_)
        simp only [decide_eq_false_iff_not] at hb2
        show SV.bool true = SV.bool _
        rw [decide_eq_true (same_full hl fun j hj => hp j (by omega))]
end Go.Proofs.Ytnbpbehlemaeoaa

set_option linter.unusedVariables false
set_option linter.unusedSimpArgs false
set_option maxRecDepth 10000
namespace Go.Proofs.Ytnbpbehlemaeoaa
open Go.IL
theorem lBig (W H : Int) (p : List Int) : FSpec Try.prog 22 [ink W H p] (.bool (decide (4000 < p.length))) [] := by
  refine FSpec.intro tab_ok Try.func22 rfl rfl rfl (by kernel_rfl) (by simp) fun w0 => ?_
  simp only [argTM, Nat.zero_add, Nat.reduceAdd]
  simp only [ink]
  repeat refine IW.seq ?_
  refine IW.region_seq tab_ok [some 1, some 2] rfl fun X K hX hK => ?_
  simp only [go_sem]
  refine hK _ _ ?_; clear hX hK X K
  show IW _ _ _ _ _ _ _ _
  repeat refine IW.seq ?_
  refine IW.region_seq tab_ok [some 3, some 4, some 5, some 6, some 2] rfl fun X K hX hK => ?_
  simp only [go_sem]
  refine hK _ _ ?_; clear hX hK X K
  show IW _ _ _ _ _ _ _ _
  refine IW.ret (Fin.scal rfl rfl ?_)
  show SV.bool _ = SV.bool _
  congr 1
  by_cases h : 4000 < p.length
  · rw [decide_eq_true h, decide_eq_true (by omega)]
  · rw [decide_eq_false h, decide_eq_false (by omega)]
/-- A list of numbers that a call has made: nil or empty, or a row. -/
def lsSV (k : IntKind) (p : List Int) : SV := if p = [] then .sl false [] else .ref 0 0 p.length
def lsRows (k : IntKind) (e : TypeId) (p : List Int) : List Row := if p = [] then [] else [⟨1, e, nums k p⟩]
/-- What is told of a result may be less. -/
theorem FSpec.weak {f : FuncId} {args : List SV} {sv sv' : SV} {rows : List Row} (h : FSpec Try.prog f args sv rows) (hv : ∀ (ρ : Rho) (F : Nat → Prop) (w : World) (v : Value), VRel ρ (fun _ => False) F w sv v → VRel ρ (fun _ => False) F w sv' v) : FSpec Try.prog f args sv' rows :=
  ⟨h.1, fun w cargs hA => (h.2 w cargs hA).mono fun e w' hp => by
    obtain ⟨v, ρ, F, h1, h2, h3, h4, h5, h6, h7⟩ := hp
    exact ⟨v, ρ, F, h1, h2, h3, h4, h5, h6, hv _ _ _ _ h7⟩⟩
theorem FSpec.drop {f : FuncId} {args : List SV} {sv sv' : SV} {rows : List Row} (h : FSpec Try.prog f args sv rows) (hv : ∀ (ρ : Rho) (F : Nat → Prop) (w : World) (v : Value), VRel ρ (fun _ => False) F w sv v → VRel (fun _ => none) (fun _ => False) F w sv' v) : FSpec Try.prog f args sv' [] :=
  ⟨h.1, fun w cargs hA => (h.2 w cargs hA).mono fun e w' hp => by
    obtain ⟨v, ρ, F, h1, h2, h3, h4, h5, h6, h7⟩ := hp
    exact ⟨v, fun _ => none, F, h1, h2, ⟨fun id r ri e => by simp at e, fun id id' r r' ri ri' e => by simp at e, h3.lt⟩, h4, fun id ri e => (by cases e), fun _ _ => rfl, hv _ _ _ _ h7⟩⟩
theorem nils_sl {ρ : Rho} {O F : Nat → Prop} {w : World} {v : Value} (h : VRel ρ O F w .nils v) : VRel (fun _ => none) O F w (.sl false []) v := by
  cases h
  exact .sl false [] none 0 0 (fun _ _ => undef) (by simp) (by simp) (by simp) (by simp) (by simp)
theorem ref0_sl {ρ : Rho} {O F : Nat → Prop} {w : World} {v : Value} {id off : Nat} (h : VRel ρ O F w (.ref id off 0) v) : VRel (fun _ => none) O F w (.sl false []) v := by
  cases h with
  | ref _ _ _ cap ri _ h1 h2 h3 => exact .sl false [] _ cap 0 (fun _ _ => undef) (by simp) (by simp) h3 (by simp) (by simp)
attribute [go_sem] Go.IL.opB_append0
theorem elem31 : (tab 31).shape = .slice 5 := rfl
theorem fClone (l : List Int) (hl : l.length ≤ 1000000) : FSpec Try.prog 62 [.sl true (nums .u8 l)] (lsSV .u8 l) (lsRows .u8 5 l) := by
  cases l with
  | nil =>
    suffices h : ∀ a c, c ≤ 9223372036854775807 → FSpec Try.prog 62 [.raw (.slice a 0 c)] (.sl false []) [] from
      ⟨(h none 0 (by omega)).1, fun w cargs hA => by
        have h1 : cargs.size = 1 := hA.1.symm
        have h2 := hA.2 0 (.sl true []) cargs[0] rfl (by simp [h1])
        generalize hc : cargs[0] = v at h2
        cases h2 with
        | sl _ _ a cap k cs _ _ hm =>
          refine (h a cap hm).2 w cargs ⟨hA.1, fun i s v e1 e2 => ?_⟩
          cases i with
          | zero =>
            simp at e1; subst e1
            have : cargs[0]? = some (.slice a 0 cap) := by simp [h1, hc]
            rw [this] at e2; cases e2
            exact .raw _
          | succ i => simp at e1⟩
    intro a c hc
    cases a with
    | none =>
      refine FSpec.drop (sv := .nils) (rows := []) ?_ fun ρ F w v h => nils_sl h
      refine FSpec.intro tab_ok Try.func62 rfl rfl rfl (by kernel_rfl) (by simp) fun w0 => ?_
      simp only [argTM, Nat.zero_add, Nat.reduceAdd]
      repeat refine IW.seq ?_
      refine IW.region_seq tab_ok [some 2] rfl fun X K hX hK => ?_
      simp only [go_sem]
      refine hK _ _ ?_; clear hX hK X K
      show IW _ _ _ _ _ _ _ _
      repeat refine IW.seq ?_
      refine IW.region_seq tab_ok [some 3, some 4] rfl fun X K hX hK => ?_
      simp only [go_sem]
      refine hX.quiet _ _ (OpG.of_B rfl (opB_isNil tab_ok elem31 rfl rfl)) ?_
      simp only [go_sem, Option.isNone_none]
      refine hK _ _ ?_; clear hX hK X K
      show IW _ _ _ _ _ _ _ _
      repeat refine IW.seq ?_
      refine IW.cond rfl (fun hb => ?_) (fun hb => absurd hb (by decide))
      repeat refine IW.seq ?_
      refine IW.region_seq tab_ok [some 2] rfl fun X K hX hK => ?_
      simp only [go_sem]
      refine hK _ _ ?_; clear hX hK X K
      show IW _ _ _ _ _ _ _ _
      refine IW.ret (Fin.scal rfl rfl ?_)
      rfl
    | some a =>
      refine FSpec.drop (sv := .ref 0 0 0) (rows := [⟨1, 5, []⟩]) ?_ fun ρ F w v h => ref0_sl h
      refine FSpec.intro tab_ok Try.func62 rfl rfl rfl (by kernel_rfl) (by simp) fun w0 => ?_
      simp only [argTM, Nat.zero_add, Nat.reduceAdd]
      repeat refine IW.seq ?_
      refine IW.region_seq tab_ok [some 2] rfl fun X K hX hK => ?_
      simp only [go_sem]
      refine hK _ _ ?_; clear hX hK X K
      show IW _ _ _ _ _ _ _ _
      repeat refine IW.seq ?_
      refine IW.region_seq tab_ok [some 3, some 4] rfl fun X K hX hK => ?_
      simp only [go_sem]
      refine hX.quiet _ _ (OpG.of_B rfl (opB_isNil tab_ok elem31 rfl rfl)) ?_
      simp only [go_sem, Option.isNone_some]
      refine hK _ _ ?_; clear hX hK X K
      show IW _ _ _ _ _ _ _ _
      repeat refine IW.seq ?_
      refine IW.cond rfl (fun hb => absurd hb (by decide)) (fun hb => ?_)
      refine IW.skip ?_
      show IW _ _ _ _ _ _ _ _
      repeat refine IW.seq ?_
      refine IW.region_seq tab_ok [some 5, some 6, some 7, some 2] rfl fun X K hX hK => ?_
      simp only [go_sem]
      refine hX.quiet _ _ (OpG.of_B rfl (opB_buildSlice tab_ok rfl (by simp [go_sem]) (by simp [go_sem]) (by simp) (by simp [go_sem, bsO, List.map_cons, List.map_nil]))) ?_
      simp only [go_sem, List.map_cons, List.map_nil]
      refine hX.quiet _ _ (OpG.of_B rfl (opB_append0 tab_ok trivial trivial rfl rfl)) ?_
      simp only [go_sem]
      refine hK _ _ ?_; clear hX hK X K
      show IW _ _ _ _ _ _ _ _
      refine IW.ret (Fin.tmp1 0 rfl (by simp [go_sem]) (by first | (simp [go_sem]; done) | simp [go_sem, nums]) (by first | (simp [go_sem]; done) | simp [go_sem, nums]))
  | cons x l =>
    show FSpec Try.prog 62 _ (.ref 0 0 (x :: l).length) [⟨1, 5, nums .u8 (x :: l)⟩]
    refine FSpec.intro tab_ok Try.func62 rfl rfl rfl (by kernel_rfl) (by simp) fun w0 => ?_
    simp only [argTM, Nat.zero_add, Nat.reduceAdd]
    repeat refine IW.seq ?_
    refine IW.region_seq tab_ok [some 2] rfl fun X K hX hK => ?_
    simp only [go_sem]
    refine hK _ _ ?_; clear hX hK X K
    show IW _ _ _ _ _ _ _ _
    repeat refine IW.seq ?_
    refine IW.region_seq tab_ok [some 3, some 4] rfl fun X K hX hK => ?_
    simp only [go_sem]
    refine hX.quiet _ _ (OpG.of_B rfl (opB_isNil tab_ok elem31 rfl rfl)) ?_
    simp only [go_sem]
    refine hK _ _ ?_; clear hX hK X K
    show IW _ _ _ _ _ _ _ _
    repeat refine IW.seq ?_
    refine IW.cond rfl (fun hb => absurd hb (by decide)) (fun hb => ?_)
    refine IW.skip ?_
    show IW _ _ _ _ _ _ _ _
    repeat refine IW.seq ?_
    refine IW.region_seq tab_ok [some 5, some 6, some 7, some 2] rfl fun X K hX hK => ?_
    simp only [go_sem]
    refine hX.quiet _ _ (OpG.of_B rfl (opB_buildSlice tab_ok rfl (by simp [go_sem]) (by simp [go_sem]) (by simp) (by simp [go_sem, bsO, List.map_cons, List.map_nil]))) ?_
    simp only [go_sem, List.map_cons, List.map_nil]
    have hpos : 0 < (x :: l).length := by simp
    generalize hxs : x :: l = xs at *
    refine hX.op _ _ rfl (opS_append tab_ok (ys := nums .u8 xs) rfl (by simp [go_sem, nums_length]) rfl (by simp [go_sem, nums_length]; try omega) rfl (by simp [go_sem]) (by simp [go_sem]) (by simp [go_sem, nums_length]) rfl rfl rfl (by first | exact nums_w _ _ | exact prs_w _ | simp [go_sem, nums]) (by simp [go_sem]) (by simp [go_sem]; omega) (by simp [go_sem]; omega) (by intro d e; cases e; decide)) ?_
    simp only [go_sem, List.length_cons, List.length_nil, nums_length]
    refine hK _ _ ?_; clear hX hK X K
    show IW _ _ _ _ _ _ _ _
    refine IW.ret (Fin.tmp1 1 rfl (by simp [go_sem]) (by first | (simp [go_sem]; done) | simp [go_sem, nums]) (by first | (simp [go_sem]; done) | simp [go_sem, nums]))
end Go.Proofs.Ytnbpbehlemaeoaa

set_option linter.unusedVariables false
set_option linter.unusedSimpArgs false
set_option maxRecDepth 10000
namespace Go.Proofs.Ytnbpbehlemaeoaa
open Go.IL
/-- A list that a call has made, of n elements, in row id: where there are none it may be nil. -/
def lsV (id n : Nat) : SV := match n with | 0 => .sl false [] | n + 1 => .ref id 0 (n + 1)
theorem lsV_ne {id n : Nat} (h : 0 < n) : lsV id n = .ref id 0 n := by cases n with | zero => omega | succ n => rfl
theorem lsV_ren (σ : Nat → Nat) (id n : Nat) : (lsV id n).ren σ = lsV (σ id) n := by cases n <;> simp [lsV, SV.ren, renLL]
theorem lsV_nold (id n : Nat) : (lsV id n).nold = true := by cases n <;> simp [lsV, SV.nold, noldLL]
theorem lsV_bnd {id n m : Nat} (h : id < m) : (lsV id n).bnd m = true := by cases n <;> simp [lsV, SV.bnd, bndLL, h]
theorem lsV_nomap (id n : Nat) : (lsV id n).nomap = true := by cases n <;> simp [lsV, SV.nomap, nomapLL]
theorem lsV_scal (id n : Nat) : scal (lsV id n) = true := by cases n <;> rfl
theorem lsV_cells (id n : Nat) : (lsV id n).cells = [lsV id n] := by cases n <;> rfl
theorem lsV_len (id n : Nat) : lenV (lsV id n) = .int .i64 n := by cases n <;> simp [lsV, lenV]
theorem lsV_lenO (ti : TI) (id n : Nat) : lenO ti (lsV id n) = (match ti.shape with | .slice _ => True | _ => False) := by cases n <;> rfl
theorem lsV_rei {n m id : Nat} {h : Heap} (hl : (rowXs h id).length = n) (hs : (hrow h id).isSome = true) : rei (m + 1) h (lsV id n) = .sl true ((rowXs h id).map fun x => x.map (rei m h)) := by
  cases n with
  | zero => have : rowXs h id = [] := List.length_eq_zero_iff.1 hl
            simp [lsV, rei, this]
  | succ n => simp only [lsV, rei]
              rw [if_pos ⟨by omega, hs⟩, List.drop_zero, List.take_of_length_le (by omega)]
theorem lsV_nz (id n : Nat) : nz (lsV id n) = lsV id n := by cases n <;> rfl
theorem nz_agg_ls (a b : SV) (id n : Nat) : nz (.agg [a, b, lsV id n]) = .agg [a, b, lsV id n] := by cases n <;> rfl
theorem rel_ls {ρ : Rho} {O F : Nat → Prop} {w : World} {v : Value} {id n : Nat} (h : VRel ρ O F w (.ref id 0 n) v) : VRel ρ O F w (lsV id n) v := by
  cases n with
  | zero => exact (ref0_sl h).mono (fun _ _ e => by cases e) fun _ _ h => ⟨h, rfl⟩
  | succ n => exact h
theorem rel_ls_nil {ρ : Rho} {O F : Nat → Prop} {w : World} {v : Value} {id : Nat} (h : VRel ρ O F w .nils v) : VRel ρ O F w (lsV id 0) v := (nils_sl h).mono (fun _ _ e => by cases e) fun _ _ h => ⟨h, rfl⟩
theorem rel_agg3 {ρ ρ' : Rho} {O F : Nat → Prop} {w : World} {v : Value} {a b c c' : SV} (ha : ∀ v, VRel ρ O F w a v → VRel ρ' O F w a v) (hb : ∀ v, VRel ρ O F w b v → VRel ρ' O F w b v) (hc : ∀ v, VRel ρ O F w c v → VRel ρ' O F w c' v) (h : VRel ρ O F w (.agg [a, b, c]) v) : VRel ρ' O F w (.agg [a, b, c']) v := by
  cases h with
  | agg _ vs hl hh =>
    refine .agg _ vs (by simpa using hl) fun i x u e1 e2 => ?_
    match i, e1 with
    | 0, e1 => cases e1; exact ha _ (hh 0 _ u rfl e2)
    | 1, e1 => cases e1; exact hb _ (hh 1 _ u rfl e2)
    | 2, e1 => cases e1; exact hc _ (hh 2 _ u rfl e2)
    | i + 3, e1 => simp at e1
theorem int_any {ρ ρ' : Rho} {O F O' F' : Nat → Prop} {w w' : World} {k : IntKind} {n : Int} {v : Value} (h : VRel ρ O F w (.int k n) v) : VRel ρ' O' F' w' (.int k n) v := by cases h; exact .int _ _
/-- A row that nothing leads to may be told. -/
theorem FSpec.ghost {f : FuncId} {args : List SV} {sv sv' : SV} {r : Row} (h : FSpec Try.prog f args sv []) (hv : ∀ (F : Nat → Prop) (w : World) (v : Value), VRel (fun _ => none) (fun _ => False) F w sv v → VRel (fun _ => none) (fun _ => False) F w sv' v) : FSpec Try.prog f args sv' [r] :=
  ⟨h.1, fun w cargs hA => (h.2 w cargs hA).mono fun e w' hp => by
    obtain ⟨v, ρ, F, h1, h2, h3, h4, h5, h6, h7⟩ := hp
    have hρ : ρ = fun _ => none := funext fun id => h6 id (Nat.zero_le _)
    subst hρ
    exact ⟨v, fun _ => none, F, h1, h2, ⟨fun id r ri _ e => (by cases e), fun id id' r r' ri ri' _ _ e => (by cases e), h3.lt⟩, h4, fun id ri e => (by cases e), fun _ _ => rfl, hv _ _ _ h7⟩⟩
/-- An image that a call gives back. -/
def resI (W H : Int) (p : List Int) : SV := .agg [.int .i64 W, .int .i64 H, lsV 0 p.length]
def resR (p : List Int) : List Row := [⟨1, 5, nums .u8 p⟩]
attribute [go_sem ↓ high] lsV_ren lsV_nold lsV_bnd lsV_nomap lsV_scal lsV_cells lsV_len lsV_lenO lsV_rei lsV_nz nz_agg_ls
theorem res_ref {f : FuncId} {args : List SV} {W H : Int} {p : List Int} (h : FSpec Try.prog f args (.agg [.int .i64 W, .int .i64 H, .ref 0 0 p.length]) (resR p)) : FSpec Try.prog f args (resI W H p) (resR p) :=
  FSpec.weak h fun ρ F w v h => rel_agg3 (fun _ h => h) (fun _ h => h) (fun _ h => rel_ls h) h
theorem res_nil {f : FuncId} {args : List SV} {W H : Int} (h : FSpec Try.prog f args (.agg [.int .i64 W, .int .i64 H, .nils]) []) : FSpec Try.prog f args (resI W H []) (resR []) :=
  FSpec.ghost h fun F w v h => rel_agg3 (fun _ h => h) (fun _ h => h) (fun _ h => rel_ls_nil h) h
def imgW : Img → Int | none => 0 | some (w, _, _) => w
def imgH : Img → Int | none => 0 | some (_, h, _) => h
def imgP : Img → List Int | none => [] | some (_, _, p) => p
theorem res_img {f : FuncId} {args : List SV} {r : Img} (h : FSpec Try.prog f args (imgSV r) (imgRows r)) : FSpec Try.prog f args (resI (imgW r) (imgH r) (imgP r)) (resR (imgP r)) := by
  cases r with
  | none => exact res_nil h
  | some r => exact res_ref h
theorem ls_nums {f : FuncId} {args : List SV} {k : IntKind} {e : TypeId} {p : List Int} (h : FSpec Try.prog f args (lsSV k p) (lsRows k e p)) : FSpec Try.prog f args (lsV 0 p.length) [⟨1, e, nums k p⟩] := by
  cases p with
  | nil => exact FSpec.ghost (r := ⟨1, e, nums k []⟩) h fun F w v h => h
  | cons x p => exact FSpec.weak h fun ρ F w v h => h
end Go.Proofs.Ytnbpbehlemaeoaa

set_option linter.unusedVariables false
set_option linter.unusedSimpArgs false
set_option maxRecDepth 10000
namespace Go.Proofs.Ytnbpbehlemaeoaa
open Go.IL
/-- The pixels of row y, the first n columns, that lie in a rectangle; those of the first m rows. -/
def ptRow (RX RY RW RH : Int) (y n : Nat) : List (Int × Int) := ((List.range n).filter fun (x : Nat) => insF x RX RW && insF y RY RH).map fun (x : Nat) => ((x : Int), (y : Int))
def ptRows (W : Nat) (RX RY RW RH : Int) (m : Nat) : List (Int × Int) := (List.range m).flatMap fun y => ptRow RX RY RW RH y W
theorem ptRow_succ (RX RY RW RH : Int) (y n : Nat) : ptRow RX RY RW RH y (n + 1) = ptRow RX RY RW RH y n ++ (if insF n RX RW && insF y RY RH then [((n : Int), (y : Int))] else []) := by
  unfold ptRow
  rw [List.range_succ, List.filter_append, List.map_append]
  congr 1
  cases h : insF n RX RW && insF y RY RH <;> simp [h]
theorem ptRows_succ (W : Nat) (RX RY RW RH : Int) (m : Nat) : ptRows W RX RY RW RH (m + 1) = ptRows W RX RY RW RH m ++ ptRow RX RY RW RH m W := by
  unfold ptRows
  rw [List.range_succ, List.flatMap_append]
  simp
theorem ptRow_pre (RX RY RW RH : Int) (y : Nat) {n m : Nat} (h : n ≤ m) : ∃ r, ptRow RX RY RW RH y m = ptRow RX RY RW RH y n ++ r := by
  induction m with
  | zero => obtain rfl : n = 0 := by omega
            exact ⟨[], by simp⟩
  | succ m ih =>
    by_cases e : n = m + 1
    · subst e; exact ⟨[], by simp⟩
    · obtain ⟨r, hr⟩ := ih (by omega)
      exact ⟨r ++ _, by rw [ptRow_succ, hr, List.append_assoc]⟩
theorem ptRows_pre (W : Nat) (RX RY RW RH : Int) {n m : Nat} (h : n ≤ m) : ∃ r, ptRows W RX RY RW RH m = ptRows W RX RY RW RH n ++ r := by
  induction m with
  | zero => obtain rfl : n = 0 := by omega
            exact ⟨[], by simp⟩
  | succ m ih =>
    by_cases e : n = m + 1
    · subst e; exact ⟨[], by simp⟩
    · obtain ⟨r, hr⟩ := ih (by omega)
      exact ⟨r ++ _, by rw [ptRows_succ, hr, List.append_assoc]⟩
def ptV (p : Int × Int) : Value := .agg #[.int .i64 p.1, .int .i64 p.2]
theorem ptV_of {ρ : Rho} {O F : Nat → Prop} {w : World} {a b : Int} {v : Value} (h : VRel ρ O F w (.agg [.int .i64 a, .int .i64 b]) v) : v = ptV (a, b) := by
  cases h with
  | agg _ vs hl hh =>
    obtain ⟨l⟩ := vs
    match l, hl with
    | [x, y], _ =>
      have h1 := hh 0 _ x rfl rfl
      have h2 := hh 1 _ y rfl rfl
      cases h1; cases h2; rfl
theorem ptV_rel (p : Int × Int) (ρ : Rho) (O F : Nat → Prop) (w : World) : VRel ρ O F w (.agg [.int .i64 p.1, .int .i64 p.2]) (ptV p) := by
  refine .agg _ _ rfl fun i c v e1 e2 => ?_
  match i, e1, e2 with
  | 0, e1, e2 => cases e1; cases e2; exact .int _ _
  | 1, e1, e2 => cases e1; cases e2; exact .int _ _
  | i + 2, e1, e2 => simp at e1
def I64 (n : Int) : Prop := -9223372036854775808 ≤ n ∧ n ≤ 9223372036854775807
/-- The pixels of a rectangle that are in the image, row by row. -/
theorem fPoints (W H : Nat) (RX RY RW RH : Int) (hW : W ≤ 1000000) (hH : H ≤ 1000000) (hRX : I64 RX) (hRY : I64 RY) (hRW : I64 RW) (hRH : I64 RH) :
    SeqOf Try.prog 80 [.ptr 0 0 0, .ptr 1 0 0] [⟨3, 90, [[.int .i64 W, .int .i64 H, .any]]⟩, ⟨4, 56, [[.int .i64 RX, .int .i64 RY, .int .i64 RW, .int .i64 RH]]⟩] ptV (fun ys => ys = ptRows W RX RY RW RH H) := by
  refine SeqOf.intro Try.func80 rfl rfl rfl (by kernel_rfl) (by simp) fun l J ρ S hJ hwalk hy => ?_
  simp only [argTM, Nat.zero_add, Nat.reduceAdd]
  repeat refine IWJ.seq ?_
  refine IWJ.region hJ tab_ok [some 6, some 7, some 8, some 9] rfl fun X K hX hK => ?_
  simp only [go_sem]
  refine hK _ _ ?_; clear hX hK X K
  show IWJ _ _ _ _ _ _ _ _
  simp only [kpT, kp, SV.det, detL, cond_true, decide_true, go_sem]
  refine IWJ.block ?_
  refine IWJ.loop (β := {y : Nat // y ≤ H}) (fun y => [(0, .raw (.func (.yield l) #[] #[])), (1, .ptr 0 0 0), (2, .ptr 1 0 0), (8, .int .i64 H), (9, .int .i64 y.1)]) (fun y => ptRows W RX RY RW RH y.1) (fun y => H - y.1) ⟨0, by omega⟩ ?_ ?_ fun ⟨y, hyH⟩ => ?_
  · simp only [subJ, kpT, kp, SV.det, detL, cond_true, decide_true, go_sem, cast0]
  · rfl
  · simp only []
    repeat refine IWJ.seq ?_
    refine IWJ.region hJ tab_ok [some 10] rfl fun X K hX hK => ?_
    simp only [go_sem]
    refine hK _ _ ?_; clear hX hK X K
    show IWJ _ _ _ _ _ _ _ _
    simp only [kpT, kp, SV.det, detL, cond_true, decide_true, go_sem]
    repeat refine IWJ.seq ?_
    refine IWJ.cond rfl (fun hb1 => ?_) (fun hb1 => ?_)
    · refine IWJ.skip ?_
      show IWJ _ _ _ _ _ _ _ _
      simp only [decide_eq_true_eq] at hb1
      have hyl : y < H := by omega
      refine IWJ.seq (IWJ.block ?_)
      repeat refine IWJ.seq ?_
      refine IWJ.region hJ tab_ok [some 11, some 4] rfl fun X K hX hK => ?_
      simp only [go_sem]
      refine hK _ _ ?_; clear hX hK X K
      show IWJ _ _ _ _ _ _ _ _
      simp only [kpT, kp, SV.det, detL, cond_true, decide_true, go_sem]
      repeat refine IWJ.seq ?_
      refine IWJ.region hJ tab_ok [some 12, some 13, some 14, some 15] rfl fun X K hX hK => ?_
      simp only [go_sem]
      refine hK _ _ ?_; clear hX hK X K
      show IWJ _ _ _ _ _ _ _ _
      simp only [kpT, kp, SV.det, detL, cond_true, decide_true, go_sem]
      refine IWJ.block ?_
      refine IWJ.loop (β := {x : Nat // x ≤ W}) (fun x => [(0, .raw (.func (.yield l) #[] #[])), (1, .ptr 0 0 0), (2, .ptr 1 0 0), (4, .int .i64 y), (8, .int .i64 H), (9, .int .i64 y), (14, .int .i64 W), (15, .int .i64 x.1)]) (fun x => ptRows W RX RY RW RH y ++ ptRow RX RY RW RH y x.1) (fun x => W - x.1) ⟨0, by omega⟩ ?_ ?_ fun ⟨x, hxW⟩ => ?_
      · simp only [subJ, kpT, kp, SV.det, detL, cond_true, decide_true, go_sem, cast0]
      · simp [ptRow]
      · simp only []
        repeat refine IWJ.seq ?_
        refine IWJ.region hJ tab_ok [some 16] rfl fun X K hX hK => ?_
        simp only [go_sem]
        refine hK _ _ ?_; clear hX hK X K
        show IWJ _ _ _ _ _ _ _ _
        simp only [kpT, kp, SV.det, detL, cond_true, decide_true, go_sem]
        repeat refine IWJ.seq ?_
        refine IWJ.cond rfl (fun hb2 => ?_) (fun hb2 => ?_)
        · refine IWJ.skip ?_
          show IWJ _ _ _ _ _ _ _ _
          simp only [decide_eq_true_eq] at hb2
          have hxl : x < W := by omega
          refine IWJ.seq (IWJ.block ?_)
          repeat refine IWJ.seq ?_
          refine IWJ.region hJ tab_ok [some 17, some 5] rfl fun X K hX hK => ?_
          simp only [go_sem]
          refine hK _ _ ?_; clear hX hK X K
          show IWJ _ _ _ _ _ _ _ _
          simp only [kpT, kp, SV.det, detL, cond_true, decide_true, go_sem]
          have hin := fInside x RX RW (by omega) hRX hRW
          have hin2 := fInside y RY RH (by omega) hRY hRH
          have hrow := ptRow_succ RX RY RW RH y x
          repeat refine IWJ.seq ?_
          refine IWJ.region_yield hJ tab_ok [some 18, some 19, some 20, some 21, some 22, some 23, some 24, some 25, some 26, some 27, some 28, some 29, some 30, some 31, some 32, some 33, some 34, some 35, some 36, some 37, some 38, some 39] rfl (m := 19) (d := 37) (t0 := 33) (tx := 36) (jg := 14) (dg := 32) (l := l) (x := ((x : Int), (y : Int))) (xv := ptV) (g := insF x RX RW && insF y RY RH) rfl rfl rfl rfl rfl ?_ fun X K hX hK => ?_
          · intro hg A hA
            refine hy _ _ A ?_ hA
            obtain ⟨r1, h1⟩ := ptRow_pre RX RY RW RH y (show x + 1 ≤ W from hxl)
            obtain ⟨r2, h2⟩ := ptRows_pre W RX RY RW RH (show y + 1 ≤ H from hyl)
            refine ⟨r1 ++ r2, ?_⟩
            rw [h2, ptRows_succ, h1, hrow, if_pos hg]
            simp
          · simp only [go_sem]
            refine hX.quiet _ _ (OpG.of_B rfl (opB_call rfl rfl (FSpec.nz (hin) (by simp [go_sem, List.map_cons, List.map_nil, List.append_nil, opnd, unc])))) ?_
            simp only [go_sem]
            refine hX.quiet _ _ (OpG.of_BG rfl rfl rfl (by first | (simp only [go_sem]; done) | (simp [go_sem] <;> (intros; simp_all))) fun hc => opB_call rfl rfl (FSpec.nz (hin2) (by simp [go_sem, List.map_cons, List.map_nil, List.append_nil, opnd, unc]))) ?_
            simp only [go_sem]
            refine hK _ _ ?_; clear hX hK X K
            refine ⟨?_, ?_, ?_⟩
            · simp only [go_sem]
            · intro hg
              simp only [hg, go_sem]
              intro ρ O F w v hv
              cases hv with
              | cnd _ _ _ h1 _ => exact ptV_of (h1 rfl)
            · intro X K hX hK
              simp only [kpT, kp, SV.det, detL, decide_true, List.drop_zero, go_sem]
              simp only [Bool.and_false]
              refine hK _ _ ?_; clear hX hK X K
              show IWJ _ _ _ _ _ _ _ _
              simp only [kpT, kp, SV.det, detL, decide_true, cond_true, go_sem]
              refine IWJ.cond rfl (fun hb => absurd hb (by decide)) (fun _ => ?_)
              refine IWJ.skip ?_
              show IWJ _ _ _ _ _ _ _ _
              repeat refine IWJ.seq ?_
              refine IWJ.region hJ tab_ok [some 40, some 15] rfl fun X K hX hK => ?_
              simp only [go_sem, succ_wrap hxl (by omega)]
              refine hK _ _ ⟨⟨x + 1, hxl⟩, by simp only []; omega, ?_, ?_⟩
              · simp only [subJ, kpT, kp, SV.det, detL, cond_true, decide_true, go_sem]
              · simp only [hrow]
                cases insF x RX RW && insF y RY RH <;> simp
        · refine IWJ.exit ?_
          show IWJ _ _ _ _ _ _ _ _
          simp only [decide_eq_false_iff_not] at hb2
          have hx : x = W := by omega
          subst hx
          repeat refine IWJ.seq ?_
          refine IWJ.region hJ tab_ok [some 41, some 9] rfl fun X K hX hK => ?_
          simp only [go_sem, succ_wrap hyl (by omega)]
          refine hK _ _ ⟨⟨y + 1, hyl⟩, by simp only []; omega, ?_, ?_⟩
          · simp only [subJ, kpT, kp, SV.det, detL, cond_true, decide_true, go_sem]
          · exact (ptRows_succ _ _ _ _ _ _).symm
    · refine IWJ.exit ?_
      simp only [decide_eq_false_iff_not] at hb1
      have : y = H := by omega
      subst this
      exact ⟨.inl rfl, rfl⟩
end Go.Proofs.Ytnbpbehlemaeoaa

set_option linter.unusedVariables false
set_option linter.unusedSimpArgs false
set_option maxRecDepth 10000
namespace Go.Proofs.Ytnbpbehlemaeoaa
open Go.IL
theorem iPoints0 (W H X0 Y0 RW RH : Int) (a : Option Addr) (n c : Nat) : FSpec Try.prog 63 [.agg [.int .i64 W, .int .i64 H, .raw (.slice a n c)], .agg [.int .i64 X0, .int .i64 Y0, .int .i64 RW, .int .i64 RH]]
    (.clo 80 [.ptr 0 0 0, .ptr 1 0 0]) [⟨3, 90, [[.int .i64 W, .int .i64 H, .raw (.slice a n c)]]⟩, ⟨4, 56, [[.int .i64 X0, .int .i64 Y0, .int .i64 RW, .int .i64 RH]]⟩] := by
  refine FSpec.intro tab_ok Try.func63 rfl rfl rfl (by kernel_rfl) (by simp) fun w0 => ?_
  simp only [argTM, Nat.zero_add, Nat.reduceAdd]
  repeat refine IW.seq ?_
  refine IW.region_seq tab_ok [some 2, some 3, some 4] rfl fun X K hX hK => ?_
  simp only [go_sem]
  refine hK _ _ ?_; clear hX hK X K
  show IW _ _ _ _ _ _ _ _
  repeat refine IW.seq ?_
  refine IW.region_seq tab_ok [some 5, some 4] rfl fun X K hX hK => ?_
  simp only [go_sem]
  refine hK _ _ ?_; clear hX hK X K
  show IW _ _ _ _ _ _ _ _
  refine IW.ret ⟨⟨trivial, trivial⟩, rfl, rfl, [0, 1], rfl, by decide, ?_, ?_⟩
  · simp [go_sem, resAll, resSV]
  · simp [go_sem, subH]
/-- It is a slice. -/
def isSlc (c : SV) : Prop := ∀ (ρ : Rho) (O F : Nat → Prop) (w : World) (u : Value), VRel ρ O F w c u → ∃ a n k, u = .slice a n k
theorem isSlc_ls (id n : Nat) : isSlc (lsV id n) := fun ρ O F w u h => by
  cases n <;> (cases h; exact ⟨_, _, _, rfl⟩)
theorem rel_4i {ρ ρ' : Rho} {O F O' F' : Nat → Prop} {w w' : World} {a b c d : Int} {v : Value} (h : VRel ρ O F w (.agg [.int .i64 a, .int .i64 b, .int .i64 c, .int .i64 d]) v) : VRel ρ' O' F' w' (.agg [.int .i64 a, .int .i64 b, .int .i64 c, .int .i64 d]) v := by
  cases h with
  | agg _ us hl hh =>
    refine .agg _ us hl fun i s u e1 e2 => ?_
    match i, e1 with
    | 0, e1 => cases e1; exact int_any (hh 0 _ u rfl e2)
    | 1, e1 => cases e1; exact int_any (hh 1 _ u rfl e2)
    | 2, e1 => cases e1; exact int_any (hh 2 _ u rfl e2)
    | 3, e1 => cases e1; exact int_any (hh 3 _ u rfl e2)
    | i + 4, e1 => simp at e1
theorem opPoints {dst : Option Nat} {x y : Operand} {ats : Array TypeId} {ty : TypeId} {pos : String} {after : Array Edge} {guard : Option (Nat × Bool)} {g : Operand → SV} {h : Heap} {W H X0 Y0 RW RH : Int} {c : SV}
    (hx : g x = .agg [.int .i64 W, .int .i64 H, c]) (hc : isSlc c) (hy : g y = .agg [.int .i64 X0, .int .i64 Y0, .int .i64 RW, .int .i64 RH]) :
    OpB Try.prog ⟨dst, .call ⟨.value (.func 63), #[x, y], ats⟩, ty, pos, after, guard⟩ g h ((SV.clo 80 [.ptr 0 0 0, .ptr 1 0 0]).ren (h.length + ·))
      [some ⟨3, 90, [[.int .i64 W, .int .i64 H, .any]]⟩, some ⟨4, 56, [[.int .i64 X0, .int .i64 Y0, .int .i64 RW, .int .i64 RH]]⟩] := by
  refine opB_callV _ fun ρ O F w vs hl hr => ?_
  match vs, hl with
  | [v, u], _ =>
    have hv := hr 0 x v rfl rfl
    have hu := hr 1 y u rfl rfl
    rw [hx] at hv; rw [hy] at hu
    have hv' : ∃ a n k, v = .agg #[.int .i64 W, .int .i64 H, .slice a n k] := by
      cases hv with
      | agg _ us hl hh =>
        obtain ⟨l⟩ := us
        match l, hl with
        | [a, b, d], _ =>
          have h0 := hh 0 _ a rfl rfl
          have h1 := hh 1 _ b rfl rfl
          obtain ⟨q, n, k, rfl⟩ := hc _ _ _ _ _ (hh 2 _ d rfl rfl)
          cases h0; cases h1
          exact ⟨q, n, k, rfl⟩
    obtain ⟨a, n, k, rfl⟩ := hv'
    refine ⟨[.agg [.int .i64 W, .int .i64 H, .raw (.slice a n k)], .agg [.int .i64 X0, .int .i64 Y0, .int .i64 RW, .int .i64 RH]], _, iPoints0 W H X0 Y0 RW RH a n k, rfl, ?_, rfl, ?_⟩
    · intro i s v' ρ' O' F' w' e1 e2
      match i, e1, e2 with
      | 0, e1, e2 =>
        cases e1; cases e2
        refine .agg _ _ rfl fun i c v e1 e2 => ?_
        match i, e1, e2 with
        | 0, e1, e2 => cases e1; cases e2; exact .int _ _
        | 1, e1, e2 => cases e1; cases e2; exact .int _ _
        | 2, e1, e2 => cases e1; cases e2; exact .raw _
        | i + 3, e1, e2 => simp at e1
      | 1, e1, e2 =>
        cases e1; cases e2
        exact rel_4i hu
      | i + 2, e1, e2 => simp at e1
    · intro ρ' F' w' _ hs
      refine hs.retell rfl fun i r' e => ?_
      match i, e with
      | 0, e =>
        cases e
        refine ⟨_, rfl, rfl, rfl, rfl, by simp, fun i j x' y' e1 e2 => ?_⟩
        match i, j, e1, e2 with
        | 0, 0, e1, e2 => cases e1; cases e2; exact ⟨_, _, rfl, rfl, fun v h => h⟩
        | 0, 1, e1, e2 => cases e1; cases e2; exact ⟨_, _, rfl, rfl, fun v h => h⟩
        | 0, 2, e1, e2 => cases e1; cases e2; exact ⟨_, _, rfl, rfl, fun v h => .any _⟩
        | 0, j + 3, e1, e2 => cases e1; simp at e2
        | i + 1, _, e1, _ => simp at e1
      | 1, e =>
        cases e
        refine ⟨_, rfl, rfl, rfl, rfl, by simp, fun i j x' y' e1 e2 => ?_⟩
        match i, j, e1, e2 with
        | 0, 0, e1, e2 => cases e1; cases e2; exact ⟨_, _, rfl, rfl, fun v h => h⟩
        | 0, 1, e1, e2 => cases e1; cases e2; exact ⟨_, _, rfl, rfl, fun v h => h⟩
        | 0, 2, e1, e2 => cases e1; cases e2; exact ⟨_, _, rfl, rfl, fun v h => h⟩
        | 0, 3, e1, e2 => cases e1; cases e2; exact ⟨_, _, rfl, rfl, fun v h => h⟩
        | 0, j + 4, e1, e2 => cases e1; simp at e2
        | i + 1, _, e1, _ => simp at e1
      | i + 2, e => simp at e
end Go.Proofs.Ytnbpbehlemaeoaa

set_option linter.unusedVariables false
set_option linter.unusedSimpArgs false
set_option maxRecDepth 10000
namespace Go.Proofs.Ytnbpbehlemaeoaa
open Go.IL
/-- n numbers by their places. -/
def rm (n : Nat) (f : Nat → Int) : List Int := (List.range n).map f
theorem rm_length (n : Nat) (f : Nat → Int) : (rm n f).length = n := by simp [rm]
theorem rm_set (n k : Nat) (f : Nat → Int) (v : Int) : (rm n f).set k v = rm n (fun t => if t = k then v else f t) := by
  apply List.ext_getElem
  · simp [rm]
  · intro i h1 h2
    rw [List.getElem_set]
    simp only [rm, List.getElem_map, List.getElem_range]
    by_cases e : k = i
    · rw [if_pos e, if_pos e.symm]
    · rw [if_neg e, if_neg (fun h => e h.symm)]
theorem rm_congr {n : Nat} {f g : Nat → Int} (h : ∀ t, t < n → f t = g t) : rm n f = rm n g := List.map_congr_left fun t ht => h t (List.mem_range.1 ht)
theorem rm_self (p : List Int) : p = rm p.length (fun t => p.getD t 0) := by
  apply List.ext_getElem
  · simp [rm]
  · intro i h1 h2; simp [rm, h1]
attribute [go_sem] rm_length
theorem cell_eq {W t x y : Nat} (hx : x < W) : t = y * W + x ↔ t / W = y ∧ t % W = x := by
  constructor
  · rintro rfl
    exact ⟨by rw [Nat.mul_comm, Nat.mul_add_div (by omega), Nat.div_eq_of_lt hx]; rfl, by rw [Nat.mul_comm, Nat.mul_add_mod, Nat.mod_eq_of_lt hx]⟩
  · rintro ⟨rfl, rfl⟩
    have := Nat.div_add_mod t W
    rw [Nat.mul_comm] at this; omega
theorem cell_lt {W H x y : Nat} (hx : x < W) (hy : y < H) : y * W + x < W * H := by
  have : (y + 1) * W ≤ H * W := Nat.mul_le_mul_right _ hy
  rw [Nat.add_mul] at this; rw [Nat.mul_comm W H]; omega
theorem wrap_cell {W H x y n : Nat} (hx : x < W) (hy : y < H) (hn : n = W * H) (hl : n ≤ 1000000) : IntKind.i64.wrap ((y : Int) * (W : Int)) = ((y * W : Nat) : Int) ∧ IntKind.i64.wrap (((y * W : Nat) : Int) + (x : Int)) = ((y * W + x : Nat) : Int) ∧ y * W + x < n := by
  have := cell_lt hx hy
  subst hn
  refine ⟨?_, (wrap_eq (by omega) (by omega)).trans (by omega), this⟩
  rw [← Int.natCast_mul]; exact wrap_eq (by omega) (by omega)
def liF (W H : Int) (p l : List Int) : List Int := if rightS W H p then rm p.length (linedF W.toNat p l) else []
def riW (W H : Int) (p : List Int) (x : Int) : Int := if rightS W H p then x else 0
theorem liF_eq (W H : Int) (p l : List Int) : imgP (linedS W H p l) = liF W H p l ∧ imgW (linedS W H p l) = riW W H p W ∧ imgH (linedS W H p l) = riW W H p H := by
  unfold linedS liF riW
  by_cases h : rightS W H p = true
  · have := right_len h
    simp only [h, if_true, imgP, imgW, imgH]
    exact ⟨rfl, by omega, by omega⟩
  · simp only [h, if_false, imgP, imgW, imgH]; exact ⟨rfl, rfl, rfl⟩
theorem refLined' (W H : Int) (p l : List Int) (hl : p.length ≤ 1000000) (hll : l.length ≤ 1000000) : FSpec Try.prog 37 [ink W H p, .sl true (nums .i64 l)] (resI (riW W H p W) (riW W H p H) (liF W H p l)) (resR (liF W H p l)) := by
  have h := res_img (refLined W H p l hl hll)
  obtain ⟨h1, h2, h3⟩ := liF_eq W H p l
  rw [h1, h2, h3] at h; exact h
theorem hasS_take (l : List Int) (i : Nat) (h : i < l.length) (n : Int) : hasS (l.take (i + 1)) n = (hasS (l.take i) n || (l.getD i 0 == n)) := by
  simp only [hasS]
  rw [List.take_add_one, List.any_append]
  simp [h]
theorem fLined (W H : Int) (p l : List Int) (hl : p.length ≤ 1000000) (hll : l.length ≤ 1000000) : FSpec Try.prog 36 [ink W H p, .sl true (nums .i64 l)] (resI (riW W H p W) (riW W H p H) (liF W H p l)) (resR (liF W H p l)) := by
  by_cases hr : rightS W H p = true
  case neg =>
    have e1 : liF W H p l = [] := by simp [liF, hr]
    have e2 : riW W H p W = 0 := by simp [riW, hr]
    have e3 : riW W H p H = 0 := by simp [riW, hr]
    rw [e1, e2, e3]
    refine res_nil ?_
    refine FSpec.intro tab_ok Try.func36 rfl rfl rfl (by kernel_rfl) (by simp) fun w0 => ?_
    simp only [argTM, Nat.zero_add, Nat.reduceAdd]
    simp only [ink]
    repeat refine IW.seq ?_
    refine IW.region_seq tab_ok [some 2, some 4] rfl fun X K hX hK => ?_
    simp only [go_sem]
    refine hK _ _ ?_; clear hX hK X K
    show IW _ _ _ _ _ _ _ _
    repeat refine IW.seq ?_
    refine IW.region_seq tab_ok [some 9, some 10, some 11] rfl fun X K hX hK => ?_
    simp only [go_sem]
    refine hX.quiet _ _ (OpG.of_B rfl (opB_call rfl rfl (FSpec.nz (fRight W H p hl) (by simp [go_sem, List.map_cons, List.map_nil, List.append_nil, opnd, unc])))) ?_
    simp only [go_sem]
    refine hK _ _ ?_; clear hX hK X K
    show IW _ _ _ _ _ _ _ _
    repeat refine IW.seq ?_
    refine IW.cond rfl (fun hb => ?_) (fun hb => ?_)
    · repeat refine IW.seq ?_
      refine IW.region_seq tab_ok [some 12, none] rfl fun X K hX hK => ?_
      simp only [go_sem]
      refine hX.op _ _ rfl (opS_store tab_ok rfl (by simp [go_sem]) (by simp [go_sem]) (by simp [go_sem]) (by simp [go_sem]) (by simp [go_sem]) (by simp [go_sem])) ?_
      simp only [go_sem]
      refine hK _ _ ?_; clear hX hK X K
      show IW _ _ _ _ _ _ _ _
      refine IW.ret (Fin.cell ⟨trivial, by simp [go_sem]⟩ rfl rfl ?_)
      simp [go_sem]
    · exact absurd (by simpa using hb) hr
  case pos =>
  obtain ⟨hlen, h0, h1, h2, h3⟩ := right_len hr
  obtain ⟨w, rfl⟩ : ∃ w : Nat, W = w := ⟨W.toNat, by omega⟩
  obtain ⟨h, rfl⟩ : ∃ h : Nat, H = h := ⟨H.toNat, by omega⟩
  have hlen' : p.length = w * h := by exact_mod_cast hlen
  have e1 : liF w h p l = rm p.length (linedF w p l) := by simp [liF, hr]
  have e2 : riW w h p w = w := by simp [riW, hr]
  have e3 : riW w h p h = h := by simp [riW, hr]
  rw [e1, e2, e3]
  refine FSpec.intro tab_ok Try.func36 rfl rfl rfl (by kernel_rfl) (by simp) fun w0 => ?_
  simp only [argTM, Nat.zero_add, Nat.reduceAdd]
  simp only [ink]
  repeat refine IW.seq ?_
  refine IW.region_seq tab_ok [some 2, some 4] rfl fun X K hX hK => ?_
  simp only [go_sem]
  refine hK _ _ ?_; clear hX hK X K
  show IW _ _ _ _ _ _ _ _
  repeat refine IW.seq ?_
  refine IW.region_seq tab_ok [some 9, some 10, some 11] rfl fun X K hX hK => ?_
  simp only [go_sem]
  refine hX.quiet _ _ (OpG.of_B rfl (opB_call rfl rfl (FSpec.nz (fRight w h p hl) (by simp [go_sem, List.map_cons, List.map_nil, List.append_nil, opnd, unc])))) ?_
  simp only [go_sem]
  refine hK _ _ ?_; clear hX hK X K
  show IW _ _ _ _ _ _ _ _
  repeat refine IW.seq ?_
  refine IW.cond rfl (fun hb => ?_) (fun hb => ?_)
  · simp [hr] at hb
  · refine IW.skip ?_
    show IW _ _ _ _ _ _ _ _
    repeat refine IW.seq ?_
    refine IW.region_draw tab_ok mixed [some 13, some 14, some 15, some 16, some 17, some 18, some 19, some 20, some 5, none] 9 (by kernel_rfl) rfl fun Xq Xs K hXq hXs hK K1 hK1 => ?_
    simp only [go_sem]
    refine hXq.quiet _ _ (OpG.of_B rfl (opB_call rfl rfl (FSpec.nz (ls_nums (fClone p hl)) (by simp [go_sem, List.map_cons, List.map_nil, List.append_nil, opnd, unc])))) ?_
    simp only [go_sem]
    refine hK1 _ _ ?_; clear hXq hK1 K1 Xq
    simp only [List.drop_zero, List.drop_succ_cons, go_sem]
    refine hXs.op _ _ rfl (opS_store tab_ok rfl (by simp [go_sem]) (by simp [go_sem]) (by simp [go_sem]) (by simp [go_sem]) (by simp [go_sem]) (by simp [go_sem])) ?_
    simp only [go_sem]
    refine hK _ _ ?_; clear hXs hK K Xs
    show IW _ _ _ _ _ _ _ _
    repeat refine IW.seq ?_
    refine IW.region_seq tab_ok [some 21, some 22, some 23] rfl fun X K hX hK => ?_
    simp only [go_sem]
    refine hK _ _ ?_; clear hX hK X K
    show IW _ _ _ _ _ _ _ _
    repeat refine IW.seq ?_
    refine IW.block ?_
    refine IW.loop (α := {i : Nat // i ≤ l.length}) (fun i => [(2, .ptr 0 0 0), (4, .ptr 1 0 0), (5, .ptr 3 0 0), (21, .sl true (nums .i64 l)), (22, .int .i64 l.length), (23, .int .i64 i.1)]) (fun i => [some ⟨3, 33, [[.int .i64 w, .int .i64 h, .sl true (nums .u8 p)]]⟩, some ⟨3, 33, [[.int .i64 0, .int .i64 0, .nils]]⟩, some ⟨1, 5, nums .u8 (rm p.length (linedF w p (l.take i.1)))⟩, some ⟨3, 33, [[.int .i64 w, .int .i64 h, lsV 2 p.length]]⟩]) (fun i => l.length - i.1) ⟨0, by omega⟩ ?_ fun ⟨i, hi⟩ => ?_
    · have : rm p.length (linedF w p []) = p := by
        conv => rhs; rw [rm_self p]
        exact rm_congr fun t _ => by simp [linedF, hasS]
      refine Ent.cut ?_ ?_ <;> simp only [go_sem, this]
    · simp only []
      repeat refine IW.seq ?_
      refine IW.region_seq tab_ok [some 24] rfl fun X K hX hK => ?_
      simp only [go_sem]
      refine hK _ _ ?_; clear hX hK X K
      show IW _ _ _ _ _ _ _ _
      repeat refine IW.seq ?_
      refine IW.cond rfl (fun hb1 => ?_) (fun hb1 => ?_)
      · refine IW.skip ?_
        show IW _ _ _ _ _ _ _ _
        simp only [decide_eq_true_eq] at hb1
        have hlt : i < l.length := by omega
        have htk := hasS_take l i hlt
        refine IW.seq (IW.block ?_)
        repeat refine IW.seq ?_
        refine IW.region_seq tab_ok [some 25, some 26, some 7] rfl fun X K hX hK => ?_
        simp only [go_sem, nums_at hlt]
        refine ⟨⟨by omega, by omega⟩, ?_⟩
        refine hK _ _ ?_; clear hX hK X K
        show IW _ _ _ _ _ _ _ _
        generalize hy0 : l.getD i 0 = y0 at *
        repeat refine IW.seq ?_
        refine IW.region_seq tab_ok [some 27, some 28, some 29, some 30, some 31, some 32, some 33, some 34] rfl fun X K hX hK => ?_
        simp only [go_sem]
        refine hK _ _ ?_; clear hX hK X K
        show IW _ _ _ _ _ _ _ _
        repeat refine IW.seq ?_
        refine IW.cond rfl (fun hb2 => ?_) (fun hb2 => ?_)
        · simp only [Bool.and_eq_true, decide_eq_true_eq] at hb2
          obtain ⟨y, rfl⟩ : ∃ y : Nat, y0 = y := ⟨y0.toNat, by omega⟩
          have hyh : y < h := by omega
          repeat refine IW.seq ?_
          refine IW.region_seq tab_ok [some 35, some 36, some 37] rfl fun X K hX hK => ?_
          simp only [go_sem]
          refine hK _ _ ?_; clear hX hK X K
          show IW _ _ _ _ _ _ _ _
          repeat refine IW.seq ?_
          refine IW.block ?_
          refine IW.loop (α := {x : Nat // x ≤ w}) (fun x => [(2, .ptr 0 0 0), (4, .ptr 1 0 0), (5, .ptr 3 0 0), (7, .int .i64 y), (21, .sl true (nums .i64 l)), (22, .int .i64 l.length), (23, .int .i64 i), (36, .int .i64 w), (37, .int .i64 x.1)]) (fun x => [some ⟨3, 33, [[.int .i64 w, .int .i64 h, .sl true (nums .u8 p)]]⟩, some ⟨3, 33, [[.int .i64 0, .int .i64 0, .nils]]⟩, some ⟨1, 5, nums .u8 (rm p.length fun t => if t / w = y ∧ t % w < x.1 then 1 else linedF w p (l.take i) t)⟩, some ⟨3, 33, [[.int .i64 w, .int .i64 h, lsV 2 p.length]]⟩]) (fun x => w - x.1) ⟨0, by omega⟩ ?_ fun ⟨x, hx⟩ => ?_
          · have : (rm p.length fun t => if t / w = y ∧ t % w < 0 then 1 else linedF w p (l.take i) t) = rm p.length (linedF w p (l.take i)) := rm_congr fun t _ => by rw [if_neg (by omega)]
            refine Ent.cut ?_ ?_ <;> simp only [go_sem, this]
          · simp only []
            repeat refine IW.seq ?_
            refine IW.region_seq tab_ok [some 38] rfl fun X K hX hK => ?_
            simp only [go_sem]
            refine hK _ _ ?_; clear hX hK X K
            show IW _ _ _ _ _ _ _ _
            repeat refine IW.seq ?_
            refine IW.cond rfl (fun hb3 => ?_) (fun hb3 => ?_)
            · refine IW.skip ?_
              show IW _ _ _ _ _ _ _ _
              simp only [decide_eq_true_eq] at hb3
              have hxw : x < w := by omega
              obtain ⟨w1, w2, w3⟩ := wrap_cell hxw hyh hlen' hl
              refine IW.seq (IW.block ?_)
              repeat refine IW.seq ?_
              refine IW.region_seq tab_ok [some 39, some 8] rfl fun X K hX hK => ?_
              simp only [go_sem]
              refine hK _ _ ?_; clear hX hK X K
              show IW _ _ _ _ _ _ _ _
              have hne := lsV_ne (id := 2) (n := p.length) (by omega)
              rw [hne]
              repeat refine IW.seq ?_
              refine IW.region_seq tab_ok [some 40, some 41, some 42, some 43, some 44, some 45, some 46, some 47, some 48, none] rfl fun X K hX hK => ?_
              simp only [go_sem, w1, w2]
              refine ⟨⟨by omega, by omega⟩, ?_⟩
              have hat := nums_at (k := .u8) (xs := rm p.length fun t => if t / w = y ∧ t % w < x then 1 else linedF w p (l.take i) t) (i := y * w + x) (by rw [rm_length]; exact w3)
              refine hX.op _ _ rfl (opS_store tab_ok rfl (by simp [go_sem]) (by simp [go_sem]) (by simp [go_sem]) (by simp [go_sem, w3, hat]) (by simp [go_sem]) (by simp [go_sem])) ?_
              simp only [go_sem, w3, hat]
              refine hK _ _ ?_; clear hX hK X K
              show IW _ _ _ _ _ _ _ _
              repeat refine IW.seq ?_
              refine IW.region_seq tab_ok [some 49, some 37] rfl fun X K hX hK => ?_
              simp only [go_sem, succ_wrap hxw (by omega)]
              refine hK _ _ ⟨⟨x + 1, hxw⟩, by simp only []; omega, ?_⟩
              have : (rm p.length fun t => if t = y * w + x then 1 else if t / w = y ∧ t % w < x then 1 else linedF w p (l.take i) t) = rm p.length fun t => if t / w = y ∧ t % w < x + 1 then 1 else linedF w p (l.take i) t := rm_congr fun t _ => by
                by_cases c : t = y * w + x
                · have := (cell_eq hxw).1 c
                  rw [if_pos c, if_pos (by omega)]
                · have : ¬ (t / w = y ∧ t % w = x) := fun h => c ((cell_eq hxw).2 h)
                  rw [if_neg c]
                  by_cases d : t / w = y ∧ t % w < x
                  · rw [if_pos d, if_pos (by omega)]
                  · rw [if_neg d, if_neg (by omega)]
              refine Ent.cut ?_ ?_ <;> simp only [go_sem, rm_set, this]
            · refine IW.exit ?_
              show IW _ _ _ _ _ _ _ _
              simp only [decide_eq_false_iff_not] at hb3
              have hxw : x = w := by omega
              subst hxw
              repeat refine IW.seq ?_
              refine IW.region_seq tab_ok [some 50, some 23] rfl fun X K hX hK => ?_
              simp only [go_sem, succ_wrap hlt (by omega)]
              refine hK _ _ ⟨⟨i + 1, hlt⟩, by simp only []; omega, ?_⟩
              have : (rm p.length fun t => if t / x = y ∧ t % x < x then 1 else linedF x p (l.take i) t) = rm p.length (linedF x p (l.take (i + 1))) := rm_congr fun t ht => by
                have hx0 : 0 < x := by
                  rcases Nat.eq_zero_or_pos x with h0 | h0
                  · rw [h0, Nat.zero_mul] at hlen'; omega
                  · exact h0
                have hm := Nat.mod_lt t hx0
                simp only [linedF, htk]
                by_cases c : t / x = y
                · rw [if_pos ⟨c, hm⟩, c, if_pos (by simp)]
                · rw [if_neg (fun h => c h.1)]
                  have : ((y : Int) == ((t / x : Nat) : Int)) = false := by simpa using fun e => c (by omega)
                  rw [this, Bool.or_false]
              refine Ent.cut ?_ ?_ <;> simp only [go_sem, this]
        · refine IW.skip ?_
          show IW _ _ _ _ _ _ _ _
          repeat refine IW.seq ?_
          refine IW.region_seq tab_ok [some 50, some 23] rfl fun X K hX hK => ?_
          simp only [go_sem, succ_wrap hlt (by omega)]
          refine hK _ _ ⟨⟨i + 1, hlt⟩, by simp only []; omega, ?_⟩
          have : rm p.length (linedF w p (l.take i)) = rm p.length (linedF w p (l.take (i + 1))) := rm_congr fun t ht => by
            simp only [linedF, htk]
            have hdiv : t / w < h := Nat.div_lt_of_lt_mul (by rw [← hlen']; exact ht)
            generalize t / w = q at *
            have : (y0 == ((q : Nat) : Int)) = false := by
              simp only [Bool.and_eq_false_iff, decide_eq_false_iff_not] at hb2
              simp only [beq_eq_false_iff_ne, ne_eq]; omega
            rw [this, Bool.or_false]
          refine Ent.cut ?_ ?_ <;> simp only [go_sem, this]
      · refine IW.exit ?_
        show IW _ _ _ _ _ _ _ _
        simp only [decide_eq_false_iff_not] at hb1
        have : l.take i = l := List.take_of_length_le (by omega)
        rw [this]
        repeat refine IW.seq ?_
        refine IW.region_seq tab_ok [some 51, none] rfl fun X K hX hK => ?_
        simp only [go_sem]
        refine hX.op _ _ rfl (opS_store tab_ok rfl (by simp [go_sem]) (by simp [go_sem]) (by simp [go_sem]) (by simp [go_sem]) (by simp [go_sem]) (by simp [go_sem])) ?_
        simp only [go_sem]
        refine hK _ _ ?_; clear hX hK X K
        show IW _ _ _ _ _ _ _ _
        refine IW.ret (Fin.cell1 2 ⟨trivial, by simp [go_sem]⟩ (by simp [go_sem, resI]) (by simp [go_sem]) (by simp [go_sem, resI]) (by simp [go_sem]))
end Go.Proofs.Ytnbpbehlemaeoaa

set_option linter.unusedVariables false
set_option linter.unusedSimpArgs false
set_option maxRecDepth 10000
namespace Go.Proofs.Ytnbpbehlemaeoaa
open Go.IL
def nomapT : TM → Bool
  | [] => true
  | (_, s) :: r => s.nomap && nomapT r
theorem nomapT_get : ∀ {tm : TM} (t : Nat), nomapT tm = true → (tm.get t).nomap = true
  | [], t, _ => rfl
  | (u, s) :: r, t, h => by
    simp only [nomapT, Bool.and_eq_true] at h
    simp only [TM.get]
    split
    · exact h.1
    · exact nomapT_get t h.2
theorem mem_ptRow {X0 Y0 RW RH : Int} {y n : Nat} {p : Int × Int} (h : p ∈ ptRow X0 Y0 RW RH y n) : ∃ x : Nat, x < n ∧ p = ((x : Int), (y : Int)) ∧ insF x X0 RW = true ∧ insF y Y0 RH = true := by
  simp only [ptRow, List.mem_map, List.mem_filter, List.mem_range, Bool.and_eq_true] at h
  obtain ⟨x, ⟨h1, h2, h3⟩, rfl⟩ := h
  exact ⟨x, h1, rfl, h2, h3⟩
theorem mem_ptRows {W : Nat} {X0 Y0 RW RH : Int} {m : Nat} {p : Int × Int} (h : p ∈ ptRows W X0 Y0 RW RH m) : ∃ x y : Nat, x < W ∧ y < m ∧ p = ((x : Int), (y : Int)) ∧ insF x X0 RW = true ∧ insF y Y0 RH = true := by
  simp only [ptRows, List.mem_flatMap, List.mem_range] at h
  obtain ⟨y, hy, h⟩ := h
  obtain ⟨x, h1, h2, h3, h4⟩ := mem_ptRow h
  exact ⟨x, y, h1, hy, h2, h3, h4⟩
theorem in_ptRows {W : Nat} {X0 Y0 RW RH : Int} {m x y : Nat} (hx : x < W) (hy : y < m) (h1 : insF x X0 RW = true) (h2 : insF y Y0 RH = true) : ((x : Int), (y : Int)) ∈ ptRows W X0 Y0 RW RH m := by
  simp only [ptRows, List.mem_flatMap, List.mem_range, ptRow, List.mem_map, List.mem_filter, Bool.and_eq_true]
  exact ⟨y, hy, x, ⟨hx, h1, h2⟩, rfl⟩
theorem insF_nat {a b : Nat} (h : a < b) : insF (a : Nat) 0 (b : Nat) = true := by simp only [insF, decide_eq_true_eq]; omega
theorem mem_ext {Y0 : List (Int × Int)} {pre : List (Int × Int)} {x : Int × Int} (h : ∃ r, pre ++ x :: r = Y0) : x ∈ Y0 := by
  obtain ⟨r, rfl⟩ := h; simp
/-- Is the pixel t of an image with lines q to be taken away? -/
def drC (w h : Nat) (q l : List Int) (t : Nat) : Bool := hasS l ((t / w : Nat) : Int) && (IntKind.u8.wrap (atF w h q ((t % w : Nat) : Int) (((t / w : Nat) : Int) - 1) + atF w h q ((t % w : Nat) : Int) (((t / w : Nat) : Int) + 1)) == 0)
def drG (w h : Nat) (q l : List Int) (pre : List (Int × Int)) (t : Nat) : Int := if (((t % w : Nat) : Int), ((t / w : Nat) : Int)) ∈ pre ∧ drC w h q l t = true then 0 else q.getD t 0
def drF (w h : Nat) (q l : List Int) : List Int := rm q.length fun t => if drC w h q l t then 0 else q.getD t 0
theorem fDress0 (W H : Int) (p l : List Int) (hl : p.length ≤ 1000000) (hll : l.length ≤ 1000000) (w h : Nat) (q : List Int) (hs : FSpec Try.prog 36 [ink W H p, .sl true (nums .i64 l)] (resI w h q) (resR q)) (hq : q.length = w * h) (hw : w ≤ 640) (hh : h ≤ 640) :
    FSpec Try.prog 31 [ink W H p, .sl true (nums .i64 l)] (resI w h (drF w h q l)) (resR (drF w h q l)) := by
  have hmul : w * h ≤ 640 * 640 := Nat.mul_le_mul hw hh
  refine FSpec.intro tab_ok Try.func31 rfl rfl rfl (by kernel_rfl) (by simp) fun w0 => ?_
  simp only [argTM, Nat.zero_add, Nat.reduceAdd]
  simp only [ink]
  repeat refine IW.seq ?_
  refine IW.region_seq tab_ok [some 2, some 3, some 4] rfl fun X K hX hK => ?_
  simp only [go_sem]
  refine hK _ _ ?_; clear hX hK X K
  show IW _ _ _ _ _ _ _ _
  repeat refine IW.seq ?_
  refine IW.region_seq tab_ok [some 8, some 9, some 10, some 5, none] rfl fun X K hX hK => ?_
  simp only [go_sem]
  refine hX.quiet _ _ (OpG.of_B rfl (opB_call rfl rfl (FSpec.nz (hs) (by simp [go_sem, List.map_cons, List.map_nil, List.append_nil, opnd, unc, resI, resR])))) ?_
  simp only [go_sem, resI, resR]
  refine hX.op _ _ rfl (opS_store tab_ok rfl (by simp [go_sem]) (by simp [go_sem]) (by simp [go_sem]) (by simp [go_sem]) (by simp [go_sem]) (by simp [go_sem])) ?_
  simp only [go_sem]
  refine hK _ _ ?_; clear hX hK X K
  show IW _ _ _ _ _ _ _ _
  repeat refine IW.seq ?_
  refine IW.region_draw tab_ok mixed [some 11, some 12, some 13, some 14, some 15, some 16, some 17, some 18, some 19, some 6, none] 10 (by kernel_rfl) rfl fun Xq Xs K hXq hXs hK K1 hK1 => ?_
  simp only [go_sem]
  refine hXq.quiet _ _ (OpG.of_B rfl (opB_call rfl rfl (FSpec.nz (ls_nums (fClone q (by omega))) (by simp [go_sem, List.map_cons, List.map_nil, List.append_nil, opnd, unc])))) ?_
  simp only [go_sem]
  refine hK1 _ _ ?_; clear hXq hK1 K1 Xq
  simp only [List.drop_zero, List.drop_succ_cons, go_sem]
  refine hXs.op _ _ rfl (opS_store tab_ok rfl (by simp [go_sem]) (by simp [go_sem]) (by simp [go_sem]) (by simp [go_sem]) (by simp [go_sem]) (by simp [go_sem])) ?_
  simp only [go_sem]
  refine hK _ _ ?_; clear hXs hK K Xs
  show IW _ _ _ _ _ _ _ _
  repeat refine IW.seq ?_
  refine IW.region_seq tab_ok [some 20, some 21, some 22, some 23, some 24, some 25, some 26, some 27, some 28] rfl fun X K hX hK => ?_
  simp only [go_sem]
  refine hX.quiet _ _ (OpG.of_B rfl (opPoints rfl (isSlc_ls _ _) rfl)) ?_
  simp only [go_sem]
  refine hK _ _ ?_; clear hX hK X K
  show IW _ _ _ _ _ _ _ _
  repeat refine IW.seq ?_
  refine IW.block ?_
  obtain ⟨HH, hHH⟩ : ∃ HH : List (Int × Int) → Heap, HH = fun pre => [some ⟨3, 33, [[.int .i64 W, .int .i64 H, .sl true (nums .u8 p)]]⟩, some ⟨1, 23, [[.sl true (nums .i64 l)]]⟩, some ⟨3, 33, [[.int .i64 0, .int .i64 0, .nils]]⟩, some ⟨1, 5, nums .u8 (rm q.length (drG w h q l pre))⟩,
    some ⟨3, 33, [[.int .i64 w, .int .i64 h, lsV 3 q.length]]⟩, some ⟨1, 5, nums .u8 q⟩, some ⟨3, 90, [[.int .i64 w, .int .i64 h, lsV 5 q.length]]⟩, some ⟨3, 90, [[.int .i64 w, .int .i64 h, .any]]⟩, some ⟨4, 56, [[.int .i64 0, .int .i64 0, .int .i64 w, .int .i64 h]]⟩] := ⟨_, rfl⟩
  have hI0 : I64 0 := by unfold I64; omega
  have hIw : I64 w := by unfold I64; omega
  have hIh : I64 h := by unfold I64; omega
  refine IW.ent (tm' := [(28, .clo 80 [.ptr 7 0 0, .ptr 8 0 0]), (3, .ptr 1 0 0), (4, .ptr 2 0 0), (5, .ptr 4 0 0), (6, .ptr 6 0 0)]) (h' := HH []) (Ent.cut ?_ ?_) ?_
  · rw [hHH]; simp only [go_sem]
  · have : rm q.length (drG w h q l []) = q := by
      conv => rhs; rw [rm_self q]
      exact rm_congr fun t _ => by simp [drG]
    rw [hHH]; simp only [go_sem, this]
  refine IW.rangeFunc (capsC := [.ptr 0 0 0, .ptr 1 0 0]) (rowsC := [⟨3, 90, [[.int .i64 w, .int .i64 h, .any]]⟩, ⟨4, 56, [[.int .i64 0, .int .i64 0, .int .i64 w, .int .i64 h]]⟩]) [7, 8] (fun x : Int × Int => .agg [.int .i64 x.1, .int .i64 x.2]) ptV HH (fun ys => ys = ptRows w 0 0 w h h) rfl (by decide) rfl (fun t => nomapT_get t rfl) (fun pre => by rw [hHH]; simp only [go_sem]) rfl (fun pre => by rw [hHH]; exact Nat.le_refl _) (fun x ρ O F w => ptV_rel x ρ O F w) (by decide) rfl (by rw [hHH]; rfl) rfl (fun pre i r e => ?_) (fPoints w h 0 0 w h (by omega) (by omega) hI0 hI0 hIw hIh) (fun c k pre x hpx hc => ?_) (fun ys hys => ?_)
  · rw [hHH]
    match i, e with
    | 0, e => cases e; exact ⟨_, rfl, rfl⟩
    | 1, e => cases e; exact ⟨_, rfl, rfl⟩
    | i + 2, e => simp at e
  · obtain ⟨x, y, hx, hy, rfl, _, _⟩ := mem_ptRows (mem_ext hpx)
    have hlen9 : (HH []).length = 9 := by rw [hHH]; rfl
    rw [hlen9] at hc
    have hHp : HH pre = _ := congrFun hHH pre
    rw [hHp]
    repeat refine IWR.seq ?_
    refine IWR.region_seq tab_ok [some 7, none] rfl (by kernel_rfl) fun X K hX hK => ?_
    simp only [go_sem]
    refine hX.op _ _ rfl (opS_store tab_ok rfl (by simp [go_sem]) (by simp [go_sem]) (by simp [go_sem]) (by simp [go_sem]) (by simp [go_sem]) (by simp [go_sem])) ?_
    simp only [go_sem]
    refine hK _ _ fun c2 hc2 => ?_
    clear hX hK X K
    rw [hlen9] at hc2
    show IWR _ _ _ _ _ _ _ _ _ _
    repeat refine IWR.seq ?_
    refine IWR.block ?_
    have e1 : IntKind.i64.wrap ((y : Int) - 1) = (y : Int) - 1 := wrap_eq (by omega) (by omega)
    have e2 : IntKind.i64.wrap ((y : Int) + 1) = (y : Int) + 1 := wrap_eq (by omega) (by omega)
    obtain ⟨w1, w2, w3⟩ := wrap_cell hx hy hq (by omega)
    repeat refine IWR.seq ?_
    refine IWR.region_draw tab_ok mixed [some 30, some 31, some 32, some 33, some 34, some 35, some 36, some 37, some 38, some 39, some 40, some 41, some 42, some 43, some 44, some 45, some 46, some 47, some 48, some 49, some 50, some 51] 22 (by kernel_rfl) rfl (by kernel_rfl) fun Xq Xs K hXq hXs hK K1 hK1 => ?_
    simp only [go_sem, e1, e2]
    refine hXq.quiet _ _ (OpG.of_B rfl (opB_call rfl rfl (FSpec.nz (fContains l y hll) (by simp [go_sem, List.map_cons, List.map_nil, List.append_nil, opnd, unc, e1, e2])))) ?_
    simp only [go_sem, e1, e2]
    refine hXq.quiet _ _ (OpG.of_BG rfl rfl rfl (by first | (simp only [go_sem]; done) | (simp [go_sem] <;> (intros; simp_all))) fun hc => opB_call rfl rfl (FSpec.nz (iAt w h x (y - 1) q hq (by omega)) (by simp [go_sem, List.map_cons, List.map_nil, List.append_nil, opnd, unc, e1, e2]))) ?_
    simp only [go_sem, e1, e2]
    refine hXq.quiet _ _ (OpG.of_BG rfl rfl rfl (by first | (simp only [go_sem]; done) | (simp [go_sem] <;> (intros; simp_all))) fun hc => opB_call rfl rfl (FSpec.nz (iAt w h x (y + 1) q hq (by omega)) (by simp [go_sem, List.map_cons, List.map_nil, List.append_nil, opnd, unc, e1, e2]))) ?_
    simp only [go_sem, e1, e2]
    refine hK1 _ _ ?_; clear hXq hK1 K1 Xq
    simp only [List.drop_zero, List.drop_succ_cons, go_sem]
    refine hK _ _ ?_; clear hXs hK K Xs
    show IWR _ _ _ _ _ _ _ _ _ _
    obtain ⟨hdv, hmd⟩ := (cell_eq hx).1 (rfl : y * w + x = y * w + x)
    have hdc : drC w h q l (y * w + x) = (hasS l y && (IntKind.u8.wrap (atF w h q x (y - 1) + atF w h q x (y + 1)) == 0)) := by
      simp only [drC, hdv, hmd]
    have hstep : ∀ t, t < q.length → t ≠ y * w + x → drG w h q l (pre ++ [((x : Int), (y : Int))]) t = drG w h q l pre t := fun t _ ht => by
      have : ¬ (t % w = x ∧ t / w = y) := fun h => ht ((cell_eq hx).2 ⟨h.2, h.1⟩)
      have h2 : ¬ ((((t % w : Nat) : Int), ((t / w : Nat) : Int)) = ((x : Int), (y : Int))) := fun h => this ⟨Int.natCast_inj.1 (Prod.mk.inj h).1, Int.natCast_inj.1 (Prod.mk.inj h).2⟩
      simp only [drG, List.mem_append, List.mem_singleton, h2, or_false]
    have hself : drG w h q l (pre ++ [((x : Int), (y : Int))]) (y * w + x) = if drC w h q l (y * w + x) = true then 0 else q.getD (y * w + x) 0 := by
      simp only [drG, hdv, hmd, List.mem_append, List.mem_singleton, or_true, true_and]
    repeat refine IWR.seq ?_
    refine IWR.cond rfl (fun hb => ?_) (fun hb => ?_)
    · have hne := lsV_ne (id := 3) (n := q.length) (by omega)
      have hne5 := lsV_ne (id := 5) (n := q.length) (by omega)
      have hat := nums_at (k := .u8) (xs := rm q.length (drG w h q l pre)) (i := y * w + x) (by rw [rm_length]; exact w3)
      rw [hne]
      repeat refine IWR.seq ?_
      refine IWR.region_seq tab_ok [some 52, some 53, some 54, some 55, some 56, some 57, some 58, some 59, some 60, some 61, some 62, none] rfl (by kernel_rfl) fun X K hX hK => ?_
      simp only [go_sem, w1, w2]
      refine ⟨⟨by omega, by omega⟩, ?_⟩
      refine hX.op _ _ rfl (opS_store tab_ok rfl (by simp [go_sem]) (by simp [go_sem]) (by simp [go_sem]) (by simp [go_sem, w3, hat]) (by simp [go_sem]) (by simp [go_sem])) ?_
      simp only [go_sem, w3, hat]
      refine hK _ _ fun c3 hc3 => ?_
      refine Ent.cut ?_ ?_ (fun id ri e => by have := hc3 id ri e; rw [hHH] at this ⊢; exact this)
      · rw [hHH]; trivial
      · have : rm q.length (fun t => if t = y * w + x then 0 else drG w h q l pre t) = rm q.length (drG w h q l (pre ++ [((x : Int), (y : Int))])) := rm_congr fun t ht => by
          by_cases c : t = y * w + x
          · rw [if_pos c, c, hself, if_pos (by rw [hdc]; exact hb)]
          · rw [if_neg c, hstep t ht c]
        rw [hHH]
        simp only [go_sem, rm_set, this, hne]
    · refine IWR.skip fun c3 hc3 => ?_
      refine Ent.cut ?_ ?_ (fun id ri e => by have := hc3 id ri e; rw [hHH] at this ⊢; exact this)
      · rw [hHH]; trivial
      · have : rm q.length (drG w h q l pre) = rm q.length (drG w h q l (pre ++ [((x : Int), (y : Int))])) := rm_congr fun t ht => by
          by_cases c : t = y * w + x
          · rw [c, hself, if_neg (by rw [hdc, hb]; simp)]
            rw [drG, if_neg (by rw [hdc, hb]; simp)]
          · rw [hstep t ht c]
        rw [hHH]
        simp only [go_sem, this]
  · subst hys
    have hfin : rm q.length (drG w h q l (ptRows w 0 0 w h h)) = drF w h q l := rm_congr fun t ht => by
      have hw0 : 0 < w := by
        rcases Nat.eq_zero_or_pos w with h0 | h0
        · rw [h0, Nat.zero_mul] at hq; omega
        · exact h0
      have h1 := Nat.mod_lt t hw0
      have h2 : t / w < h := Nat.div_lt_of_lt_mul (by rw [← hq]; exact ht)
      have h3 := in_ptRows (X0 := 0) (Y0 := 0) (RW := w) (RH := h) h1 h2 (insF_nat h1) (insF_nat h2)
      simp only [drG, h3, true_and]
    rw [hHH]
    simp only []
    rw [hfin]
    have hfl : q.length = (drF w h q l).length := by rw [drF, rm_length]
    rw [hfl]
    repeat refine IW.seq ?_
    refine IW.region_seq tab_ok [some 63, none] rfl fun X K hX hK => ?_
    simp only [go_sem]
    refine hX.op _ _ rfl (opS_store tab_ok rfl (by simp [go_sem]) (by simp [go_sem]) (by simp [go_sem]) (by simp [go_sem]) (by simp [go_sem]) (by simp [go_sem])) ?_
    simp only [go_sem]
    refine hK _ _ ?_; clear hX hK X K
    show IW _ _ _ _ _ _ _ _
    refine IW.ret (Fin.cell1 3 ⟨trivial, by simp [go_sem]⟩ (by simp [go_sem, resI]) (by simp [go_sem]) (by simp [go_sem, resI]) (by simp [go_sem]))
end Go.Proofs.Ytnbpbehlemaeoaa

set_option linter.unusedVariables false
set_option linter.unusedSimpArgs false
set_option maxRecDepth 10000
namespace Go.Proofs.Ytnbpbehlemaeoaa
open Go.IL
/-! ### The drawings of a set, by their content -/
def mapX (d : List (Int × List ByteArray)) : List (List SV) := d.map fun e => [.int .i64 e.1, .sl false (strs e.2)]
def mapC (d : List (Int × List ByteArray)) : SV := .mp false (mapX d)
theorem strs_unold : ∀ l : List ByteArray, unoldLL (strs l) = strs l
  | [] => rfl
  | x :: xs => by show unoldLL ([SV.str x] :: strs xs) = _; simp only [unoldLL, unoldL, SV.unold, strs_unold xs]; rfl
theorem frz_mapE (n : Nat) : ∀ (d : List (Int × List ByteArray)) (pre : Heap), unoldLL ((mapE pre.length d).map fun x => x.map (rei (n + 2) (pre ++ (mapRows d).map some))) = mapX d
  | [], pre => rfl
  | e :: d, pre => by
    have ih := frz_mapE n d (pre ++ [some ⟨1, 9, strs e.2⟩])
    have hh : pre ++ (mapRows (e :: d)).map some = (pre ++ [some ⟨1, 9, strs e.2⟩]) ++ (mapRows d).map some := by simp [mapRows]
    rw [hh]
    simp only [mapE, List.map_cons, List.map_nil, unoldLL, unoldL]
    have hr : hrow ((pre ++ [some (⟨1, 9, strs e.2⟩ : Row)]) ++ (mapRows d).map some) pre.length = some ⟨1, 9, strs e.2⟩ := by
      unfold hrow
      rw [List.getElem?_append_left (by simp), List.getElem?_append_right (Nat.le_refl _), Nat.sub_self]; rfl
    have hx : rowXs ((pre ++ [some (⟨1, 9, strs e.2⟩ : Row)]) ++ (mapRows d).map some) pre.length = strs e.2 := by unfold rowXs; rw [hr]
    have hsl : rei (n + 2) ((pre ++ [some (⟨1, 9, strs e.2⟩ : Row)]) ++ (mapRows d).map some) (.ref pre.length 0 e.2.length) = .sl true (strs e.2) := by
      show (if _ then _ else _) = _
      rw [hx, if_pos ⟨by simp [strs], by rw [hr]; rfl⟩, List.drop_zero, strs_take, strs_rei]
    rw [hsl]
    have hlen : (pre ++ [some (⟨1, 9, strs e.2⟩ : Row)]).length = pre.length + 1 := by simp
    rw [hlen] at ih
    rw [ih]
    show [SV.unold (.int .i64 e.1), SV.unold (.sl true (strs e.2))] :: mapX d = _
    simp only [SV.unold, strs_unold]
    rfl
theorem dr_freeze {f : FuncId} {args : List SV} {d : List (Int × List ByteArray)} (h : FSpec Try.prog f args (mapSV d) (mapRows d)) : FSpec Try.prog f args (mapC d) [] := by
  have h1 := FSpec.freeze 3 h
  have h2 : (rei 3 ((mapRows d).map some) (mapSV d)).unold = mapC d := by
    have := frz_mapE 0 d []
    simp only [List.length_nil, List.nil_append, Nat.zero_add] at this
    show SV.unold (.mp true ((mapE 0 d).map fun x => x.map (rei 2 ((mapRows d).map some)))) = _
    simp only [SV.unold, this]; rfl
  rw [h2] at h1; exact h1
def drw8 : List (Int × List ByteArray) := [(1, [⟨#[46, 35, 35, 46]⟩, ⟨#[35, 46, 46, 35]⟩, ⟨#[35, 35, 35, 35]⟩, ⟨#[35, 46, 46, 35]⟩, ⟨#[35, 46, 46, 35]⟩]), (2, [⟨#[35, 35, 35, 46]⟩, ⟨#[35, 46, 46, 35]⟩, ⟨#[35, 35, 35, 46]⟩, ⟨#[35, 46, 46, 35]⟩, ⟨#[35, 35, 35, 46]⟩]), (3, [⟨#[46, 35, 35, 35]⟩, ⟨#[35, 46, 46, 46]⟩, ⟨#[35, 46, 46, 46]⟩, ⟨#[35, 46, 46, 46]⟩, ⟨#[46, 35, 35, 35]⟩]), (4, [⟨#[35, 35, 35, 46]⟩, ⟨#[35, 46, 46, 35]⟩, ⟨#[35, 46, 46, 35]⟩, ⟨#[35, 46, 46, 35]⟩, ⟨#[35, 35, 35, 46]⟩]), (5, [⟨#[35, 35, 35, 35]⟩, ⟨#[35, 46, 46, 46]⟩, ⟨#[35, 35, 35, 46]⟩, ⟨#[35, 46, 46, 46]⟩, ⟨#[35, 35, 35, 35]⟩]), (6, [⟨#[35, 35, 35, 35]⟩, ⟨#[35, 46, 46, 46]⟩, ⟨#[35, 35, 35, 46]⟩, ⟨#[35, 46, 46, 46]⟩, ⟨#[35, 46, 46, 46]⟩]), (7, [⟨#[46, 35, 35, 35]⟩, ⟨#[35, 46, 46, 46]⟩, ⟨#[35, 46, 35, 35]⟩, ⟨#[35, 46, 46, 35]⟩, ⟨#[46, 35, 35, 35]⟩]), (8, [⟨#[35, 46, 46, 35]⟩, ⟨#[35, 46, 46, 35]⟩, ⟨#[35, 35, 35, 35]⟩, ⟨#[35, 46, 46, 35]⟩, ⟨#[35, 46, 46, 35]⟩]), (9, [⟨#[35, 35, 35, 46]⟩, ⟨#[46, 35, 46, 46]⟩, ⟨#[46, 35, 46, 46]⟩, ⟨#[46, 35, 46, 46]⟩, ⟨#[35, 35, 35, 46]⟩]), (10, [⟨#[46, 46, 35, 35]⟩, ⟨#[46, 46, 46, 35]⟩, ⟨#[46, 46, 46, 35]⟩, ⟨#[35, 46, 46, 35]⟩, ⟨#[46, 35, 35, 46]⟩]), (11, [⟨#[35, 46, 46, 35]⟩, ⟨#[35, 46, 35, 46]⟩, ⟨#[35, 35, 46, 46]⟩, ⟨#[35, 46, 35, 46]⟩, ⟨#[35, 46, 46, 35]⟩]), (12, [⟨#[35, 46, 46, 46]⟩, ⟨#[35, 46, 46, 46]⟩, ⟨#[35, 46, 46, 46]⟩, ⟨#[35, 46, 46, 46]⟩, ⟨#[35, 35, 35, 35]⟩]), (13, [⟨#[35, 46, 46, 35]⟩, ⟨#[35, 35, 35, 35]⟩, ⟨#[35, 35, 35, 35]⟩, ⟨#[35, 46, 46, 35]⟩, ⟨#[35, 46, 46, 35]⟩]), (14, [⟨#[35, 46, 46, 35]⟩, ⟨#[35, 35, 46, 35]⟩, ⟨#[35, 46, 35, 35]⟩, ⟨#[35, 46, 46, 35]⟩, ⟨#[35, 46, 46, 35]⟩]), (15, [⟨#[46, 35, 35, 46]⟩, ⟨#[35, 46, 46, 35]⟩, ⟨#[35, 46, 46, 35]⟩, ⟨#[35, 46, 46, 35]⟩, ⟨#[46, 35, 35, 46]⟩]), (16, [⟨#[35, 35, 35, 46]⟩, ⟨#[35, 46, 46, 35]⟩, ⟨#[35, 35, 35, 46]⟩, ⟨#[35, 46, 46, 46]⟩, ⟨#[35, 46, 46, 46]⟩]), (17, [⟨#[46, 35, 35, 46]⟩, ⟨#[35, 46, 46, 35]⟩, ⟨#[35, 46, 46, 35]⟩, ⟨#[35, 46, 35, 35]⟩, ⟨#[46, 35, 35, 35]⟩]), (18, [⟨#[35, 35, 35, 46]⟩, ⟨#[35, 46, 46, 35]⟩, ⟨#[35, 35, 35, 46]⟩, ⟨#[35, 46, 35, 46]⟩, ⟨#[35, 46, 46, 35]⟩]), (19, [⟨#[46, 35, 35, 35]⟩, ⟨#[35, 46, 46, 46]⟩, ⟨#[46, 35, 35, 46]⟩, ⟨#[46, 46, 46, 35]⟩, ⟨#[35, 35, 35, 46]⟩]), (20, [⟨#[35, 35, 35, 35]⟩, ⟨#[46, 35, 46, 46]⟩, ⟨#[46, 35, 46, 46]⟩, ⟨#[46, 35, 46, 46]⟩, ⟨#[46, 35, 46, 46]⟩]), (21, [⟨#[35, 46, 46, 35]⟩, ⟨#[35, 46, 46, 35]⟩, ⟨#[35, 46, 46, 35]⟩, ⟨#[35, 46, 46, 35]⟩, ⟨#[46, 35, 35, 46]⟩]), (22, [⟨#[35, 46, 46, 35]⟩, ⟨#[35, 46, 46, 35]⟩, ⟨#[35, 46, 46, 35]⟩, ⟨#[46, 35, 35, 46]⟩, ⟨#[46, 35, 35, 46]⟩]), (23, [⟨#[35, 46, 46, 35]⟩, ⟨#[35, 46, 46, 35]⟩, ⟨#[35, 35, 35, 35]⟩, ⟨#[35, 35, 35, 35]⟩, ⟨#[35, 46, 46, 35]⟩]), (24, [⟨#[35, 46, 46, 35]⟩, ⟨#[46, 35, 35, 46]⟩, ⟨#[46, 35, 35, 46]⟩, ⟨#[46, 35, 35, 46]⟩, ⟨#[35, 46, 46, 35]⟩]), (25, [⟨#[35, 46, 46, 35]⟩, ⟨#[35, 46, 46, 35]⟩, ⟨#[46, 35, 35, 35]⟩, ⟨#[46, 46, 46, 35]⟩, ⟨#[46, 35, 35, 46]⟩]), (26, [⟨#[35, 35, 35, 35]⟩, ⟨#[46, 46, 46, 35]⟩, ⟨#[46, 35, 35, 46]⟩, ⟨#[35, 46, 46, 46]⟩, ⟨#[35, 35, 35, 35]⟩]), (27, [⟨#[46, 46, 46, 46]⟩, ⟨#[46, 46, 46, 46]⟩, ⟨#[35, 35, 35, 35]⟩, ⟨#[46, 46, 46, 46]⟩, ⟨#[46, 46, 46, 46]⟩])]
set_option maxHeartbeats 4000000 in
theorem fLetters : FSpec Try.prog 74 [] (mapSV drw8) (mapRows drw8) := by
  refine FSpec.intro tab_ok Try.func74 rfl rfl rfl (by kernel_rfl) (by simp) fun w0 => ?_
  simp only [argTM, Nat.zero_add, Nat.reduceAdd]
  repeat refine IW.seq ?_
  refine IW.region_seq tab_ok [some 0] rfl fun X K hX hK => ?_
  simp only [go_sem]
  refine hK _ _ ?_; clear hX hK X K
  show IW _ _ _ _ _ _ _ _
  repeat refine IW.seq ?_
  refine IW.region_seq tab_ok [some 1, some 2, none, some 3, none, some 4, none, some 5, none, some 6, none, some 7, none, some 8, none, some 9, none, some 10, none, some 11, none, some 12, none, some 13, none, some 14, none, some 15, none, some 16, none, some 17, none, some 18, none, some 19, none, some 20, none, some 21, none, some 22, none, some 23, none, some 24, none, some 25, none, some 26, none, some 27, none, some 28, none, some 29, some 0] rfl fun X K hX hK => ?_
  simp only [go_sem]
  refine hX.quiet _ _ (OpG.of_B rfl opB_makeMap) ?_
  simp only [go_sem]
  refine hX.quiet _ _ (OpG.of_B rfl (opB_buildSlice tab_ok rfl (by simp [go_sem]) (by simp [go_sem]) (by simp) (by simp [go_sem, bsO, List.map_cons, List.map_nil]))) ?_
  simp only [go_sem, List.map_cons, List.map_nil]
  refine hX.op _ _ rfl (opS_insert rfl rfl (by simp [go_sem]) m72 u3 (by simp [go_sem]) (by simp [go_sem]) (by simp [go_sem]) (by decide)) ?_
  simp only [go_sem, List.nil_append, List.cons_append]
  refine hX.quiet _ _ (OpG.of_B rfl (opB_buildSlice tab_ok rfl (by simp [go_sem]) (by simp [go_sem]) (by simp) (by simp [go_sem, bsO, List.map_cons, List.map_nil]))) ?_
  simp only [go_sem, List.map_cons, List.map_nil]
  refine hX.op _ _ rfl (opS_insert rfl rfl (by simp [go_sem]) m72 u3 (by simp [go_sem]) (by simp [go_sem]) (by simp [go_sem]) (by decide)) ?_
  simp only [go_sem, List.nil_append, List.cons_append]
  refine hX.quiet _ _ (OpG.of_B rfl (opB_buildSlice tab_ok rfl (by simp [go_sem]) (by simp [go_sem]) (by simp) (by simp [go_sem, bsO, List.map_cons, List.map_nil]))) ?_
  simp only [go_sem, List.map_cons, List.map_nil]
  refine hX.op _ _ rfl (opS_insert rfl rfl (by simp [go_sem]) m72 u3 (by simp [go_sem]) (by simp [go_sem]) (by simp [go_sem]) (by decide)) ?_
  simp only [go_sem, List.nil_append, List.cons_append]
  refine hX.quiet _ _ (OpG.of_B rfl (opB_buildSlice tab_ok rfl (by simp [go_sem]) (by simp [go_sem]) (by simp) (by simp [go_sem, bsO, List.map_cons, List.map_nil]))) ?_
  simp only [go_sem, List.map_cons, List.map_nil]
  refine hX.op _ _ rfl (opS_insert rfl rfl (by simp [go_sem]) m72 u3 (by simp [go_sem]) (by simp [go_sem]) (by simp [go_sem]) (by decide)) ?_
  simp only [go_sem, List.nil_append, List.cons_append]
  refine hX.quiet _ _ (OpG.of_B rfl (opB_buildSlice tab_ok rfl (by simp [go_sem]) (by simp [go_sem]) (by simp) (by simp [go_sem, bsO, List.map_cons, List.map_nil]))) ?_
  simp only [go_sem, List.map_cons, List.map_nil]
  refine hX.op _ _ rfl (opS_insert rfl rfl (by simp [go_sem]) m72 u3 (by simp [go_sem]) (by simp [go_sem]) (by simp [go_sem]) (by decide)) ?_
  simp only [go_sem, List.nil_append, List.cons_append]
  refine hX.quiet _ _ (OpG.of_B rfl (opB_buildSlice tab_ok rfl (by simp [go_sem]) (by simp [go_sem]) (by simp) (by simp [go_sem, bsO, List.map_cons, List.map_nil]))) ?_
  simp only [go_sem, List.map_cons, List.map_nil]
  refine hX.op _ _ rfl (opS_insert rfl rfl (by simp [go_sem]) m72 u3 (by simp [go_sem]) (by simp [go_sem]) (by simp [go_sem]) (by decide)) ?_
  simp only [go_sem, List.nil_append, List.cons_append]
  refine hX.quiet _ _ (OpG.of_B rfl (opB_buildSlice tab_ok rfl (by simp [go_sem]) (by simp [go_sem]) (by simp) (by simp [go_sem, bsO, List.map_cons, List.map_nil]))) ?_
  simp only [go_sem, List.map_cons, List.map_nil]
  refine hX.op _ _ rfl (opS_insert rfl rfl (by simp [go_sem]) m72 u3 (by simp [go_sem]) (by simp [go_sem]) (by simp [go_sem]) (by decide)) ?_
  simp only [go_sem, List.nil_append, List.cons_append]
  refine hX.quiet _ _ (OpG.of_B rfl (opB_buildSlice tab_ok rfl (by simp [go_sem]) (by simp [go_sem]) (by simp) (by simp [go_sem, bsO, List.map_cons, List.map_nil]))) ?_
  simp only [go_sem, List.map_cons, List.map_nil]
  refine hX.op _ _ rfl (opS_insert rfl rfl (by simp [go_sem]) m72 u3 (by simp [go_sem]) (by simp [go_sem]) (by simp [go_sem]) (by decide)) ?_
  simp only [go_sem, List.nil_append, List.cons_append]
  refine hX.quiet _ _ (OpG.of_B rfl (opB_buildSlice tab_ok rfl (by simp [go_sem]) (by simp [go_sem]) (by simp) (by simp [go_sem, bsO, List.map_cons, List.map_nil]))) ?_
  simp only [go_sem, List.map_cons, List.map_nil]
  refine hX.op _ _ rfl (opS_insert rfl rfl (by simp [go_sem]) m72 u3 (by simp [go_sem]) (by simp [go_sem]) (by simp [go_sem]) (by decide)) ?_
  simp only [go_sem, List.nil_append, List.cons_append]
  refine hX.quiet _ _ (OpG.of_B rfl (opB_buildSlice tab_ok rfl (by simp [go_sem]) (by simp [go_sem]) (by simp) (by simp [go_sem, bsO, List.map_cons, List.map_nil]))) ?_
  simp only [go_sem, List.map_cons, List.map_nil]
  refine hX.op _ _ rfl (opS_insert rfl rfl (by simp [go_sem]) m72 u3 (by simp [go_sem]) (by simp [go_sem]) (by simp [go_sem]) (by decide)) ?_
  simp only [go_sem, List.nil_append, List.cons_append]
  refine hX.quiet _ _ (OpG.of_B rfl (opB_buildSlice tab_ok rfl (by simp [go_sem]) (by simp [go_sem]) (by simp) (by simp [go_sem, bsO, List.map_cons, List.map_nil]))) ?_
  simp only [go_sem, List.map_cons, List.map_nil]
  refine hX.op _ _ rfl (opS_insert rfl rfl (by simp [go_sem]) m72 u3 (by simp [go_sem]) (by simp [go_sem]) (by simp [go_sem]) (by decide)) ?_
  simp only [go_sem, List.nil_append, List.cons_append]
  refine hX.quiet _ _ (OpG.of_B rfl (opB_buildSlice tab_ok rfl (by simp [go_sem]) (by simp [go_sem]) (by simp) (by simp [go_sem, bsO, List.map_cons, List.map_nil]))) ?_
  simp only [go_sem, List.map_cons, List.map_nil]
  refine hX.op _ _ rfl (opS_insert rfl rfl (by simp [go_sem]) m72 u3 (by simp [go_sem]) (by simp [go_sem]) (by simp [go_sem]) (by decide)) ?_
  simp only [go_sem, List.nil_append, List.cons_append]
  refine hX.quiet _ _ (OpG.of_B rfl (opB_buildSlice tab_ok rfl (by simp [go_sem]) (by simp [go_sem]) (by simp) (by simp [go_sem, bsO, List.map_cons, List.map_nil]))) ?_
  simp only [go_sem, List.map_cons, List.map_nil]
  refine hX.op _ _ rfl (opS_insert rfl rfl (by simp [go_sem]) m72 u3 (by simp [go_sem]) (by simp [go_sem]) (by simp [go_sem]) (by decide)) ?_
  simp only [go_sem, List.nil_append, List.cons_append]
  refine hX.quiet _ _ (OpG.of_B rfl (opB_buildSlice tab_ok rfl (by simp [go_sem]) (by simp [go_sem]) (by simp) (by simp [go_sem, bsO, List.map_cons, List.map_nil]))) ?_
  simp only [go_sem, List.map_cons, List.map_nil]
  refine hX.op _ _ rfl (opS_insert rfl rfl (by simp [go_sem]) m72 u3 (by simp [go_sem]) (by simp [go_sem]) (by simp [go_sem]) (by decide)) ?_
  simp only [go_sem, List.nil_append, List.cons_append]
  refine hX.quiet _ _ (OpG.of_B rfl (opB_buildSlice tab_ok rfl (by simp [go_sem]) (by simp [go_sem]) (by simp) (by simp [go_sem, bsO, List.map_cons, List.map_nil]))) ?_
  simp only [go_sem, List.map_cons, List.map_nil]
  refine hX.op _ _ rfl (opS_insert rfl rfl (by simp [go_sem]) m72 u3 (by simp [go_sem]) (by simp [go_sem]) (by simp [go_sem]) (by decide)) ?_
  simp only [go_sem, List.nil_append, List.cons_append]
  refine hX.quiet _ _ (OpG.of_B rfl (opB_buildSlice tab_ok rfl (by simp [go_sem]) (by simp [go_sem]) (by simp) (by simp [go_sem, bsO, List.map_cons, List.map_nil]))) ?_
  simp only [go_sem, List.map_cons, List.map_nil]
  refine hX.op _ _ rfl (opS_insert rfl rfl (by simp [go_sem]) m72 u3 (by simp [go_sem]) (by simp [go_sem]) (by simp [go_sem]) (by decide)) ?_
  simp only [go_sem, List.nil_append, List.cons_append]
  refine hX.quiet _ _ (OpG.of_B rfl (opB_buildSlice tab_ok rfl (by simp [go_sem]) (by simp [go_sem]) (by simp) (by simp [go_sem, bsO, List.map_cons, List.map_nil]))) ?_
  simp only [go_sem, List.map_cons, List.map_nil]
  refine hX.op _ _ rfl (opS_insert rfl rfl (by simp [go_sem]) m72 u3 (by simp [go_sem]) (by simp [go_sem]) (by simp [go_sem]) (by decide)) ?_
  simp only [go_sem, List.nil_append, List.cons_append]
  refine hX.quiet _ _ (OpG.of_B rfl (opB_buildSlice tab_ok rfl (by simp [go_sem]) (by simp [go_sem]) (by simp) (by simp [go_sem, bsO, List.map_cons, List.map_nil]))) ?_
  simp only [go_sem, List.map_cons, List.map_nil]
  refine hX.op _ _ rfl (opS_insert rfl rfl (by simp [go_sem]) m72 u3 (by simp [go_sem]) (by simp [go_sem]) (by simp [go_sem]) (by decide)) ?_
  simp only [go_sem, List.nil_append, List.cons_append]
  refine hX.quiet _ _ (OpG.of_B rfl (opB_buildSlice tab_ok rfl (by simp [go_sem]) (by simp [go_sem]) (by simp) (by simp [go_sem, bsO, List.map_cons, List.map_nil]))) ?_
  simp only [go_sem, List.map_cons, List.map_nil]
  refine hX.op _ _ rfl (opS_insert rfl rfl (by simp [go_sem]) m72 u3 (by simp [go_sem]) (by simp [go_sem]) (by simp [go_sem]) (by decide)) ?_
  simp only [go_sem, List.nil_append, List.cons_append]
  refine hX.quiet _ _ (OpG.of_B rfl (opB_buildSlice tab_ok rfl (by simp [go_sem]) (by simp [go_sem]) (by simp) (by simp [go_sem, bsO, List.map_cons, List.map_nil]))) ?_
  simp only [go_sem, List.map_cons, List.map_nil]
  refine hX.op _ _ rfl (opS_insert rfl rfl (by simp [go_sem]) m72 u3 (by simp [go_sem]) (by simp [go_sem]) (by simp [go_sem]) (by decide)) ?_
  simp only [go_sem, List.nil_append, List.cons_append]
  refine hX.quiet _ _ (OpG.of_B rfl (opB_buildSlice tab_ok rfl (by simp [go_sem]) (by simp [go_sem]) (by simp) (by simp [go_sem, bsO, List.map_cons, List.map_nil]))) ?_
  simp only [go_sem, List.map_cons, List.map_nil]
  refine hX.op _ _ rfl (opS_insert rfl rfl (by simp [go_sem]) m72 u3 (by simp [go_sem]) (by simp [go_sem]) (by simp [go_sem]) (by decide)) ?_
  simp only [go_sem, List.nil_append, List.cons_append]
  refine hX.quiet _ _ (OpG.of_B rfl (opB_buildSlice tab_ok rfl (by simp [go_sem]) (by simp [go_sem]) (by simp) (by simp [go_sem, bsO, List.map_cons, List.map_nil]))) ?_
  simp only [go_sem, List.map_cons, List.map_nil]
  refine hX.op _ _ rfl (opS_insert rfl rfl (by simp [go_sem]) m72 u3 (by simp [go_sem]) (by simp [go_sem]) (by simp [go_sem]) (by decide)) ?_
  simp only [go_sem, List.nil_append, List.cons_append]
  refine hX.quiet _ _ (OpG.of_B rfl (opB_buildSlice tab_ok rfl (by simp [go_sem]) (by simp [go_sem]) (by simp) (by simp [go_sem, bsO, List.map_cons, List.map_nil]))) ?_
  simp only [go_sem, List.map_cons, List.map_nil]
  refine hX.op _ _ rfl (opS_insert rfl rfl (by simp [go_sem]) m72 u3 (by simp [go_sem]) (by simp [go_sem]) (by simp [go_sem]) (by decide)) ?_
  simp only [go_sem, List.nil_append, List.cons_append]
  refine hX.quiet _ _ (OpG.of_B rfl (opB_buildSlice tab_ok rfl (by simp [go_sem]) (by simp [go_sem]) (by simp) (by simp [go_sem, bsO, List.map_cons, List.map_nil]))) ?_
  simp only [go_sem, List.map_cons, List.map_nil]
  refine hX.op _ _ rfl (opS_insert rfl rfl (by simp [go_sem]) m72 u3 (by simp [go_sem]) (by simp [go_sem]) (by simp [go_sem]) (by decide)) ?_
  simp only [go_sem, List.nil_append, List.cons_append]
  refine hX.quiet _ _ (OpG.of_B rfl (opB_buildSlice tab_ok rfl (by simp [go_sem]) (by simp [go_sem]) (by simp) (by simp [go_sem, bsO, List.map_cons, List.map_nil]))) ?_
  simp only [go_sem, List.map_cons, List.map_nil]
  refine hX.op _ _ rfl (opS_insert rfl rfl (by simp [go_sem]) m72 u3 (by simp [go_sem]) (by simp [go_sem]) (by simp [go_sem]) (by decide)) ?_
  simp only [go_sem, List.nil_append, List.cons_append]
  refine hX.quiet _ _ (OpG.of_B rfl (opB_buildSlice tab_ok rfl (by simp [go_sem]) (by simp [go_sem]) (by simp) (by simp [go_sem, bsO, List.map_cons, List.map_nil]))) ?_
  simp only [go_sem, List.map_cons, List.map_nil]
  refine hX.op _ _ rfl (opS_insert rfl rfl (by simp [go_sem]) m72 u3 (by simp [go_sem]) (by simp [go_sem]) (by simp [go_sem]) (by decide)) ?_
  simp only [go_sem, List.nil_append, List.cons_append]
  refine hX.quiet _ _ (OpG.of_B rfl (opB_buildSlice tab_ok rfl (by simp [go_sem]) (by simp [go_sem]) (by simp) (by simp [go_sem, bsO, List.map_cons, List.map_nil]))) ?_
  simp only [go_sem, List.map_cons, List.map_nil]
  refine hX.op _ _ rfl (opS_insert rfl rfl (by simp [go_sem]) m72 u3 (by simp [go_sem]) (by simp [go_sem]) (by simp [go_sem]) (by decide)) ?_
  simp only [go_sem, List.nil_append, List.cons_append]
  refine hK _ _ ?_; clear hX hK X K
  show IW _ _ _ _ _ _ _ _
  refine IW.ret (fin_map rfl rfl rfl rfl ⟨rfl, rfl, rfl, rfl, rfl, rfl, rfl, rfl, rfl, rfl, rfl, rfl, rfl, rfl, rfl, rfl, rfl, rfl, rfl, rfl, rfl, rfl, rfl, rfl, rfl, rfl, rfl, trivial⟩)
theorem fDraw8 : FSpec Try.prog 49 [.int .i64 8] (mapC drw8) [] := by
  have h8 := dr_freeze fLetters
  refine FSpec.intro tab_ok Try.func49 rfl rfl rfl (by kernel_rfl) (by simp) fun w0 => ?_
  simp only [argTM, Nat.zero_add, Nat.reduceAdd]
  repeat refine IW.seq ?_
  refine IW.region_seq tab_ok [some 2] rfl fun X K hX hK => ?_
  simp only [go_sem]
  refine hK _ _ ?_; clear hX hK X K
  show IW _ _ _ _ _ _ _ _
  repeat refine IW.seq ?_
  refine IW.region_seq tab_ok [some 3] rfl fun X K hX hK => ?_
  simp only [go_sem]
  refine hK _ _ ?_; clear hX hK X K
  show IW _ _ _ _ _ _ _ _
  repeat refine IW.seq ?_
  refine IW.block ?_
  repeat refine IW.seq ?_
  refine IW.region_seq tab_ok [some 5, some 4] rfl fun X K hX hK => ?_
  simp only [go_sem]
  refine hK _ _ ?_; clear hX hK X K
  show IW _ _ _ _ _ _ _ _
  repeat refine IW.seq ?_
  refine IW.cond rfl (fun hb => absurd hb (by decide)) (fun hb => ?_)
  repeat refine IW.seq ?_
  refine IW.region_seq tab_ok [some 12, some 11] rfl fun X K hX hK => ?_
  simp only [go_sem]
  refine hK _ _ ?_; clear hX hK X K
  show IW _ _ _ _ _ _ _ _
  repeat refine IW.seq ?_
  refine IW.cond rfl (fun hb => absurd hb (by decide)) (fun hb => ?_)
  repeat refine IW.seq ?_
  refine IW.region_seq tab_ok [some 19, some 18] rfl fun X K hX hK => ?_
  simp only [go_sem]
  refine hK _ _ ?_; clear hX hK X K
  show IW _ _ _ _ _ _ _ _
  repeat refine IW.seq ?_
  refine IW.cond rfl (fun hb => absurd hb (by decide)) (fun hb => ?_)
  repeat refine IW.seq ?_
  refine IW.region_seq tab_ok [some 24, some 23] rfl fun X K hX hK => ?_
  simp only [go_sem]
  refine hK _ _ ?_; clear hX hK X K
  show IW _ _ _ _ _ _ _ _
  repeat refine IW.seq ?_
  refine IW.cond rfl (fun hb => absurd hb (by decide)) (fun hb => ?_)
  repeat refine IW.seq ?_
  refine IW.region_seq tab_ok [some 29, some 28] rfl fun X K hX hK => ?_
  simp only [go_sem]
  refine hK _ _ ?_; clear hX hK X K
  show IW _ _ _ _ _ _ _ _
  repeat refine IW.seq ?_
  refine IW.cond rfl (fun hb => absurd hb (by decide)) (fun hb => ?_)
  repeat refine IW.seq ?_
  refine IW.region_seq tab_ok [some 38, some 37] rfl fun X K hX hK => ?_
  simp only [go_sem]
  refine hK _ _ ?_; clear hX hK X K
  show IW _ _ _ _ _ _ _ _
  repeat refine IW.seq ?_
  refine IW.cond rfl (fun hb => absurd hb (by decide)) (fun hb => ?_)
  repeat refine IW.seq ?_
  refine IW.region_seq tab_ok [some 45, some 44] rfl fun X K hX hK => ?_
  simp only [go_sem]
  refine hK _ _ ?_; clear hX hK X K
  show IW _ _ _ _ _ _ _ _
  repeat refine IW.seq ?_
  refine IW.cond rfl (fun hb => absurd hb (by decide)) (fun hb => ?_)
  repeat refine IW.seq ?_
  refine IW.region_seq tab_ok [some 58, some 57] rfl fun X K hX hK => ?_
  simp only [go_sem]
  refine hK _ _ ?_; clear hX hK X K
  show IW _ _ _ _ _ _ _ _
  repeat refine IW.seq ?_
  refine IW.cond rfl (fun hb => ?_) (fun hb => absurd hb (by decide))
  repeat refine IW.seq ?_
  refine IW.region_seq tab_ok [some 59, some 2] rfl fun X K hX hK => ?_
  simp only [go_sem]
  refine hX.quiet _ _ (OpG.of_B rfl (opB_call rfl rfl h8)) ?_
  simp only [go_sem]
  refine hK _ _ ?_; clear hX hK X K
  show IW _ _ _ _ _ _ _ _
  refine IW.ret (Fin.scal rfl rfl rfl)
/-- Of another set there is none. -/
theorem fDrawNone (s : Int) (h : ∀ k : Int, 1 ≤ k → k ≤ 10 → s ≠ k) : FSpec Try.prog 49 [.int .i64 s] (.raw (.map none)) [] := by
  refine FSpec.intro tab_ok Try.func49 rfl rfl rfl (by kernel_rfl) (by simp) fun w0 => ?_
  simp only [argTM, Nat.zero_add, Nat.reduceAdd]
  repeat refine IW.seq ?_
  refine IW.region_seq tab_ok [some 2] rfl fun X K hX hK => ?_
  simp only [go_sem]
  refine hK _ _ ?_; clear hX hK X K
  show IW _ _ _ _ _ _ _ _
  repeat refine IW.seq ?_
  refine IW.region_seq tab_ok [some 3] rfl fun X K hX hK => ?_
  simp only [go_sem]
  refine hK _ _ ?_; clear hX hK X K
  show IW _ _ _ _ _ _ _ _
  repeat refine IW.seq ?_
  refine IW.block ?_
  have n1 : (s == 1) = false := by simpa using h 1 (by omega) (by omega)
  repeat refine IW.seq ?_
  refine IW.region_seq tab_ok [some 5, some 4] rfl fun X K hX hK => ?_
  simp only [go_sem, n1]
  refine hK _ _ ?_; clear hX hK X K
  show IW _ _ _ _ _ _ _ _
  repeat refine IW.seq ?_
  refine IW.cond rfl (fun hb => absurd hb (by decide)) (fun hb => ?_)
  have n2 : (s == 2) = false := by simpa using h 2 (by omega) (by omega)
  repeat refine IW.seq ?_
  refine IW.region_seq tab_ok [some 12, some 11] rfl fun X K hX hK => ?_
  simp only [go_sem, n2]
  refine hK _ _ ?_; clear hX hK X K
  show IW _ _ _ _ _ _ _ _
  repeat refine IW.seq ?_
  refine IW.cond rfl (fun hb => absurd hb (by decide)) (fun hb => ?_)
  have n3 : (s == 3) = false := by simpa using h 3 (by omega) (by omega)
  repeat refine IW.seq ?_
  refine IW.region_seq tab_ok [some 19, some 18] rfl fun X K hX hK => ?_
  simp only [go_sem, n3]
  refine hK _ _ ?_; clear hX hK X K
  show IW _ _ _ _ _ _ _ _
  repeat refine IW.seq ?_
  refine IW.cond rfl (fun hb => absurd hb (by decide)) (fun hb => ?_)
  have n4 : (s == 4) = false := by simpa using h 4 (by omega) (by omega)
  repeat refine IW.seq ?_
  refine IW.region_seq tab_ok [some 24, some 23] rfl fun X K hX hK => ?_
  simp only [go_sem, n4]
  refine hK _ _ ?_; clear hX hK X K
  show IW _ _ _ _ _ _ _ _
  repeat refine IW.seq ?_
  refine IW.cond rfl (fun hb => absurd hb (by decide)) (fun hb => ?_)
  have n5 : (s == 5) = false := by simpa using h 5 (by omega) (by omega)
  repeat refine IW.seq ?_
  refine IW.region_seq tab_ok [some 29, some 28] rfl fun X K hX hK => ?_
  simp only [go_sem, n5]
  refine hK _ _ ?_; clear hX hK X K
  show IW _ _ _ _ _ _ _ _
  repeat refine IW.seq ?_
  refine IW.cond rfl (fun hb => absurd hb (by decide)) (fun hb => ?_)
  have n6 : (s == 6) = false := by simpa using h 6 (by omega) (by omega)
  repeat refine IW.seq ?_
  refine IW.region_seq tab_ok [some 38, some 37] rfl fun X K hX hK => ?_
  simp only [go_sem, n6]
  refine hK _ _ ?_; clear hX hK X K
  show IW _ _ _ _ _ _ _ _
  repeat refine IW.seq ?_
  refine IW.cond rfl (fun hb => absurd hb (by decide)) (fun hb => ?_)
  have n7 : (s == 7) = false := by simpa using h 7 (by omega) (by omega)
  repeat refine IW.seq ?_
  refine IW.region_seq tab_ok [some 45, some 44] rfl fun X K hX hK => ?_
  simp only [go_sem, n7]
  refine hK _ _ ?_; clear hX hK X K
  show IW _ _ _ _ _ _ _ _
  repeat refine IW.seq ?_
  refine IW.cond rfl (fun hb => absurd hb (by decide)) (fun hb => ?_)
  have n8 : (s == 8) = false := by simpa using h 8 (by omega) (by omega)
  repeat refine IW.seq ?_
  refine IW.region_seq tab_ok [some 58, some 57] rfl fun X K hX hK => ?_
  simp only [go_sem, n8]
  refine hK _ _ ?_; clear hX hK X K
  show IW _ _ _ _ _ _ _ _
  repeat refine IW.seq ?_
  refine IW.cond rfl (fun hb => absurd hb (by decide)) (fun hb => ?_)
  have n10 : (s == 10) = false := by simpa using h 10 (by omega) (by omega)
  repeat refine IW.seq ?_
  refine IW.region_seq tab_ok [some 61, some 60] rfl fun X K hX hK => ?_
  simp only [go_sem, n10]
  refine hK _ _ ?_; clear hX hK X K
  show IW _ _ _ _ _ _ _ _
  repeat refine IW.seq ?_
  refine IW.cond rfl (fun hb => absurd hb (by decide)) (fun hb => ?_)
  have n9 : (s == 9) = false := by simpa using h 9 (by omega) (by omega)
  repeat refine IW.seq ?_
  refine IW.region_seq tab_ok [some 66, some 65] rfl fun X K hX hK => ?_
  simp only [go_sem, n9]
  refine hK _ _ ?_; clear hX hK X K
  show IW _ _ _ _ _ _ _ _
  repeat refine IW.seq ?_
  refine IW.cond rfl (fun hb => absurd hb (by decide)) (fun hb => ?_)
  refine IW.skip ?_
  show IW _ _ _ _ _ _ _ _
  repeat refine IW.seq ?_
  refine IW.region_seq tab_ok [some 2] rfl fun X K hX hK => ?_
  simp only [go_sem]
  refine hK _ _ ?_; clear hX hK X K
  show IW _ _ _ _ _ _ _ _
  refine IW.ret (Fin.scal rfl rfl rfl)
/-- The drawings of the sets but the ninth. -/
def drw : Int → Option (List (Int × List ByteArray))
  | 1 => some drw1 | 2 => some drw2 | 3 => some drw3 | 4 => some drw4 | 5 => some drw5 | 6 => some drw6 | 7 => some drw7 | 8 => some drw8 | 10 => some drw10
  | _ => none
theorem fDrw {s : Int} {d : List (Int × List ByteArray)} (h : drw s = some d) : FSpec Try.prog 49 [.int .i64 s] (mapC d) [] := by
  unfold drw at h
  split at h <;> cases h
  · exact dr_freeze fDraw1
  · exact dr_freeze fDraw2
  · exact dr_freeze fDraw3
  · exact dr_freeze fDraw4
  · exact dr_freeze fDraw5
  · exact dr_freeze fDraw6
  · exact dr_freeze fDraw7
  · exact fDraw8
  · exact dr_freeze fDraw10
end Go.Proofs.Ytnbpbehlemaeoaa

set_option linter.unusedVariables false
set_option linter.unusedSimpArgs false
set_option maxRecDepth 10000
namespace Go.Proofs.Ytnbpbehlemaeoaa
open Go.IL
theorem mapX_keysI : ∀ d : List (Int × List ByteArray), keysI (mapX d) = true
  | [] => rfl
  | e :: d => by show keysI ([.int .i64 e.1, _] :: mapX d) = true; simp only [keysI]; exact mapX_keysI d
theorem mapX_lk (v : Int) : ∀ d : List (Int × List ByteArray), lk v (mapX d) = (d.lookup v).map fun r => .sl false (strs r)
  | [] => rfl
  | (a, b) :: d => by
    show lk v ([.int .i64 a, .sl false (strs b)] :: mapX d) = _
    simp only [lk, List.lookup_cons]
    by_cases h : a = v
    · have h1 : (a == v) = true := by simpa using h
      have h2 : (v == a) = true := by simpa using h.symm
      rw [h1, h2]; rfl
    · have h1 : (a == v) = false := by simpa using h
      have h2 : (v == a) = false := by simpa using fun e => h e.symm
      rw [h1, h2]; exact mapX_lk v d
theorem mapX_ren (σ : Nat → Nat) (d : List (Int × List ByteArray)) : (mapC d).ren σ = mapC d := by
  have : renLL σ (mapX d) = mapX d := by
    rw [renLL_map]
    unfold mapX
    rw [List.map_map]
    exact List.map_congr_left fun e _ => by simp [renL, SV.ren, strs_ren]
  simp only [mapC, SV.ren, this]
theorem mapX_length (d : List (Int × List ByteArray)) : (mapX d).length = d.length := by simp [mapX]
theorem mapX_nomap : ∀ d : List (Int × List ByteArray), nomapLL (mapX d) = true
  | [] => rfl
  | e :: d => by show nomapLL ([SV.int .i64 e.1, SV.sl false (strs e.2)] :: mapX d) = true; simp [nomapLL, nomapL, SV.nomap, strs_nomap, mapX_nomap d]
/-- The drawings of a set are h rows of w characters. -/
def okD (w h : Nat) (d : List (Int × List ByteArray)) : Prop := ∀ e ∈ d, e.2.length = h ∧ ∀ i, i < h → (e.2.getD i default).size = w
def drawP (rows : List ByteArray) : List Int := rm ((rows.getD 0 default).size * rows.length) (drawF rows (rows.getD 0 default).size)
theorem fDraw' (rows : List ByteArray) (w h : Nat) (h0 : 0 < h) (hl : rows.length = h) (hw : ∀ i, i < h → (rows.getD i default).size = w) (hb1 : h ≤ 640) (hb2 : w ≤ 640) : FSpec Try.prog 53 [.sl true (strs rows)] (resI w h (drawP rows)) (resR (drawP rows)) := by
  have h1 := res_img (fDraw rows w (by omega) (fun i hi => hw i (by omega)) (by omega) hb2)
  have hw0 := hw 0 h0
  simp only [drawS, imgW, imgH, imgP, hw0, hl] at h1
  simp only [drawP, hw0, hl]
  exact h1
def gW (d : List (Int × List ByteArray)) (w : Nat) (v : Int) : Int := match d.lookup v with | some _ => w | none => 0
def gP (d : List (Int × List ByteArray)) (v : Int) : List Int := match d.lookup v with | some r => drawP r | none => []
def gE (d : List (Int × List ByteArray)) (v : Int) : Int := match d.lookup v with | some _ => 0 | none => 20
theorem lookup_mem' {d : List (Int × List ByteArray)} {v : Int} {r : List ByteArray} (h : d.lookup v = some r) : (v, r) ∈ d := by
  induction d with
  | nil => simp at h
  | cons e d ih =>
    rw [List.lookup_cons] at h
    by_cases c : v = e.1
    · subst c; simp at h; subst h; simp
    · have : (v == e.1) = false := by simpa using c
      rw [this] at h
      exact List.mem_cons_of_mem _ (ih h)
theorem fGlyph (s v : Int) (w h : Nat) (d : List (Int × List ByteArray)) (hd : FSpec Try.prog 49 [.int .i64 s] (mapC d) []) (hok : okD w h d) (h0 : 0 < h) (hb1 : h ≤ 640) (hb2 : w ≤ 640) :
    FSpec Try.prog 18 [.int .i64 s, .int .i64 v] (.tup [resI (gW d w v) (gW d h v) (gP d v), .int .i64 (gE d v)]) (resR (gP d v)) := by
  cases hv : d.lookup v with
  | none =>
    simp only [gW, gP, gE, hv]
    refine FSpec.ghost (sv := .tup [.agg [.int .i64 0, .int .i64 0, .nils], .int .i64 20]) ?_ fun F w v h => ?_
    · refine FSpec.intro tab_ok Try.func18 rfl rfl rfl (by kernel_rfl) (by simp) fun w0 => ?_
      simp only [argTM, Nat.zero_add, Nat.reduceAdd]
      repeat refine IW.seq ?_
      refine IW.region_seq tab_ok [some 4, some 5] rfl fun X K hX hK => ?_
      simp only [go_sem]
      refine hK _ _ ?_; clear hX hK X K
      show IW _ _ _ _ _ _ _ _
      repeat refine IW.seq ?_
      refine IW.region_seq tab_ok [some 9, some 10, some 11, some 12, some 8, some 13, some 14, some 6, some 7] rfl fun X K hX hK => ?_
      simp only [go_sem]
      refine hX.quiet _ _ (OpG.of_B rfl (opB_call rfl rfl hd)) ?_
      simp only [mapX_ren, go_sem]
      refine hX.quiet _ _ (OpG.of_B rfl (opB_lookup tab_ok rfl rfl m72 u3 (by simp [go_sem]) rfl rfl (mapX_keysI d))) ?_
      rw [mapX_lk, hv]
      simp only [go_sem, Option.map_none]
      refine hK _ _ ?_; clear hX hK X K
      show IW _ _ _ _ _ _ _ _
      repeat refine IW.seq ?_
      refine IW.region_seq tab_ok [some 15, some 16] rfl fun X K hX hK => ?_
      simp only [go_sem]
      refine hK _ _ ?_; clear hX hK X K
      show IW _ _ _ _ _ _ _ _
      repeat refine IW.seq ?_
      refine IW.cond rfl (fun _ => ?_) (fun hb => absurd hb (by decide))
      repeat refine IW.seq ?_
      refine IW.region_seq tab_ok [some 17, none, some 5] rfl fun X K hX hK => ?_
      simp only [go_sem]
      refine hX.op _ _ rfl (opS_store tab_ok rfl (by simp [go_sem]) (by simp [go_sem]) (by simp [go_sem]) (by simp [go_sem]) (by simp [go_sem]) (by simp [go_sem])) ?_
      simp only [go_sem]
      refine hK _ _ ?_; clear hX hK X K
      show IW _ _ _ _ _ _ _ _
      refine IW.ret ⟨⟨⟨trivial, by simp [go_sem]⟩, trivial, trivial⟩, rfl, rfl, [], rfl, by simp, ?_, trivial⟩
      rfl
    · cases h with
      | tup _ us hl hh =>
        refine .tup _ us hl fun i c u e1 e2 => ?_
        match i, e1 with
        | 0, e1 => cases e1; exact rel_agg3 (fun _ h => h) (fun _ h => h) (fun _ h => rel_ls_nil h) (hh 0 _ u rfl e2)
        | 1, e1 => cases e1; exact hh 1 _ u rfl e2
        | i + 2, e1 => simp at e1
  | some r =>
    simp only [gW, gP, gE, hv]
    obtain ⟨k1, k2⟩ := hok _ (lookup_mem' hv)
    have hdr := fDraw' r w h h0 k1 k2 hb1 hb2
    refine FSpec.intro tab_ok Try.func18 rfl rfl rfl (by kernel_rfl) (by simp) fun w0 => ?_
    simp only [argTM, Nat.zero_add, Nat.reduceAdd]
    repeat refine IW.seq ?_
    refine IW.region_seq tab_ok [some 4, some 5] rfl fun X K hX hK => ?_
    simp only [go_sem]
    refine hK _ _ ?_; clear hX hK X K
    show IW _ _ _ _ _ _ _ _
    repeat refine IW.seq ?_
    refine IW.region_seq tab_ok [some 9, some 10, some 11, some 12, some 8, some 13, some 14, some 6, some 7] rfl fun X K hX hK => ?_
    simp only [go_sem]
    refine hX.quiet _ _ (OpG.of_B rfl (opB_call rfl rfl hd)) ?_
    simp only [mapX_ren, go_sem]
    refine hX.quiet _ _ (OpG.of_B rfl (opB_lookup tab_ok rfl rfl m72 u3 (by simp [go_sem]) rfl rfl (mapX_keysI d))) ?_
    rw [mapX_lk, hv]
    simp only [go_sem, Option.map_some]
    refine hK _ _ ?_; clear hX hK X K
    show IW _ _ _ _ _ _ _ _
    repeat refine IW.seq ?_
    refine IW.region_seq tab_ok [some 15, some 16] rfl fun X K hX hK => ?_
    simp only [go_sem]
    refine hK _ _ ?_; clear hX hK X K
    show IW _ _ _ _ _ _ _ _
    repeat refine IW.seq ?_
    refine IW.cond rfl (fun hb => absurd hb (by decide)) (fun _ => ?_)
    refine IW.skip ?_
    show IW _ _ _ _ _ _ _ _
    repeat refine IW.seq ?_
    refine IW.region_seq tab_ok [some 18, some 19, none, some 5] rfl fun X K hX hK => ?_
    simp only [go_sem]
    refine hX.quiet _ _ (OpG.of_B rfl (opB_call rfl rfl (FSpec.nz (hdr) (by simp [go_sem, List.map_cons, List.map_nil, List.append_nil, opnd, unc, resI, resR])))) ?_
    simp only [go_sem, resI, resR]
    refine hX.op _ _ rfl (opS_store tab_ok rfl (by simp [go_sem]) (by simp [go_sem]) (by simp [go_sem]) (by simp [go_sem]) (by simp [go_sem]) (by simp [go_sem])) ?_
    simp only [go_sem]
    refine hK _ _ ?_; clear hX hK X K
    show IW _ _ _ _ _ _ _ _
    refine IW.ret ⟨⟨⟨trivial, by simp [go_sem]⟩, trivial, trivial⟩, by simp [go_sem, resI], by simp [go_sem, resR, rowsNold], [1], rfl, by simp, ?_, ?_⟩
    · simp [go_sem, resI, resAll, resSV]
    · exact ⟨by simp [go_sem], trivial⟩
end Go.Proofs.Ytnbpbehlemaeoaa

set_option linter.unusedVariables false
set_option linter.unusedSimpArgs false
set_option maxRecDepth 10000
namespace Go.Proofs.Ytnbpbehlemaeoaa
open Go.IL
theorem mapX_at {d : List (Int × List ByteArray)} {j : Nat} (h : j < d.length) : (mapX d).getD j [] = [.int .i64 (d.getD j (0, [])).1, .sl false (strs (d.getD j (0, [])).2)] := by simp [mapX, h]
theorem mapX_bnd (n : Nat) : ∀ d : List (Int × List ByteArray), bndLL n (mapX d) = true
  | [] => rfl
  | e :: d => by show bndLL n ([SV.int .i64 e.1, SV.sl false (strs e.2)] :: mapX d) = true; simp [bndLL, bndL, SV.bnd, strs_bnd, mapX_bnd n d]
theorem fSize (s : Int) (w h : Nat) (d : List (Int × List ByteArray)) (hd : FSpec Try.prog 49 [.int .i64 s] (mapC d) []) (hok : okD w h d) (h0 : 0 < h) (hne : 0 < d.length) : FSpec Try.prog 13 [.int .i64 s] (.tup [.int .i64 w, .int .i64 h]) [] := by
  refine FSpec.intro tab_ok Try.func13 rfl rfl rfl (by kernel_rfl) (by simp) fun w0 => ?_
  simp only [argTM, Nat.zero_add, Nat.reduceAdd]
  repeat refine IW.seq ?_
  refine IW.region_seq tab_ok [some 2, some 3] rfl fun X K hX hK => ?_
  simp only [go_sem]
  refine hK _ _ ?_; clear hX hK X K
  show IW _ _ _ _ _ _ _ _
  repeat refine IW.seq ?_
  refine IW.region_seq tab_ok [some 6, some 7, some 8] rfl fun X K hX hK => ?_
  simp only [go_sem]
  refine hX.quiet _ _ (OpG.of_B rfl (opB_call rfl rfl hd)) ?_
  simp only [mapX_ren, go_sem]
  refine hX.quiet _ _ (OpG.of_B rfl (opB_range (o := false) (xs := mapX d) rfl m72)) ?_
  simp only [go_sem]
  refine hK _ _ ?_; clear hX hK X K
  show IW _ _ _ _ _ _ _ _
  repeat refine IW.seq ?_
  refine IW.block ?_
  refine IW.loop (α := Unit) (fun _ => [(8, .it false (mapX d) [])]) (fun _ => []) (fun _ => 0) () ?_ fun _ => ?_
  · refine Ent.cut ?_ ?_ <;> simp only [go_sem, mapX_bnd]
  · show IW _ _ _ _ _ _ _ _
    repeat refine IW.seq ?_
    refine IW.region_seq tab_ok [some 9, some 10] rfl fun X K hX hK => ?_
    simp only [go_sem]
    refine hX.opn _ _ rfl (opN_next rfl (by simp [go_sem]) (mapX_nomap d) (by intro d e; cases e; decide)) fun c hc => ?_
    match c, hc with
    | none, hc => exact absurd (hc 0 (by rw [mapX_length]; exact hne)) (by simp)
    | some j, hc =>
      have hj : j < d.length := by have := hc.1; rwa [mapX_length] at this
      obtain ⟨k1, k2⟩ := hok _ (show d.getD j (0, []) ∈ d by simp [hj])
      generalize hr : d.getD j (0, []) = e at *
      simp only [nextTo, go_sem, mapX_at hj, hr]
      refine hK _ _ ?_; clear hX hK X K
      show IW _ _ _ _ _ _ _ _
      repeat refine IW.seq ?_
      refine IW.cond rfl (fun hb => ?_) (fun hb => absurd hb (by decide))
      refine IW.skip ?_
      show IW _ _ _ _ _ _ _ _
      repeat refine IW.seq ?_
      refine IW.block ?_
      repeat refine IW.seq ?_
      refine IW.region_seq tab_ok [some 11, some 12, some 5] rfl fun X K hX hK => ?_
      simp only [go_sem]
      refine hX.quiet _ _ (OpG.of_B rfl (opB_entry (seen := []) (j := j) rfl (by rw [mapX_length]; exact hj))) ?_
      simp only [go_sem, mapX_at hj, hr]
      refine hK _ _ ?_; clear hX hK X K
      show IW _ _ _ _ _ _ _ _
      have hlt0 : 0 < e.2.length := by omega
      have hs0 := k2 0 h0
      repeat refine IW.seq ?_
      refine IW.region_seq tab_ok [some 13, some 14, some 15, some 16, some 17, some 18, some 2, some 3] rfl fun X K hX hK => ?_
      simp only [go_sem, strs_at hlt0, hs0, k1]
      refine ⟨⟨by omega, by omega⟩, ?_⟩
      refine hK _ _ ?_; clear hX hK X K
      show IW _ _ _ _ _ _ _ _
      refine IW.ret ⟨⟨trivial, trivial, trivial⟩, rfl, rfl, [], rfl, List.nodup_nil, ?_, trivial⟩
      simp [go_sem, resAll, resSV]
end Go.Proofs.Ytnbpbehlemaeoaa

set_option linter.unusedVariables false
set_option linter.unusedSimpArgs false
set_option maxRecDepth 10000
namespace Go.Proofs
open Go.RowKit Go.Maps Go.Sort Go.Shelf
def Try.keysA_ren : Go.Shelf.Ren := ⟨fun | 7 => 51 | 10 => 78 | n => n, fun | 23 => 72 | 26 => 3 | 3 => 74 | 28 => 77 | 0 => 0 | 27 => 76 | 33 => 108 | 4 => 4 | n => n, fun | n => n⟩
theorem Try.keysA : Go.Proofs.SlLaysZI.n7 Try.prog Try.keysA_ren := {
  mixed := by kernel_rfl,
  f7 := ⟨Try.f51.name, by decide, Try.func51.trans (congrArg some (by kernel_rfl))⟩,
  f10 := ⟨Try.f78.name, by decide, Try.func78.trans (congrArg some (by kernel_rfl))⟩,
  t0 := Try.underlying0,
  a0 := Try.isAgg0,
  z0 := Try.sizeOf0,
  v0 := Try.zeroValue0,
  t4 := Try.underlying4,
  a4 := Try.isAgg4,
  z4 := Try.sizeOf4,
  v4 := Try.zeroValue4,
  t23 := Try.underlying72,
  a23 := Try.isAgg72,
  z23 := Try.sizeOf72,
  v23 := Try.zeroValue72,
  t26 := Try.underlying3,
  a26 := Try.isAgg3,
  z26 := Try.sizeOf3,
  v26 := Try.zeroValue3,
  t27 := Try.underlying76,
  a27 := Try.isAgg76,
  z27 := Try.sizeOf76,
  v27 := Try.zeroValue76,
  t28 := Try.underlying77,
  a28 := Try.isAgg77,
  z28 := Try.sizeOf77,
  v28 := Try.zeroValue77,
  t33 := Try.underlying108,
  a33 := Try.isAgg108,
  z33 := Try.sizeOf108,
  v33 := Try.zeroValue108 }
def Try.sortedA_ren : Go.Shelf.Ren := ⟨fun | 6 => 50 | 8 => 76 | 9 => 77 | 11 => 87 | 13 => 89 | 12 => 88 | 23 => 104 | 24 => 105 | 14 => 95 | 15 => 96 | 16 => 97 | 17 => 98 | 18 => 99 | 19 => 100 | 20 => 101 | 21 => 102 | 22 => 103 | 25 => 107 | 26 => 108 | 27 => 109 | 28 => 110 | 29 => 111 | 30 => 112 | 31 => 114 | n => n, fun | 26 => 3 | 28 => 77 | 24 => 23 | 0 => 0 | 3 => 3 | 37 => 121 | 48 => 138 | 50 => 124 | 4 => 4 | 40 => 131 | 39 => 130 | 45 => 135 | 5 => 5 | 9 => 9 | 51 => 140 | 55 => 144 | 57 => 146 | 58 => 24 | 33 => 108 | n => n, fun | n => n⟩
theorem Try.sortedA : Go.Proofs.SlLaysZI.n6 Try.prog Try.sortedA_ren := {
  mixed := by kernel_rfl,
  f6 := ⟨Try.f50.name, by decide, Try.func50.trans (congrArg some (by kernel_rfl))⟩,
  f8 := ⟨Try.f76.name, by decide, Try.func76.trans (congrArg some (by kernel_rfl))⟩,
  f11 := ⟨Try.f87.name, by decide, Try.func87.trans (congrArg some (by kernel_rfl))⟩,
  t0 := Try.underlying0,
  a0 := Try.isAgg0,
  z0 := Try.sizeOf0,
  v0 := Try.zeroValue0,
  t24 := Try.underlying23,
  a24 := Try.isAgg23,
  z24 := Try.sizeOf23,
  v24 := Try.zeroValue23,
  t26 := Try.underlying3,
  a26 := Try.isAgg3,
  z26 := Try.sizeOf3,
  v26 := Try.zeroValue3,
  t28 := Try.underlying77,
  a28 := Try.isAgg77,
  z28 := Try.sizeOf77,
  v28 := Try.zeroValue77,
  i26 := by kernel_rfl }
def Try.sortA_ren : Go.Shelf.Ren := ⟨fun | 5 => 77 | 8 => 89 | 7 => 88 | 19 => 104 | 20 => 105 | 10 => 95 | 11 => 96 | 12 => 97 | 13 => 98 | 14 => 99 | 15 => 100 | 16 => 101 | 17 => 102 | 18 => 103 | 30 => 107 | 31 => 108 | 32 => 109 | 33 => 110 | 34 => 111 | 35 => 112 | 40 => 114 | n => n, fun | 23 => 23 | 25 => 3 | 3 => 3 | 32 => 121 | 22 => 23 | 0 => 0 | 44 => 138 | 46 => 124 | 4 => 4 | 36 => 131 | 35 => 130 | 41 => 135 | 5 => 5 | 9 => 9 | 53 => 140 | 57 => 144 | 63 => 146 | 64 => 24 | n => n, fun | n => n⟩
theorem Try.sortA : Go.Proofs.SlLaysM.n5 Try.prog Try.sortA_ren := {
  mixed := by kernel_rfl,
  f5 := ⟨Try.f77.name, by decide, Try.func77.trans (congrArg some (by kernel_rfl))⟩,
  f7 := ⟨Try.f88.name, by decide, Try.func88.trans (congrArg some (by kernel_rfl))⟩,
  f8 := Try.func89.trans (congrArg some (by kernel_rfl)),
  f10 := ⟨Try.f95.name, by decide, Try.func95.trans (congrArg some (by kernel_rfl))⟩,
  f11 := ⟨Try.f96.name, by decide, Try.func96.trans (congrArg some (by kernel_rfl))⟩,
  f12 := ⟨Try.f97.name, by decide, Try.func97.trans (congrArg some (by kernel_rfl))⟩,
  f13 := ⟨Try.f98.name, by decide, Try.func98.trans (congrArg some (by kernel_rfl))⟩,
  f14 := ⟨Try.f99.name, by decide, Try.func99.trans (congrArg some (by kernel_rfl))⟩,
  f15 := ⟨Try.f100.name, by decide, Try.func100.trans (congrArg some (by kernel_rfl))⟩,
  f16 := ⟨Try.f101.name, by decide, Try.func101.trans (congrArg some (by kernel_rfl))⟩,
  f17 := ⟨Try.f102.name, by decide, Try.func102.trans (congrArg some (by kernel_rfl))⟩,
  f18 := ⟨Try.f103.name, by decide, Try.func103.trans (congrArg some (by kernel_rfl))⟩,
  f19 := Try.func104.trans (congrArg some (by kernel_rfl)),
  f20 := Try.func105.trans (congrArg some (by kernel_rfl)),
  f30 := ⟨Try.f107.name, by decide, Try.func107.trans (congrArg some (by kernel_rfl))⟩,
  f31 := Try.func108.trans (congrArg some (by kernel_rfl)),
  f32 := Try.func109.trans (congrArg some (by kernel_rfl)),
  f33 := ⟨Try.f110.name, by decide, Try.func110.trans (congrArg some (by kernel_rfl))⟩,
  f34 := ⟨Try.f111.name, by decide, Try.func111.trans (congrArg some (by kernel_rfl))⟩,
  f35 := ⟨Try.f112.name, by decide, Try.func112.trans (congrArg some (by kernel_rfl))⟩,
  f40 := ⟨Try.f114.name, by decide, Try.func114.trans (congrArg some (by kernel_rfl))⟩,
  t0 := Try.underlying0,
  a0 := Try.isAgg0,
  z0 := Try.sizeOf0,
  v0 := Try.zeroValue0,
  t3 := Try.underlying3,
  a3 := Try.isAgg3,
  z3 := Try.sizeOf3,
  v3 := Try.zeroValue3,
  t4 := Try.underlying4,
  a4 := Try.isAgg4,
  z4 := Try.sizeOf4,
  v4 := Try.zeroValue4,
  t5 := Try.underlying5,
  a5 := Try.isAgg5,
  z5 := Try.sizeOf5,
  v5 := Try.zeroValue5,
  t9 := Try.underlying9,
  a9 := Try.isAgg9,
  z9 := Try.sizeOf9,
  v9 := Try.zeroValue9,
  t22 := Try.underlying23,
  a22 := Try.isAgg23,
  z22 := Try.sizeOf23,
  v22 := Try.zeroValue23,
  t23 := Try.underlying23,
  a23 := Try.isAgg23,
  z23 := Try.sizeOf23,
  v23 := Try.zeroValue23,
  t25 := Try.underlying3,
  a25 := Try.isAgg3,
  z25 := Try.sizeOf3,
  v25 := Try.zeroValue3,
  t32 := Try.underlying121,
  a32 := Try.isAgg121,
  z32 := Try.sizeOf121,
  v32 := Try.zeroValue121,
  t35 := Try.underlying130,
  a35 := Try.isAgg130,
  z35 := Try.sizeOf130,
  v35 := Try.zeroValue130,
  t36 := Try.underlying131,
  a36 := Try.isAgg131,
  z36 := Try.sizeOf131,
  v36 := Try.zeroValue131,
  t41 := Try.underlying135,
  a41 := Try.isAgg135,
  z41 := Try.sizeOf135,
  v41 := Try.zeroValue135,
  t44 := Try.underlying138,
  a44 := Try.isAgg138,
  z44 := Try.sizeOf138,
  v44 := Try.zeroValue138,
  t46 := Try.underlying124,
  a46 := Try.isAgg124,
  z46 := Try.sizeOf124,
  v46 := Try.zeroValue124,
  t53 := Try.underlying140,
  a53 := Try.isAgg140,
  z53 := Try.sizeOf140,
  v53 := Try.zeroValue140,
  t57 := Try.underlying144,
  a57 := Try.isAgg144,
  z57 := Try.sizeOf144,
  v57 := Try.zeroValue144,
  t63 := Try.underlying146,
  a63 := Try.isAgg146,
  z63 := Try.sizeOf146,
  v63 := Try.zeroValue146,
  t64 := Try.underlying24,
  a64 := Try.isAgg24,
  z64 := Try.sizeOf24,
  v64 := Try.zeroValue24 }
theorem Try.sortsA (m : Nat) : AnyZI.SortsIn Try.prog Try.sortedA_ren Fence.wide m :=
  ⟨fun blk off cap ss W hH hblk hsz => callsIn_wide.2 (AnyM.slices_Sort_int Try.sortA blk off cap ss W hH hblk hsz),
   fun p cap W => callsIn_wide.2 (AnyM.slices_Sort_int_none Try.sortA p cap W)⟩
end Go.Proofs
namespace Go.Proofs.Ytnbpbehlemaeoaa
open Go.IL
/-- A row that a call has made, or none. -/
theorem own_row {ρ : Rho} {O F : Nat → Prop} {w w' : World} {h : Heap} (hs : Sat ρ O F h w) (hfree : ρ h.length = none) (hb : RowKit.Below w.heap.size w w') {e : TypeId} {k n : Nat} {v : Value} {news : List Value} (he : e < softK) (hk : 0 < k) (hown : w'.ownsRow w.heap.size e k v n news)
    {ys : List (List SV)} (hl : ys.length = n) (hw : ∀ y ∈ ys, y.length = k) (hc : ∀ (i j : Nat) (x : List SV) (y : SV), ys[i]? = some x → x[j]? = some y → ∃ u, news[i * k + j]? = some u ∧ ∀ (ρ : Rho) (O F : Nat → Prop) (w : World), VRel ρ O F w y u) :
    ∃ ρ', Ext ρ F w ρ' F w' ∧ (∀ id, ρ' id ≠ ρ id → id = h.length) ∧ Sat ρ' O F (h ++ [some ⟨k, e, ys⟩]) w' ∧ VRel ρ' O F w' (lsV h.length n) v := by
  have hext : Ext ρ F w ρ F w' := ⟨fun _ _ e => e, fun id ri e e' => (by rw [e'] at e; cases e), fun _ e => e, fun _ e e' => absurd e e', hb⟩
  rcases hown.2 with ⟨rfl, h0⟩ | ⟨g, cap, cur, rfl, g0, g1, g2, g3, g4, g5⟩
  · subst h0
    refine ⟨ρ, hext, fun id e => absurd rfl e, ⟨fun id r ri e1 e2 => ?_, fun id id' r r' ri ri' e1 e1' e2 e2' hbb => ?_, fun b hb' => Nat.lt_of_lt_of_le (hs.lt b hb') hb.size⟩, rel_ls_nil .nils⟩
    · have hid : id < h.length := by
        rcases Nat.lt_trichotomy id h.length with h' | h' | h'
        · exact h'
        · rw [h', hfree] at e2; cases e2
        · rw [List.getElem?_eq_none (by simp; omega)] at e1; cases e1
      rw [List.getElem?_append_left hid] at e1
      exact (hs.row id r ri e1 e2).ext hs.lt hext
    · have key : ∀ id r ri, (h ++ [some (⟨k, e, ys⟩ : Row)])[id]? = some (some r) → ρ id = some ri → h[id]? = some (some r) := fun id r ri e1 e2 => by
        have hid : id < h.length := by
          rcases Nat.lt_trichotomy id h.length with h' | h' | h'
          · exact h'
          · rw [h', hfree] at e2; cases e2
          · rw [List.getElem?_eq_none (by simp; omega)] at e1; cases e1
        rw [List.getElem?_append_left hid] at e1; exact e1
      exact hs.inj id id' r r' ri ri' (key id r ri e1 e2) (key id' r' ri' e1' e2') e2 e2' hbb
  · have hx : Ext ρ F w (fun id => if id = h.length then some ⟨g, k, cap * k⟩ else ρ id) F w' := by
      refine ⟨fun id ri e => ?_, fun id ri e e' => ?_, fun _ e => e, fun _ e e' => absurd e e', hb⟩
      · rw [if_neg]
        · exact e
        · rintro rfl; rw [hfree] at e; cases e
      · by_cases c : id = h.length
        · simp only [if_pos c] at e; cases e; exact g0
        · simp only [if_neg c] at e; rw [e'] at e; cases e
    refine ⟨_, hx, fun id e => ?_, ⟨fun id r ri e1 e2 => ?_, fun id id' r r' ri ri' e1 e1' e2 e2' hbb => ?_, fun b hb' => Nat.lt_of_lt_of_le (hs.lt b hb') hb.size⟩, ?_⟩
    · by_cases c : id = h.length
      · exact c
      · simp only [if_neg c] at e; exact absurd rfl e
    · by_cases c : id = h.length
      · subst c
        simp only [if_true] at e2
        cases e2
        rw [List.getElem?_append_right (Nat.le_refl _), Nat.sub_self] at e1
        simp at e1; subst e1
        refine ⟨rfl, fun ho => by have := hs.lt _ (.inl ho); simp only at this; omega, fun hf => by have := hs.lt _ (.inr hf); simp only at this; omega, hw, cur, by rw [tyE_hard he, frE_hard he]; exact g1, g4, by rw [hl, g4]; exact Nat.mul_le_mul_right _ g2, fun i j x y f1 f2 => ?_⟩
        obtain ⟨u, a1, a2⟩ := hc i j x y f1 f2
        refine ⟨u, ?_, a2 _ _ _ _⟩
        rw [← g5, List.getElem?_take] at a1
        split at a1
        · simpa using a1
        · cases a1
      · simp only [if_neg c] at e2
        have hid : id < h.length := by
          rcases Nat.lt_trichotomy id h.length with h' | h' | h'
          · exact h'
          · exact absurd h' c
          · rw [List.getElem?_eq_none (by simp; omega)] at e1; cases e1
        rw [List.getElem?_append_left hid] at e1
        exact (hs.row id r ri e1 e2).ext hs.lt hx
    · have old : ∀ id r ri, id ≠ h.length → (h ++ [some (⟨k, e, ys⟩ : Row)])[id]? = some (some r) → ρ id = some ri → h[id]? = some (some r) ∧ ri.b < w.heap.size := fun id r ri c e1 e2 => by
        have hid : id < h.length := by
          rcases Nat.lt_trichotomy id h.length with h' | h' | h'
          · exact h'
          · exact absurd h' c
          · rw [List.getElem?_eq_none (by simp; omega)] at e1; cases e1
        rw [List.getElem?_append_left hid] at e1
        exact ⟨e1, (hs.row id r ri e1 e2).lt⟩
      by_cases c : id = h.length <;> by_cases c' : id' = h.length
      · rw [c, c']
      · simp only [if_pos c] at e2; simp only [if_neg c'] at e2'
        cases e2
        have := (old id' r' ri' c' e1' e2').2
        simp only at hbb; omega
      · simp only [if_neg c] at e2; simp only [if_pos c'] at e2'
        cases e2'
        have := (old id r ri c e1 e2).2
        simp only at hbb; omega
      · simp only [if_neg c] at e2; simp only [if_neg c'] at e2'
        exact hs.inj id id' r r' ri ri' (old id r ri c e1 e2).1 (old id' r' ri' c' e1' e2').1 e2 e2' hbb
    · refine rel_ls ?_
      have := VRel.ref (ρ := fun id => if id = h.length then some (⟨g, k, cap * k⟩ : RI) else ρ id) (O := O) (F := F) (w := w') h.length 0 n cap ⟨g, k, cap * k⟩ (by simp) g2 (by simp) (by simpa [maxLen] using g3)
      simpa using this
theorem fKeys0 (r : Option Nat) : FSpec Try.prog 51 [.raw (.map r)] (.clo 78 [.ptr 0 0 0]) [⟨1, 72, [[.raw (.map r)]]⟩] := by
  refine FSpec.intro tab_ok Try.func51 rfl rfl rfl (by kernel_rfl) (by simp) fun w0 => ?_
  simp only [argTM, Nat.zero_add, Nat.reduceAdd]
  repeat refine IW.seq ?_
  refine IW.region_seq tab_ok [some 1, some 2] rfl fun X K hX hK => ?_
  simp only [go_sem]
  refine hK _ _ ?_; clear hX hK X K
  show IW _ _ _ _ _ _ _ _
  repeat refine IW.seq ?_
  refine IW.region_seq tab_ok [some 3, some 2] rfl fun X K hX hK => ?_
  simp only [go_sem]
  refine hK _ _ ?_; clear hX hK X K
  show IW _ _ _ _ _ _ _ _
  refine IW.ret ⟨⟨trivial, trivial⟩, rfl, rfl, [0], rfl, by decide, ?_, ?_⟩
  · simp [go_sem, resAll, resSV]
  · simp [go_sem, subH]
/-- maps.Keys -/
theorem opKeys {dst : Option Nat} {x : Operand} {ats : Array TypeId} {ty : TypeId} {pos : String} {after : Array Edge} {guard : Option (Nat × Bool)} {g : Operand → SV} {h : Heap} {o : Bool} {xs : List (List SV)}
    (hx : g x = .mp o xs) : OpB Try.prog ⟨dst, .call ⟨.value (.func 51), #[x], ats⟩, ty, pos, after, guard⟩ g h ((SV.clo 78 [.ptr 0 0 0]).ren (h.length + ·)) [some ⟨1, 72, [[.mp o xs]]⟩] := by
  refine opB_callV _ fun ρ O F w vs hl hr => ?_
  match vs, hl with
  | [v], _ =>
    have hv := hr 0 x v rfl rfl
    rw [hx] at hv
    have hv' : ∃ b, v = .map (some b) := by cases hv; exact ⟨_, rfl⟩
    obtain ⟨b, rfl⟩ := hv'
    refine ⟨[.raw (.map (some b))], _, fKeys0 (some b), rfl, ?_, rfl, ?_⟩
    · intro i s v' ρ' O' F' w' e1 e2
      match i, e1, e2 with
      | 0, e1, e2 => cases e1; cases e2; exact .raw _
      | i + 1, e1, e2 => simp at e1
    · intro ρ' F' w' hg hs
      refine hs.retell rfl fun i r' e => ?_
      match i, e with
      | 0, e =>
        cases e
        refine ⟨_, rfl, rfl, rfl, rfl, by simp, fun i j x' y' e1 e2 => ?_⟩
        match i, j, e1, e2 with
        | 0, 0, e1, e2 =>
          cases e1; cases e2
          refine ⟨_, _, rfl, rfl, fun v hv => ?_⟩
          cases hv
          have := hg 0 x _ rfl rfl
          rw [hx] at this; exact this
        | 0, j + 1, e1, e2 => cases e1; simp at e2
        | i + 1, _, e1, _ => simp at e1
      | i + 1, e => simp at e
end Go.Proofs.Ytnbpbehlemaeoaa

set_option linter.unusedVariables false
set_option linter.unusedSimpArgs false
set_option maxRecDepth 10000
namespace Go.Proofs.Ytnbpbehlemaeoaa
open Go.IL
open Go.WideElems (Fit rd rg)
def keysD (d : List (Int × List ByteArray)) : List Int := d.map (·.1)
/-- What the kit's reader is told of an element: nothing. -/
def dumR : Value → Option (DataW Unit × List MemPlace) := fun _ => some (.nil, [])
theorem insert_perm {H : Type} (x : Lit × DataW H) : ∀ l : List (Lit × DataW H), (DataW.insert x l).Perm (x :: l)
  | [] => .refl _
  | y :: r => by
    unfold DataW.insert
    split
    · exact .refl _
    · exact ((insert_perm x r).cons y).trans (.swap x y r)
theorem foldr_perm {H : Type} : ∀ l : List (Lit × DataW H), (l.foldr DataW.insert []).Perm l
  | [] => .refl _
  | x :: r => (insert_perm x _).trans ((foldr_perm r).cons x)
theorem sorted_eq {a b : List Int} (hp : a.Perm b) (ha : a.Pairwise (· ≤ ·)) (hb : b.Pairwise (· ≤ ·)) : a = b := hp.eq_of_pairwise (fun x y _ _ h1 h2 => by omega) ha hb
theorem mergeSort_eq {ss ks : List Int} (hp : ss.Perm ks) (hs : ks.Pairwise (· < ·)) : (ss.mergeSort fun x y => decide (x ≤ y)) = ks := by
  refine sorted_eq ((List.mergeSort_perm _ _).trans hp) ?_ (hs.imp fun h => by omega)
  have := List.pairwise_mergeSort (le := fun x y : Int => decide (x ≤ y)) (fun a b c h1 h2 => by simp at h1 h2 ⊢; omega) (fun a b => by simp; omega) ss
  exact this.imp fun h => by simpa using h
theorem owns_map {ρ : Rho} {O F : Nat → Prop} {w : World} {o : Bool} {d : List (Int × List ByteArray)} {v : Value} (h : VRel ρ O F w (.mp o (mapX d)) v) (hs : (keysD d).Pairwise (· < ·)) (hb : ∀ k ∈ keysD d, I64 k) (hl : d.length ≤ 1000) :
    ∃ b D0, v = .map (some b) ∧ w.ownsMap Try.prog 3 dumR b d.length D0 ∧ (_root_.Go.intKeys D0).Perm (keysD d) ∧ Maps.size D0 = d.length := by
  cases h with
  | mp _ _ b es cs hbl hw hk hn he hr =>
    have hlen : (mapX d).length = d.length := mapX_length d
    rw [hlen] at hn hw he
    have hkey : ∀ i, i < d.length → es[i]? = some ⟨.int .i64 (d.getD i (0, [])).1, cs i 1, i⟩ := fun i hi => by
      have h1 := hr i 0 [.int .i64 (d.getD i (0, [])).1, .sl false (strs (d.getD i (0, [])).2)] (.int .i64 (d.getD i (0, [])).1) (by simp [mapX, hi]) rfl
      rw [he i hi]
      generalize cs i 0 = c at h1
      cases h1; rfl
    have hesl : es.toList = (List.range d.length).map fun i => ⟨.int .i64 (d.getD i (0, [])).1, cs i 1, i⟩ := by
      apply List.ext_getElem?
      intro i
      rw [Array.getElem?_toList]
      rcases Nat.lt_or_ge i d.length with hi | hi
      · rw [hkey i hi]; simp [hi]
      · rw [Array.getElem?_eq_none (by omega)]; simp [hi]
    have hkb : ∀ i, i < d.length → I64 (d.getD i (0, [])).1 := fun i hi => hb _ (List.mem_map.2 ⟨d.getD i (0, []), by simp [hi], rfl⟩)
    have hwf : ∀ n, I64 n → (Lit.int .i64 n).wf = true := fun n hn => by
      have e1 : IntKind.i64.min = -9223372036854775808 := rfl
      have e2 : IntKind.i64.max = 9223372036854775807 := rfl
      simp [Lit.wf, e1, e2, hn.1, hn.2]
    have hrd : ∀ i, i < d.length → rd Try.prog 3 dumR ⟨.int .i64 (d.getD i (0, [])).1, cs i 1, i⟩ = some (.int .i64 (d.getD i (0, [])).1, (.nil : DataW Unit)) := fun i hi => by
      have hk := Maps.keyOf_int_mk u3 (hwf _ (hkb i hi))
      simp only [rd, dumR, hk]
      rfl
    have hD : es.toList.map (rg Try.prog 3 dumR) = d.map fun e => (.int .i64 e.1, (.nil : DataW Unit)) := by
      rw [hesl, List.map_map]
      apply List.ext_getElem
      · simp
      · intro i h1 h2
        simp at h1
        simp only [List.getElem_map, List.getElem_range, Function.comp, rg, hrd i h1, Option.getD_some]
        simp [h1]
    refine ⟨b, .map ((es.toList.map (rg Try.prog 3 dumR)).foldr DataW.insert []), rfl, ⟨es, d.length, hw, ⟨by simp [maxLen]; omega, ⟨?_, ?_, ?_⟩, ?_⟩, by omega, rfl⟩, ?_, ?_⟩
    · rw [hesl]; intro x hx
      obtain ⟨i, hi, rfl⟩ := List.mem_map.1 hx
      exact List.mem_range.1 hi
    · rw [hesl, List.map_map]
      have : (List.range d.length).map ((fun x : MapEntry => x.born) ∘ fun i => (⟨.int .i64 (d.getD i (0, [])).1, cs i 1, i⟩ : MapEntry)) = List.range d.length := by
        conv => rhs; rw [← List.map_id (List.range d.length)]
        exact List.map_congr_left fun i _ => rfl
      rw [this]; exact List.nodup_range
    · rw [hesl, List.map_map]
      have : (List.range d.length).map ((fun x : MapEntry => x.key) ∘ fun i => (⟨.int .i64 (d.getD i (0, [])).1, cs i 1, i⟩ : MapEntry)) = (keysD d).map (Value.int .i64) := by
        apply List.ext_getElem
        · simp [keysD]
        · intro i h1 h2; simp at h1; simp [keysD, h1]
      rw [this]
      have hnd : (keysD d).Nodup := hs.imp fun h e => by omega
      exact (List.pairwise_map.2 (hnd.imp fun h e => h (by cases e; rfl)))
    · rw [hesl]; intro x hx
      obtain ⟨i, hi, rfl⟩ := List.mem_map.1 hx
      exact ⟨_, hrd i (List.mem_range.1 hi)⟩
    · show (((es.toList.map (rg Try.prog 3 dumR)).foldr DataW.insert []).map fun p => _root_.Go.intOf p.1).Perm _
      refine ((foldr_perm _).map _).trans ?_
      rw [hD, List.map_map]
      exact .of_eq (List.map_congr_left fun e _ => rfl)
    · show ((es.toList.map (rg Try.prog 3 dumR)).foldr DataW.insert []).length = _
      rw [(foldr_perm _).length_eq, List.length_map, Array.length_toList, hn]
/-- slices.Sorted of a map's keys -/
theorem opSorted {dst : Option Nat} {x : Operand} {ats : Array TypeId} {ty : TypeId} {pos : String} {after : Array Edge} {guard : Option (Nat × Bool)} {g : Operand → SV} {h : Heap} {id : Nat} {o : Bool} {d : List (Int × List ByteArray)}
    (hx : g x = .clo 78 [.ptr id 0 0]) (hr : hrow h id = some ⟨1, 72, [[.mp o (mapX d)]]⟩) (hs : (keysD d).Pairwise (· < ·)) (hb : ∀ k ∈ keysD d, I64 k) (hl : d.length ≤ 1000) :
    OpB Try.prog ⟨dst, .call ⟨.value (.func 50), #[x], ats⟩, ty, pos, after, guard⟩ g h (lsV h.length (keysD d).length) [some ⟨1, 3, nums .i64 (keysD d)⟩] := by
  intro ρ O F w a hsat hrl hfree next Q hn
  have hv := hrl x (by simp [Op.operands, Call.operands])
  rw [hx] at hv
  generalize hax : a.eval x = ax at hv
  cases hv with
  | clo _ _ vs hl2 hh =>
  obtain ⟨l⟩ := vs
  match l, hl2 with
  | [u], _ =>
  have hu := hh 0 _ u rfl rfl
  cases hu with
  | ptr _ _ _ ri hρ =>
  have hR := hsat.row id _ ri (hrow_some hr) hρ
  obtain ⟨arr, e1, e2, e3, e4⟩ := hR.cells
  obtain ⟨mv, hm1, hm2⟩ := e4 0 0 [.mp o (mapX d)] (.mp o (mapX d)) rfl rfl
  obtain ⟨b, D0, rfl, hown, hperm, hsz⟩ := owns_map hm2 hs hb hl
  have hbl : ri.b < w.heap.size := hR.lt
  have hcell : w.cell? ⟨ri.b, 0, none⟩ = some (.map (some b)) := by simp only [World.cell?, e1]; simpa using hm1
  have hadr : (⟨ri.b, 0 * ri.k + 0, none⟩ : Addr) = ⟨ri.b, 0, none⟩ := by simp
  rw [hadr] at hax
  have hseq := AnyZI.keys_gives (ρ := Try.keysA_ren) { Try.keysA with } Fence.wide 2 trivial rfl (by omega) ri.b b d.length D0 w hbl hcell hown
  have cS := AnyZI.sorted_in Try.sortedA Fence.wide 5 trivial trivial trivial trivial rfl (by omega) (Try.sortsA _) (enters_of Try.func77 (by kernel_rfl) rfl) 78 #[.pointer (some ⟨ri.b, 0, none⟩)] trivial (enters_of Try.func78 (by kernel_rfl) rfl) _ (Maps.size D0) (by simp [hsz, maxLen]; omega) (by omega) _ hseq
  have cC := (callsIn_wide (n := 5)).1 cS
  change Calls Try.prog 50 _ _ _ at cC
  have hexec : (execOp a.eval ⟨dst, .call ⟨.value (.func 50), #[x], ats⟩, ty, pos, after, guard⟩).run Try.prog w = .ok (.enter 50 #[.func (.func 78) #[] #[.pointer (some ⟨ri.b, 0, none⟩)]]) w := by
    simp only [execOp, resolve, show a.eval (.func 50) = .func (.func 50) #[] #[] from rfl, Deferred.ofValue]
    rw [run_bind, run_pure]
    simp only [invoke, Array.empty_append, Array.append_empty, List.map_toArray, List.map_cons, List.map_nil, hax]
    exact enters_of Try.func50 (by kernel_rfl) rfl _ _
  simp only [Oper.wp, hexec, Oper.upon]
  refine cC.mono fun e w' hp => ?_
  obtain ⟨v, ss, rfl, hS, hrow, hnil, hbw⟩ := hp
  have hpk : ss.Perm (keysD d) := hS.trans hperm
  have hms := mergeSort_eq hpk hs
  rw [hms, hpk.length_eq] at hrow
  obtain ⟨ρ', hx', hid, hs', hv'⟩ := own_row hsat (hfree _ (Nat.le_refl _) (by simp)) hbw (e := 3) (k := 1) (by decide) (by omega) hrow (ys := nums .i64 (keysD d)) (by simp [nums]) (nums_w _ _) (fun i j x y f1 f2 => by
    rw [nums, List.getElem?_map] at f1
    obtain ⟨n, h1, rfl⟩ := Option.map_eq_some_iff.1 f1
    match j, f2 with
    | 0, f2 => cases f2; exact ⟨.int .i64 n, by simp [h1], fun _ _ _ _ => .int _ _⟩
    | j + 1, f2 => simp at f2)
  exact hn v ρ' F w' hx' (fun id e => by rw [hid id e]; simp) hs' hv'
theorem fValues (s : Int) (d : List (Int × List ByteArray)) (hd : FSpec Try.prog 49 [.int .i64 s] (mapC d) []) (hs : (keysD d).Pairwise (· < ·)) (hb : ∀ k ∈ keysD d, I64 k) (hl : d.length ≤ 1000) : FSpec Try.prog 16 [.int .i64 s] (lsV 0 (keysD d).length) [⟨1, 3, nums .i64 (keysD d)⟩] := by
  refine FSpec.intro tab_ok Try.func16 rfl rfl rfl (by kernel_rfl) (by simp) fun w0 => ?_
  simp only [argTM, Nat.zero_add, Nat.reduceAdd]
  repeat refine IW.seq ?_
  refine IW.region_seq tab_ok [some 2] rfl fun X K hX hK => ?_
  simp only [go_sem]
  refine hK _ _ ?_; clear hX hK X K
  show IW _ _ _ _ _ _ _ _
  repeat refine IW.seq ?_
  refine IW.region_seq tab_ok [some 3, some 4, some 5, some 6, some 2] rfl fun X K hX hK => ?_
  simp only [go_sem]
  refine hX.quiet _ _ (OpG.of_B rfl (opB_call rfl rfl hd)) ?_
  simp only [mapX_ren, go_sem]
  refine hX.quiet _ _ (OpG.of_B rfl (opKeys (o := false) (xs := mapX d) rfl)) ?_
  simp only [go_sem]
  refine hX.quiet _ _ (OpG.of_B rfl (opSorted (d := d) rfl rfl hs hb hl)) ?_
  simp only [go_sem]
  refine hK _ _ ?_; clear hX hK X K
  show IW _ _ _ _ _ _ _ _
  refine IW.ret (Fin.tmp1 1 (by simp [go_sem]) (by simp [go_sem]) (by simp [go_sem]) (by simp [go_sem]))
end Go.Proofs.Ytnbpbehlemaeoaa
