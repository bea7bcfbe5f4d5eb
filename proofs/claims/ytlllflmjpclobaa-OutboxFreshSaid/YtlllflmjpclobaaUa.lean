import Derived.Test.YtlllflmjpclobaaEb
import Derived.Test.YtlllflmjpclobaaProg
set_option linter.unusedVariables false
set_option linter.unusedSimpArgs false
section
set_option linter.unusedVariables false
set_option linter.unusedSimpArgs false
namespace Go.Proofs.T
open Go.Ev
theorem ag3 : aggOf Try.prog 3 = some false := by kernel_rfl
theorem sz3 : szOf Try.prog 3 = some 1 := by kernel_rfl
theorem und3 : Try.prog.underlying 3 = some (.int IntKind.i64) := by kernel_rfl
theorem ag9 : aggOf Try.prog 9 = some false := by kernel_rfl
theorem sz9 : szOf Try.prog 9 = some 1 := by kernel_rfl
theorem und9 : Try.prog.underlying 9 = some .string := by kernel_rfl
theorem ag22 : aggOf Try.prog 22 = some false := by kernel_rfl
theorem sz22 : szOf Try.prog 22 = some 1 := by kernel_rfl
theorem und22 : Try.prog.underlying 22 = some (.slice 63) := by kernel_rfl
theorem el22 : elemOfSlice Try.prog 22 = some 63 := by kernel_rfl
theorem ag23 : aggOf Try.prog 23 = some false := by kernel_rfl
theorem sz23 : szOf Try.prog 23 = some 1 := by kernel_rfl
theorem und23 : Try.prog.underlying 23 = some (.slice 26) := by kernel_rfl
theorem el23 : elemOfSlice Try.prog 23 = some 26 := by kernel_rfl
theorem ag24 : aggOf Try.prog 24 = some false := by kernel_rfl
theorem sz24 : szOf Try.prog 24 = some 1 := by kernel_rfl
theorem und24 : Try.prog.underlying 24 = some (.slice 9) := by kernel_rfl
theorem el24 : elemOfSlice Try.prog 24 = some 9 := by kernel_rfl
theorem ag26 : aggOf Try.prog 26 = some true := by kernel_rfl
theorem sz26 : szOf Try.prog 26 = some 5 := by kernel_rfl
theorem ag35 : aggOf Try.prog 35 = some false := by kernel_rfl
theorem sz35 : szOf Try.prog 35 = some 1 := by kernel_rfl
theorem und35 : Try.prog.underlying 35 = some (.slice 51) := by kernel_rfl
theorem el35 : elemOfSlice Try.prog 35 = some 51 := by kernel_rfl
theorem ag37 : aggOf Try.prog 37 = some true := by kernel_rfl
theorem sz37 : szOf Try.prog 37 = some 34 := by kernel_rfl
theorem ag47 : aggOf Try.prog 47 = some false := by kernel_rfl
theorem sz47 : szOf Try.prog 47 = some 1 := by kernel_rfl
theorem und47 : Try.prog.underlying 47 = some (.int IntKind.i64) := by kernel_rfl
theorem ag51 : aggOf Try.prog 51 = some true := by kernel_rfl
theorem sz51 : szOf Try.prog 51 = some 9 := by kernel_rfl
theorem ag58 : aggOf Try.prog 58 = some true := by kernel_rfl
theorem sz58 : szOf Try.prog 58 = some 10 := by kernel_rfl
theorem ag63 : aggOf Try.prog 63 = some true := by kernel_rfl
theorem sz63 : szOf Try.prog 63 = some 24 := by kernel_rfl
theorem fd26_2 : fieldOf Try.prog 26 2 = some ({ name := "Text", type := 9, offset := 2, embedded := false, tag := "", pkgPath := "", byteOffset := 16 }) := by kernel_rfl
theorem fd26_3 : fieldOf Try.prog 26 3 = some ({ name := "Items", type := 23, offset := 3, embedded := false, tag := "", pkgPath := "", byteOffset := 32 }) := by kernel_rfl
theorem fd26_4 : fieldOf Try.prog 26 4 = some ({ name := "Keys", type := 24, offset := 4, embedded := false, tag := "", pkgPath := "", byteOffset := 56 }) := by kernel_rfl
theorem fd37_0 : fieldOf Try.prog 37 0 = some ({ name := "Workflow", type := 9, offset := 0, embedded := false, tag := "", pkgPath := "", byteOffset := 0 }) := by kernel_rfl
theorem fd37_1 : fieldOf Try.prog 37 1 = some ({ name := "ID", type := 9, offset := 1, embedded := false, tag := "", pkgPath := "", byteOffset := 16 }) := by kernel_rfl
theorem fd37_8 : fieldOf Try.prog 37 8 = some ({ name := "Tasks", type := 35, offset := 31, embedded := false, tag := "", pkgPath := "", byteOffset := 504 }) := by kernel_rfl
theorem fd37_9 : fieldOf Try.prog 37 9 = some ({ name := "NextTask", type := 3, offset := 32, embedded := false, tag := "", pkgPath := "", byteOffset := 528 }) := by kernel_rfl
theorem fd51_0 : fieldOf Try.prog 51 0 = some ({ name := "ID", type := 3, offset := 0, embedded := false, tag := "", pkgPath := "", byteOffset := 0 }) := by kernel_rfl
theorem fd51_1 : fieldOf Try.prog 51 1 = some ({ name := "Kind", type := 3, offset := 1, embedded := false, tag := "", pkgPath := "", byteOffset := 8 }) := by kernel_rfl
theorem fd51_3 : fieldOf Try.prog 51 3 = some ({ name := "Seq", type := 3, offset := 3, embedded := false, tag := "", pkgPath := "", byteOffset := 24 }) := by kernel_rfl
theorem fd51_4 : fieldOf Try.prog 51 4 = some ({ name := "Due", type := 3, offset := 4, embedded := false, tag := "", pkgPath := "", byteOffset := 32 }) := by kernel_rfl
theorem fd51_5 : fieldOf Try.prog 51 5 = some ({ name := "Attempt", type := 3, offset := 5, embedded := false, tag := "", pkgPath := "", byteOffset := 40 }) := by kernel_rfl
theorem fd51_6 : fieldOf Try.prog 51 6 = some ({ name := "Workflow", type := 9, offset := 6, embedded := false, tag := "", pkgPath := "", byteOffset := 48 }) := by kernel_rfl
theorem fd51_7 : fieldOf Try.prog 51 7 = some ({ name := "Run", type := 9, offset := 7, embedded := false, tag := "", pkgPath := "", byteOffset := 64 }) := by kernel_rfl
theorem fd51_8 : fieldOf Try.prog 51 8 = some ({ name := "Queue", type := 9, offset := 8, embedded := false, tag := "", pkgPath := "", byteOffset := 80 }) := by kernel_rfl
theorem fd58_0 : fieldOf Try.prog 58 0 = some ({ name := "Queue", type := 9, offset := 0, embedded := false, tag := "", pkgPath := "", byteOffset := 0 }) := by kernel_rfl
theorem fd58_9 : fieldOf Try.prog 58 9 = some ({ name := "Fatal", type := 24, offset := 9, embedded := false, tag := "", pkgPath := "", byteOffset := 80 }) := by kernel_rfl
theorem fd63_0 : fieldOf Try.prog 63 0 = some ({ name := "ID", type := 3, offset := 0, embedded := false, tag := "", pkgPath := "", byteOffset := 0 }) := by kernel_rfl
theorem fd63_1 : fieldOf Try.prog 63 1 = some ({ name := "Kind", type := 3, offset := 1, embedded := false, tag := "", pkgPath := "", byteOffset := 8 }) := by kernel_rfl
theorem fd63_2 : fieldOf Try.prog 63 2 = some ({ name := "Time", type := 3, offset := 2, embedded := false, tag := "", pkgPath := "", byteOffset := 16 }) := by kernel_rfl
theorem fd63_3 : fieldOf Try.prog 63 3 = some ({ name := "Seq", type := 3, offset := 3, embedded := false, tag := "", pkgPath := "", byteOffset := 24 }) := by kernel_rfl
theorem fd63_7 : fieldOf Try.prog 63 7 = some ({ name := "Name", type := 9, offset := 7, embedded := false, tag := "", pkgPath := "", byteOffset := 56 }) := by kernel_rfl
theorem fd63_8 : fieldOf Try.prog 63 8 = some ({ name := "Key", type := 9, offset := 8, embedded := false, tag := "", pkgPath := "", byteOffset := 72 }) := by kernel_rfl
theorem fd63_9 : fieldOf Try.prog 63 9 = some ({ name := "Data", type := 26, offset := 9, embedded := false, tag := "", pkgPath := "", byteOffset := 88 }) := by kernel_rfl
theorem fd63_10 : fieldOf Try.prog 63 10 = some ({ name := "Opts", type := 58, offset := 14, embedded := false, tag := "", pkgPath := "", byteOffset := 168 }) := by kernel_rfl
theorem ze37 : zeroOf Try.prog 37 = some (AV.agg [AV.str [], AV.str [], AV.str [], AV.int IntKind.i64 0, AV.nilslice, AV.int IntKind.i64 0, AV.int IntKind.i64 0, AV.int IntKind.i64 0, AV.int IntKind.i64 0, AV.int IntKind.i64 0, AV.int IntKind.i64 0, AV.str [], AV.int IntKind.i64 0, AV.int IntKind.i64 0, AV.str [], AV.nilslice, AV.nilslice, AV.int IntKind.i64 0, AV.int IntKind.i64 0, AV.str [], AV.nilslice, AV.nilslice, AV.bool false, AV.nilslice, AV.nilslice, AV.nilslice, AV.nilslice, AV.nilslice, AV.nilslice, AV.nilslice, AV.nilslice, AV.nilslice, AV.int IntKind.i64 0, AV.int IntKind.i64 0]) := by kernel_rfl
theorem ze63 : zeroOf Try.prog 63 = some (AV.agg [AV.int IntKind.i64 0, AV.int IntKind.i64 0, AV.int IntKind.i64 0, AV.int IntKind.i64 0, AV.int IntKind.i64 0, AV.int IntKind.i64 0, AV.int IntKind.i64 0, AV.str [], AV.str [], AV.int IntKind.i64 0, AV.int IntKind.i64 0, AV.str [], AV.nilslice, AV.nilslice, AV.str [], AV.int IntKind.i64 0, AV.int IntKind.i64 0, AV.int IntKind.i64 0, AV.int IntKind.i64 0, AV.int IntKind.i64 0, AV.int IntKind.i64 0, AV.int IntKind.i64 0, AV.int IntKind.i64 0, AV.nilslice]) := by kernel_rfl
theorem ze51 : zeroOf Try.prog 51 = some (AV.agg [AV.int IntKind.i64 0, AV.int IntKind.i64 0, AV.int IntKind.i64 0, AV.int IntKind.i64 0, AV.int IntKind.i64 0, AV.int IntKind.i64 0, AV.str [], AV.str [], AV.str []]) := by kernel_rfl
theorem bu37 (parts : List (Nat × AV)) : evBuild Try.prog 37 parts = (fillA (fun i => ([(0, 1), (1, 1), (2, 1), (3, 1), (4, 1), (5, 24), (29, 1), (30, 1), (31, 1), (32, 1), (33, 1)] : List (Nat × Nat))[i]?) [AV.str [], AV.str [], AV.str [], AV.int IntKind.i64 0, AV.nilslice, AV.int IntKind.i64 0, AV.int IntKind.i64 0, AV.int IntKind.i64 0, AV.int IntKind.i64 0, AV.int IntKind.i64 0, AV.int IntKind.i64 0, AV.str [], AV.int IntKind.i64 0, AV.int IntKind.i64 0, AV.str [], AV.nilslice, AV.nilslice, AV.int IntKind.i64 0, AV.int IntKind.i64 0, AV.str [], AV.nilslice, AV.nilslice, AV.bool false, AV.nilslice, AV.nilslice, AV.nilslice, AV.nilslice, AV.nilslice, AV.nilslice, AV.nilslice, AV.nilslice, AV.nilslice, AV.int IntKind.i64 0, AV.int IntKind.i64 0] parts).map .agg := evBuild_struct ze37 (by kernel_rfl) parts
theorem bu63 (parts : List (Nat × AV)) : evBuild Try.prog 63 parts = (fillA (fun i => ([(0, 1), (1, 1), (2, 1), (3, 1), (4, 1), (5, 1), (6, 1), (7, 1), (8, 1), (9, 5), (14, 10)] : List (Nat × Nat))[i]?) [AV.int IntKind.i64 0, AV.int IntKind.i64 0, AV.int IntKind.i64 0, AV.int IntKind.i64 0, AV.int IntKind.i64 0, AV.int IntKind.i64 0, AV.int IntKind.i64 0, AV.str [], AV.str [], AV.int IntKind.i64 0, AV.int IntKind.i64 0, AV.str [], AV.nilslice, AV.nilslice, AV.str [], AV.int IntKind.i64 0, AV.int IntKind.i64 0, AV.int IntKind.i64 0, AV.int IntKind.i64 0, AV.int IntKind.i64 0, AV.int IntKind.i64 0, AV.int IntKind.i64 0, AV.int IntKind.i64 0, AV.nilslice] parts).map .agg := evBuild_struct ze63 (by kernel_rfl) parts
theorem bu51 (parts : List (Nat × AV)) : evBuild Try.prog 51 parts = (fillA (fun i => ([(0, 1), (1, 1), (2, 1), (3, 1), (4, 1), (5, 1), (6, 1), (7, 1), (8, 1)] : List (Nat × Nat))[i]?) [AV.int IntKind.i64 0, AV.int IntKind.i64 0, AV.int IntKind.i64 0, AV.int IntKind.i64 0, AV.int IntKind.i64 0, AV.int IntKind.i64 0, AV.str [], AV.str [], AV.str []] parts).map .agg := evBuild_struct ze51 (by kernel_rfl) parts
end Go.Proofs.T
end
section
set_option linter.unusedVariables false
set_option linter.unusedSimpArgs false
namespace Go.Proofs.T
open Go.Ev
/-- The rules of stepping, together. -/
theorem sy : (((((((type_of% @false_implies) ∧ ((type_of% @imp_false) ∧ (type_of% @not_false_eq_true))) ∧ (((type_of% @List.getElem?_cons_zero.{0}) ∧ (type_of% @List.getElem?_cons_succ.{0})) ∧ ((type_of% @List.take_succ_cons.{0}) ∧ (type_of% @List.take_zero.{0})))) ∧ (((type_of% @List.drop_succ_cons.{0}) ∧ ((type_of% @List.drop_zero.{0}) ∧ (type_of% @List.set_cons_zero.{0}))) ∧ (((type_of% @List.set_cons_succ.{0}) ∧ (type_of% @List.replicate_succ.{0})) ∧ ((type_of% @List.replicate_zero.{0}) ∧ (type_of% @List.all_cons.{0}))))) ∧ ((((type_of% @List.all_nil.{0}) ∧ ((type_of% @Bool.and_true) ∧ (type_of% @Bool.and_self))) ∧ (((type_of% @Nat.le_refl) ∧ (type_of% @after_seq)) ∧ ((type_of% @after_skip) ∧ (type_of% @after_label)))) ∧ (((type_of% @after_exit) ∧ ((type_of% @after_ret) ∧ (type_of% @after_code_exit))) ∧ (((type_of% @after_code_ret) ∧ (type_of% @after_blk)) ∧ ((type_of% @after_blk_ret) ∧ (type_of% @after_blk_exit)))))) ∧ (((((type_of% @after_nil) ∧ ((type_of% @after_block) ∧ (type_of% @after_cond))) ∧ (((type_of% @condStep_true) ∧ (type_of% @condStep_false)) ∧ ((type_of% @after_region) ∧ (type_of% @after_draw)))) ∧ (((type_of% @after_loop) ∧ ((type_of% @afterOps_nil) ∧ (type_of% @opStep_some))) ∧ (((type_of% @opStep_flag) ∧ (type_of% @afterOps_op)) ∧ ((type_of% @hereStep_true) ∧ (type_of% @hereStep_false))))) ∧ ((((type_of% @afterOps_guard) ∧ ((type_of% @guardStep_true) ∧ (type_of% @guardStep_false))) ∧ (((type_of% @roundEnd_normal) ∧ (type_of% @roundEnd_exit)) ∧ ((type_of% @roundEnd_ret) ∧ (type_of% @roundR_normal)))) ∧ ((((type_of% @roundR_exit) ∧ (type_of% @roundR_ret)) ∧ ((type_of% @fin_normal) ∧ (type_of% @fin_ret))) ∧ (((type_of% @finR_some) ∧ (type_of% @put_at)) ∧ ((type_of% @put_none) ∧ (type_of% @at_const))))))) ∧ ((((((type_of% @at_func) ∧ ((type_of% @args_at) ∧ (type_of% @evResult_tmp))) ∧ (((type_of% @List.filterMap_cons.{0,0}) ∧ (type_of% @List.filterMap_nil.{0,0})) ∧ ((type_of% @List.contains_nil.{0}) ∧ (type_of% @List.contains_cons.{0})))) ∧ (((type_of% @Bool.or_false) ∧ ((type_of% @Bool.or_true) ∧ (type_of% @List.map_cons.{0,0}))) ∧ (((type_of% @List.map_nil.{0,0}) ∧ (type_of% @wantedA_guard)) ∧ ((type_of% @wstep_some) ∧ (type_of% @wbool_true))))) ∧ ((((type_of% @wbool_false) ∧ ((type_of% @List.getElem?_toArray.{0}) ∧ (type_of% @Option.bind_none.{0,0}))) ∧ (((type_of% @dstOk_none) ∧ (type_of% @dstOk_some)) ∧ ((type_of% @List.toList_toArray.{0}) ∧ (type_of% @if_true.{1})))) ∧ (((type_of% @if_false.{1}) ∧ ((type_of% @List.getD_cons_zero.{0}) ∧ (type_of% @List.getD_cons_succ.{0}))) ∧ (((type_of% @Option.map_some.{0,0}) ∧ (type_of% @decide_true)) ∧ ((type_of% @ite_self.{1}) ∧ (type_of% @true_or)))))) ∧ (((((type_of% @true_and) ∧ ((type_of% @and_true) ∧ (type_of% @or_true))) ∧ (((type_of% @Bool.false_eq_true) ∧ (type_of% @List.nil_append.{0})) ∧ ((type_of% @List.append_nil.{0}) ∧ (type_of% @List.cons_append.{0})))) ∧ (((type_of% @List.length_cons.{0}) ∧ ((type_of% @List.length_nil.{0}) ∧ (type_of% @load_ptr))) ∧ (((type_of% @load_iptr) ∧ (type_of% @hp_push)) ∧ ((type_of% @hp_next) ∧ (type_of% @hp_blk0))))) ∧ ((((type_of% @hp_blk) ∧ ((type_of% @hp_set0) ∧ (type_of% @hp_set))) ∧ (((type_of% @List.getElem?_nil.{0}) ∧ (type_of% @Nat.lt_add_one)) ∧ ((type_of% @Nat.zero_lt_succ) ∧ (type_of% @List.isEmpty_cons.{0})))) ∧ ((((type_of% @Nat.zero_lt_one) ∧ (type_of% @Option.bind_some.{0,0})) ∧ ((type_of% @Nat.add_zero) ∧ (type_of% @Nat.zero_add))) ∧ (((type_of% @decide_eq_true_eq) ∧ (type_of% @decide_false)) ∧ ((type_of% @Bool.not_true) ∧ (type_of% @Bool.not_false)))))))) :=
  And.intro (And.intro (And.intro (And.intro (And.intro (And.intro (@false_implies) (And.intro (@imp_false) (@not_false_eq_true))) (And.intro (And.intro (@List.getElem?_cons_zero.{0}) (@List.getElem?_cons_succ.{0})) (And.intro (@List.take_succ_cons.{0}) (@List.take_zero.{0})))) (And.intro (And.intro (@List.drop_succ_cons.{0}) (And.intro (@List.drop_zero.{0}) (@List.set_cons_zero.{0}))) (And.intro (And.intro (@List.set_cons_succ.{0}) (@List.replicate_succ.{0})) (And.intro (@List.replicate_zero.{0}) (@List.all_cons.{0}))))) (And.intro (And.intro (And.intro (@List.all_nil.{0}) (And.intro (@Bool.and_true) (@Bool.and_self))) (And.intro (And.intro (@Nat.le_refl) (@after_seq)) (And.intro (@after_skip) (@after_label)))) (And.intro (And.intro (@after_exit) (And.intro (@after_ret) (@after_code_exit))) (And.intro (And.intro (@after_code_ret) (@after_blk)) (And.intro (@after_blk_ret) (@after_blk_exit)))))) (And.intro (And.intro (And.intro (And.intro (@after_nil) (And.intro (@after_block) (@after_cond))) (And.intro (And.intro (@condStep_true) (@condStep_false)) (And.intro (@after_region) (@after_draw)))) (And.intro (And.intro (@after_loop) (And.intro (@afterOps_nil) (@opStep_some))) (And.intro (And.intro (@opStep_flag) (@afterOps_op)) (And.intro (@hereStep_true) (@hereStep_false))))) (And.intro (And.intro (And.intro (@afterOps_guard) (And.intro (@guardStep_true) (@guardStep_false))) (And.intro (And.intro (@roundEnd_normal) (@roundEnd_exit)) (And.intro (@roundEnd_ret) (@roundR_normal)))) (And.intro (And.intro (And.intro (@roundR_exit) (@roundR_ret)) (And.intro (@fin_normal) (@fin_ret))) (And.intro (And.intro (@finR_some) (@put_at)) (And.intro (@put_none) (@at_const))))))) (And.intro (And.intro (And.intro (And.intro (And.intro (@at_func) (And.intro (@args_at) (@evResult_tmp))) (And.intro (And.intro (@List.filterMap_cons.{0,0}) (@List.filterMap_nil.{0,0})) (And.intro (@List.contains_nil.{0}) (@List.contains_cons.{0})))) (And.intro (And.intro (@Bool.or_false) (And.intro (@Bool.or_true) (@List.map_cons.{0,0}))) (And.intro (And.intro (@List.map_nil.{0,0}) (@wantedA_guard)) (And.intro (@wstep_some) (@wbool_true))))) (And.intro (And.intro (And.intro (@wbool_false) (And.intro (@List.getElem?_toArray.{0}) (@Option.bind_none.{0,0}))) (And.intro (And.intro (@dstOk_none) (@dstOk_some)) (And.intro (@List.toList_toArray.{0}) (@if_true.{1})))) (And.intro (And.intro (@if_false.{1}) (And.intro (@List.getD_cons_zero.{0}) (@List.getD_cons_succ.{0}))) (And.intro (And.intro (@Option.map_some.{0,0}) (@decide_true)) (And.intro (@ite_self.{1}) (@true_or)))))) (And.intro (And.intro (And.intro (And.intro (@true_and) (And.intro (@and_true) (@or_true))) (And.intro (And.intro (@Bool.false_eq_true) (@List.nil_append.{0})) (And.intro (@List.append_nil.{0}) (@List.cons_append.{0})))) (And.intro (And.intro (@List.length_cons.{0}) (And.intro (@List.length_nil.{0}) (@load_ptr))) (And.intro (And.intro (@load_iptr) (@hp_push)) (And.intro (@hp_next) (@hp_blk0))))) (And.intro (And.intro (And.intro (@hp_blk) (And.intro (@hp_set0) (@hp_set))) (And.intro (And.intro (@List.getElem?_nil.{0}) (@Nat.lt_add_one)) (And.intro (@Nat.zero_lt_succ) (@List.isEmpty_cons.{0})))) (And.intro (And.intro (And.intro (@Nat.zero_lt_one) (@Option.bind_some.{0,0})) (And.intro (@Nat.add_zero) (@Nat.zero_add))) (And.intro (And.intro (@decide_eq_true_eq) (@decide_false)) (And.intro (@Bool.not_true) (@Bool.not_false)))))))
/-- Facts on the program, together. -/
theorem fy : (((((((type_of% @ag3) ∧ (type_of% @sz3)) ∧ ((type_of% @und3) ∧ (type_of% @ag9))) ∧ (((type_of% @sz9) ∧ (type_of% @und9)) ∧ ((type_of% @ag22) ∧ (type_of% @sz22)))) ∧ ((((type_of% @und22) ∧ (type_of% @el22)) ∧ ((type_of% @ag23) ∧ (type_of% @sz23))) ∧ (((type_of% @und23) ∧ (type_of% @el23)) ∧ ((type_of% @ag24) ∧ (type_of% @sz24))))) ∧ (((((type_of% @und24) ∧ (type_of% @el24)) ∧ ((type_of% @ag26) ∧ (type_of% @sz26))) ∧ (((type_of% @ag35) ∧ (type_of% @sz35)) ∧ ((type_of% @und35) ∧ (type_of% @el35)))) ∧ ((((type_of% @ag37) ∧ (type_of% @sz37)) ∧ ((type_of% @ag47) ∧ (type_of% @sz47))) ∧ (((type_of% @und47) ∧ (type_of% @ag51)) ∧ ((type_of% @sz51) ∧ ((type_of% @ag58) ∧ (type_of% @sz58))))))) ∧ ((((((type_of% @ag63) ∧ (type_of% @sz63)) ∧ ((type_of% @fd26_2) ∧ (type_of% @fd26_3))) ∧ (((type_of% @fd26_4) ∧ (type_of% @fd37_0)) ∧ ((type_of% @fd37_1) ∧ (type_of% @fd37_8)))) ∧ ((((type_of% @fd37_9) ∧ (type_of% @fd51_0)) ∧ ((type_of% @fd51_1) ∧ (type_of% @fd51_3))) ∧ (((type_of% @fd51_4) ∧ (type_of% @fd51_5)) ∧ ((type_of% @fd51_6) ∧ (type_of% @fd51_7))))) ∧ (((((type_of% @fd51_8) ∧ (type_of% @fd58_0)) ∧ ((type_of% @fd58_9) ∧ (type_of% @fd63_0))) ∧ (((type_of% @fd63_1) ∧ (type_of% @fd63_2)) ∧ ((type_of% @fd63_3) ∧ (type_of% @fd63_7)))) ∧ ((((type_of% @fd63_8) ∧ (type_of% @fd63_9)) ∧ ((type_of% @fd63_10) ∧ (type_of% @ze37))) ∧ (((type_of% @ze63) ∧ (type_of% @ze51)) ∧ ((type_of% @bu37) ∧ ((type_of% @bu63) ∧ (type_of% @bu51)))))))) :=
  And.intro (And.intro (And.intro (And.intro (And.intro (And.intro (@ag3) (@sz3)) (And.intro (@und3) (@ag9))) (And.intro (And.intro (@sz9) (@und9)) (And.intro (@ag22) (@sz22)))) (And.intro (And.intro (And.intro (@und22) (@el22)) (And.intro (@ag23) (@sz23))) (And.intro (And.intro (@und23) (@el23)) (And.intro (@ag24) (@sz24))))) (And.intro (And.intro (And.intro (And.intro (@und24) (@el24)) (And.intro (@ag26) (@sz26))) (And.intro (And.intro (@ag35) (@sz35)) (And.intro (@und35) (@el35)))) (And.intro (And.intro (And.intro (@ag37) (@sz37)) (And.intro (@ag47) (@sz47))) (And.intro (And.intro (@und47) (@ag51)) (And.intro (@sz51) (And.intro (@ag58) (@sz58))))))) (And.intro (And.intro (And.intro (And.intro (And.intro (@ag63) (@sz63)) (And.intro (@fd26_2) (@fd26_3))) (And.intro (And.intro (@fd26_4) (@fd37_0)) (And.intro (@fd37_1) (@fd37_8)))) (And.intro (And.intro (And.intro (@fd37_9) (@fd51_0)) (And.intro (@fd51_1) (@fd51_3))) (And.intro (And.intro (@fd51_4) (@fd51_5)) (And.intro (@fd51_6) (@fd51_7))))) (And.intro (And.intro (And.intro (And.intro (@fd51_8) (@fd58_0)) (And.intro (@fd58_9) (@fd63_0))) (And.intro (And.intro (@fd63_1) (@fd63_2)) (And.intro (@fd63_3) (@fd63_7)))) (And.intro (And.intro (And.intro (@fd63_8) (@fd63_9)) (And.intro (@fd63_10) (@ze37))) (And.intro (And.intro (@ze63) (@ze51)) (And.intro (@bu37) (And.intro (@bu63) (@bu51)))))))
end Go.Proofs.T
end
section
set_option linter.unusedVariables false
set_option linter.unusedSimpArgs false
set_option maxRecDepth 100000
namespace Go.Proofs.T
open Go.Ev

/-- Does an event of this kind close the run? -/
def closes (k : Int) : Bool := k == 30 || k == 31 || k == 32 || k == 33 || k == 34 || k == 35

theorem closes_cases (k : Int) : (k = 30 ∨ k = 31 ∨ k = 32 ∨ k = 33 ∨ k = 34 ∨ k = 35) ∨ ((k == 30) = false ∧ (k == 31) = false ∧ (k == 32) = false ∧ (k == 33) = false ∧ (k == 34) = false ∧ (k == 35) = false ∧ closes k = false) := by
  simp only [closes, beq_eq_false_iff_ne, Bool.or_eq_false_iff]
  omega

theorem f44_ok (k : Int) (H : Heap) (K : AV → Heap → Prop) (hK : ∀ s, K (.tuple [.int .i64 s, .bool (closes k)]) H) : WF Try.prog 44 [.int .i64 k] H K := by
  refine WF_body Try.func44 (by kernel_rfl) rfl Try.ntmps44 (by rw [Try.results44]) (of_decide_eq_true (by kernel_rfl)) ?_
  rcases closes_cases k with (rfl | rfl | rfl | rfl | rfl | rfl) | ⟨h1, h2, h3, h4, h5, h6, h7⟩
  all_goals
    first
    | (simp (maxSteps := 1000000) only [sy, fy, implies_true, evBuildSlice, fillE, fillA, splice, AV.isCell, here, plain, laid, evOp, avOf, avCell, strOf, evBin, evInt, evStr, evUn, evResults, evResultsL, AV.isUndef, AV.cells, Heap.store, Nat.reduceMul, Nat.reducePow, Nat.reduceSub, Nat.reduceBEq, UInt8.reduceToNat, Nat.reduceEqDiff, Nat.reduceLT, reduceCtorEq, Nat.reduceAdd, Nat.reduceLeDiff, Int.reduceBEq]; exact hK _)
    | (simp (maxSteps := 1000000) only [sy, fy, implies_true, evBuildSlice, fillE, fillA, splice, AV.isCell, here, plain, laid, evOp, avOf, avCell, strOf, evBin, evInt, evStr, evUn, evResults, evResultsL, AV.isUndef, AV.cells, Heap.store, Nat.reduceMul, Nat.reducePow, Nat.reduceSub, Nat.reduceBEq, UInt8.reduceToNat, Nat.reduceEqDiff, Nat.reduceLT, reduceCtorEq, Nat.reduceAdd, Nat.reduceLeDiff, h1, h2, h3, h4, h5, h6]; rw [h7] at hK; exact hK _)

theorem f45_ok (k : Int) (H : Heap) (K : AV → Heap → Prop) (hK : ∀ s, K (.tuple [.int .i64 s, .bool (closes k)]) H) : WF Try.prog 45 [.int .i64 k] H K := by
  refine WF_body Try.func45 (by kernel_rfl) rfl Try.ntmps45 (by rw [Try.results45]) (of_decide_eq_true (by kernel_rfl)) ?_
  rcases closes_cases k with (rfl | rfl | rfl | rfl | rfl | rfl) | ⟨h1, h2, h3, h4, h5, h6, h7⟩
  all_goals
    first
    | (simp (maxSteps := 1000000) only [sy, fy, implies_true, evBuildSlice, fillE, fillA, splice, AV.isCell, here, plain, laid, evOp, avOf, avCell, strOf, evBin, evInt, evStr, evUn, evResults, evResultsL, AV.isUndef, AV.cells, Heap.store, Nat.reduceMul, Nat.reducePow, Nat.reduceSub, Nat.reduceBEq, UInt8.reduceToNat, Nat.reduceEqDiff, Nat.reduceLT, reduceCtorEq, Nat.reduceAdd, Nat.reduceLeDiff, Int.reduceBEq]; exact hK _)
    | (simp (maxSteps := 1000000) only [sy, fy, implies_true, evBuildSlice, fillE, fillA, splice, AV.isCell, here, plain, laid, evOp, avOf, avCell, strOf, evBin, evInt, evStr, evUn, evResults, evResultsL, AV.isUndef, AV.cells, Heap.store, Nat.reduceMul, Nat.reducePow, Nat.reduceSub, Nat.reduceBEq, UInt8.reduceToNat, Nat.reduceEqDiff, Nat.reduceLT, reduceCtorEq, Nat.reduceAdd, Nat.reduceLeDiff, h1, h2, h3, h4, h5, h6]; rw [h7] at hK; exact hK _)

theorem f37_ok (k : Int) (H : Heap) (K : AV → Heap → Prop) (hK : K (.bool (closes k)) H) : WF Try.prog 37 [.int .i64 k] H K := by
  refine WF_body Try.func37 (by kernel_rfl) rfl Try.ntmps37 (by rw [Try.results37]) (of_decide_eq_true (by kernel_rfl)) ?_
  simp (maxSteps := 1000000) only [sy, fy, implies_true, evBuildSlice, fillE, fillA, splice, AV.isCell, here, plain, laid, evOp, avOf, avCell, strOf, evBin, evInt, evStr, evUn, evResults, evResultsL, AV.isUndef, AV.cells, Heap.store, Nat.reduceMul, Nat.reducePow, Nat.reduceSub, Nat.reduceBEq, UInt8.reduceToNat, Nat.reduceEqDiff, Nat.reduceLT, reduceCtorEq, Nat.reduceAdd, Nat.reduceLeDiff]
  refine callStep (f44_ok k H _ fun s => ?_)
  simp (maxSteps := 1000000) only [sy, fy, implies_true, evBuildSlice, fillE, fillA, splice, AV.isCell, here, plain, laid, evOp, avOf, avCell, strOf, evBin, evInt, evStr, evUn, evResults, evResultsL, AV.isUndef, AV.cells, Heap.store, Nat.reduceMul, Nat.reducePow, Nat.reduceSub, Nat.reduceBEq, UInt8.reduceToNat, Nat.reduceEqDiff, Nat.reduceLT, reduceCtorEq, Nat.reduceAdd, Nat.reduceLeDiff]
  exact hK

theorem f38_ok (k : Int) (H : Heap) (K : AV → Heap → Prop) (hK : K (.bool (closes k)) H) : WF Try.prog 38 [.int .i64 k] H K := by
  refine WF_body Try.func38 (by kernel_rfl) rfl Try.ntmps38 (by rw [Try.results38]) (of_decide_eq_true (by kernel_rfl)) ?_
  simp (maxSteps := 1000000) only [sy, fy, implies_true, evBuildSlice, fillE, fillA, splice, AV.isCell, here, plain, laid, evOp, avOf, avCell, strOf, evBin, evInt, evStr, evUn, evResults, evResultsL, AV.isUndef, AV.cells, Heap.store, Nat.reduceMul, Nat.reducePow, Nat.reduceSub, Nat.reduceBEq, UInt8.reduceToNat, Nat.reduceEqDiff, Nat.reduceLT, reduceCtorEq, Nat.reduceAdd, Nat.reduceLeDiff]
  refine callStep (f45_ok k H _ fun s => ?_)
  simp (maxSteps := 1000000) only [sy, fy, implies_true, evBuildSlice, fillE, fillA, splice, AV.isCell, here, plain, laid, evOp, avOf, avCell, strOf, evBin, evInt, evStr, evUn, evResults, evResultsL, AV.isUndef, AV.cells, Heap.store, Nat.reduceMul, Nat.reducePow, Nat.reduceSub, Nat.reduceBEq, UInt8.reduceToNat, Nat.reduceEqDiff, Nat.reduceLT, reduceCtorEq, Nat.reduceAdd, Nat.reduceLeDiff]
  exact hK
end Go.Proofs.T
end
section
set_option linter.unusedVariables false
set_option linter.unusedSimpArgs false
set_option maxRecDepth 100000
namespace Go.Proofs.T
open Go.Ev

def mainQ : List Nat := [109, 97, 105, 110]
def task (id kind ev sq due att : Int) (wf rn q : List Nat) : List AV :=
  [.int .i64 id, .int .i64 kind, .int .i64 ev, .int .i64 sq, .int .i64 due, .int .i64 att, .str wf, .str rn, .str q]

/-- The tasks that an event requires. -/
def req (id k tm sq : Int) (q : List Nat) : List (List AV) :=
  if k == 1 || k == 29 then [task 0 6 id 0 0 0 [] [] []]
  else if k == 2 then [task 0 1 id 0 0 0 [] [] mainQ]
  else if k == 7 then [task 0 2 id sq tm 1 [] [] (if q == [] then mainQ else q)]
  else if k == 19 then [task 0 3 id sq 0 0 [] [] []]
  else if k == 23 then [task 0 4 id sq 0 0 [] [] []]
  else if closes k then [task 0 5 id 0 0 0 [] [] [], task 0 6 id 0 0 0 [] [] []]
  else []

theorem req_len (id k tm sq : Int) (q : List Nat) : (req id k tm sq q).length ≤ 2 := by
  unfold req
  repeat' split
  all_goals simp

theorem req_task (id k tm sq : Int) (q : List Nat) : ∀ cs ∈ req id k tm sq q, ∃ id kind ev sq due att wf rn q, cs = task id kind ev sq due att wf rn q := by
  unfold req
  repeat' split
  all_goals
    intro cs hc
    simp only [List.mem_cons, List.not_mem_nil, or_false] at hc <;>
    first
    | exact ⟨_, _, _, _, _, _, _, _, _, hc⟩
    | (rcases hc with hc | hc <;> exact ⟨_, _, _, _, _, _, _, _, _, hc⟩)

/-- An event's cells: those that are looked at. -/
structure Ev (cs : List AV) (id k tm sq : Int) (q : List Nat) : Prop where
  len : cs.length = 24
  cell : cs.all AV.isCell = true
  c0 : cs.take 1 = [.int .i64 id]
  c1 : (cs.drop 1).take 1 = [.int .i64 k]
  c2 : (cs.drop 2).take 1 = [.int .i64 tm]
  c3 : (cs.drop 3).take 1 = [.int .i64 sq]
  c14 : (cs.drop 14).take 1 = [.str q]

theorem kinds (k : Int) (q : List Nat) : (k = 1 ∨ k = 29 ∨ k = 2 ∨ (k = 7 ∧ q = []) ∨ (k = 7 ∧ (q == []) = false) ∨ k = 19 ∨ k = 23) ∨ ((k == 1) = false ∧ (k == 29) = false ∧ (k == 2) = false ∧ (k == 7) = false ∧ (k == 19) = false ∧ (k == 23) = false) := by
  simp only [beq_eq_false_iff_ne]
  by_cases hq : q = []
  · simp only [hq, and_true]; simp; omega
  · simp only [hq, and_false]; simp [hq]; omega

theorem f27_ok {cs : List AV} {id k tm sq : Int} {q : List Nat} (h : Ev cs id k tm sq q) (H : Heap) (hF : Free H) (K : AV → Heap → Prop)
    (hK : ∀ r H', Up H H' → Free H' → FreshS H r → Holds H' 9 r (req id k tm sq q) → K r H') : WF Try.prog 27 [.agg cs] H K := by
  obtain ⟨hl, _, h0, h1, h2, h3, h14⟩ := h
  refine WF_body Try.func27 (by kernel_rfl) rfl Try.ntmps27 (by rw [Try.results27]) (of_decide_eq_true (by kernel_rfl)) ?_
  rcases kinds k q with (rfl | rfl | rfl | ⟨rfl, rfl⟩ | ⟨rfl, hq⟩ | rfl | rfl) | ⟨k1, k2, k3, k4, k5, k6⟩
  case inr =>
    simp (maxSteps := 1000000) only [sy, fy, implies_true, evBuildSlice, fillE, fillA, splice, AV.isCell, here, plain, laid, evOp, avOf, avCell, strOf, evBin, evInt, evStr, evUn, evResults, evResultsL, AV.isUndef, AV.cells, Heap.store, Nat.reduceMul, Nat.reducePow, Nat.reduceSub, Nat.reduceBEq, UInt8.reduceToNat, Nat.reduceEqDiff, Nat.reduceLT, reduceCtorEq, Nat.reduceAdd, Nat.reduceLeDiff, hF.at, hF.hp, hl, h0, h1, h2, h3, h14, k1, k2, k3, k4, k5, k6]
    refine callStep (f37_ok k _ _ ?_)
    cases hc : closes k
    · simp (maxSteps := 1000000) only [sy, fy, implies_true, evBuildSlice, fillE, fillA, splice, AV.isCell, here, plain, laid, evOp, avOf, avCell, strOf, evBin, evInt, evStr, evUn, evResults, evResultsL, AV.isUndef, AV.cells, Heap.store, Nat.reduceMul, Nat.reducePow, Nat.reduceSub, Nat.reduceBEq, UInt8.reduceToNat, Nat.reduceEqDiff, Nat.reduceLT, reduceCtorEq, Nat.reduceAdd, Nat.reduceLeDiff, hF.at, hF.hp, hl, h0, h1, h2, h3, h14]
      refine hK _ _ (hF.hpU _) (hF.hpF _) freshS_nil ?_
      simp only [req, k1, k2, k3, k4, k5, k6, hc, Bool.or_self, Bool.false_eq_true, if_false]
      exact Holds.nil
    · simp (maxSteps := 1000000) only [sy, fy, implies_true, evBuildSlice, fillE, fillA, splice, AV.isCell, here, plain, laid, evOp, avOf, avCell, strOf, evBin, evInt, evStr, evUn, evResults, evResultsL, AV.isUndef, AV.cells, Heap.store, Nat.reduceMul, Nat.reducePow, Nat.reduceSub, Nat.reduceBEq, UInt8.reduceToNat, Nat.reduceEqDiff, Nat.reduceLT, reduceCtorEq, Nat.reduceAdd, Nat.reduceLeDiff, hF.at, hF.hp, hl, h0, h1, h2, h3, h14]
      refine hK _ _ (hF.hpU _) (hF.hpF _) (freshS_hp hF) ?_
      simp only [req, k1, k2, k3, k4, k5, k6, hc, Bool.or_self, Bool.false_eq_true, if_false, if_true]
      exact holds_hp rfl rfl (by decide) (by simp [task])
  all_goals
    try simp (maxSteps := 1000000) only [sy, fy, implies_true, evBuildSlice, fillE, fillA, splice, AV.isCell, here, plain, laid, evOp, avOf, avCell, strOf, evBin, evInt, evStr, evUn, evResults, evResultsL, AV.isUndef, AV.cells, Heap.store, Nat.reduceMul, Nat.reducePow, Nat.reduceSub, Nat.reduceBEq, UInt8.reduceToNat, Nat.reduceEqDiff, Nat.reduceLT, reduceCtorEq, Nat.reduceAdd, Nat.reduceLeDiff, hF.at, hF.hp, hl, h0, h1, h2, h3, h14, Int.reduceBEq, hq]
    try simp (maxSteps := 1000000) only [sy, fy, implies_true, evBuildSlice, fillE, fillA, splice, AV.isCell, here, plain, laid, evOp, avOf, avCell, strOf, evBin, evInt, evStr, evUn, evResults, evResultsL, AV.isUndef, AV.cells, Heap.store, Nat.reduceMul, Nat.reducePow, Nat.reduceSub, Nat.reduceBEq, UInt8.reduceToNat, Nat.reduceEqDiff, Nat.reduceLT, reduceCtorEq, Nat.reduceAdd, Nat.reduceLeDiff, hF.at, hF.hp, hl, h0, h1, h2, h3, h14, Int.reduceBEq, BEq.rfl]
    refine hK _ _ (hF.hpU _) (hF.hpF _) (freshS_hp hF) ?_
    simp only [req, Int.reduceBEq, Bool.or_self, Bool.false_eq_true, if_false, if_true, Bool.or_true, Bool.true_or, BEq.rfl]
    try simp only [hq, Bool.false_eq_true, if_false]
    exact holds_hp rfl rfl (by decide) (by simp [task])

theorem f28_ok {cs : List AV} {id k tm sq : Int} {q : List Nat} (h : Ev cs id k tm sq q) (H : Heap) (hF : Free H) (K : AV → Heap → Prop)
    (hK : ∀ r H', Up H H' → Free H' → FreshS H r → Holds H' 9 r (req id k tm sq q) → K r H') : WF Try.prog 28 [.agg cs] H K := by
  obtain ⟨hl, _, h0, h1, h2, h3, h14⟩ := h
  refine WF_body Try.func28 (by kernel_rfl) rfl Try.ntmps28 (by rw [Try.results28]) (of_decide_eq_true (by kernel_rfl)) ?_
  rcases kinds k q with (rfl | rfl | rfl | ⟨rfl, rfl⟩ | ⟨rfl, hq⟩ | rfl | rfl) | ⟨k1, k2, k3, k4, k5, k6⟩
  case inr =>
    simp (maxSteps := 1000000) only [sy, fy, implies_true, evBuildSlice, fillE, fillA, splice, AV.isCell, here, plain, laid, evOp, avOf, avCell, strOf, evBin, evInt, evStr, evUn, evResults, evResultsL, AV.isUndef, AV.cells, Heap.store, Nat.reduceMul, Nat.reducePow, Nat.reduceSub, Nat.reduceBEq, UInt8.reduceToNat, Nat.reduceEqDiff, Nat.reduceLT, reduceCtorEq, Nat.reduceAdd, Nat.reduceLeDiff, hF.at, hF.hp, hl, h0, h1, h2, h3, h14, k1, k2, k3, k4, k5, k6]
    refine callStep (f38_ok k _ _ ?_)
    cases hc : closes k
    · simp (maxSteps := 1000000) only [sy, fy, implies_true, evBuildSlice, fillE, fillA, splice, AV.isCell, here, plain, laid, evOp, avOf, avCell, strOf, evBin, evInt, evStr, evUn, evResults, evResultsL, AV.isUndef, AV.cells, Heap.store, Nat.reduceMul, Nat.reducePow, Nat.reduceSub, Nat.reduceBEq, UInt8.reduceToNat, Nat.reduceEqDiff, Nat.reduceLT, reduceCtorEq, Nat.reduceAdd, Nat.reduceLeDiff, hF.at, hF.hp, hl, h0, h1, h2, h3, h14]
      refine hK _ _ (hF.hpU _) (hF.hpF _) freshS_nil ?_
      simp only [req, k1, k2, k3, k4, k5, k6, hc, Bool.or_self, Bool.false_eq_true, if_false]
      exact Holds.nil
    · simp (maxSteps := 1000000) only [sy, fy, implies_true, evBuildSlice, fillE, fillA, splice, AV.isCell, here, plain, laid, evOp, avOf, avCell, strOf, evBin, evInt, evStr, evUn, evResults, evResultsL, AV.isUndef, AV.cells, Heap.store, Nat.reduceMul, Nat.reducePow, Nat.reduceSub, Nat.reduceBEq, UInt8.reduceToNat, Nat.reduceEqDiff, Nat.reduceLT, reduceCtorEq, Nat.reduceAdd, Nat.reduceLeDiff, hF.at, hF.hp, hl, h0, h1, h2, h3, h14]
      refine hK _ _ (hF.hpU _) (hF.hpF _) (freshS_hp hF) ?_
      simp only [req, k1, k2, k3, k4, k5, k6, hc, Bool.or_self, Bool.false_eq_true, if_false, if_true]
      exact holds_hp rfl rfl (by decide) (by simp [task])
  all_goals
    try simp (maxSteps := 1000000) only [sy, fy, implies_true, evBuildSlice, fillE, fillA, splice, AV.isCell, here, plain, laid, evOp, avOf, avCell, strOf, evBin, evInt, evStr, evUn, evResults, evResultsL, AV.isUndef, AV.cells, Heap.store, Nat.reduceMul, Nat.reducePow, Nat.reduceSub, Nat.reduceBEq, UInt8.reduceToNat, Nat.reduceEqDiff, Nat.reduceLT, reduceCtorEq, Nat.reduceAdd, Nat.reduceLeDiff, hF.at, hF.hp, hl, h0, h1, h2, h3, h14, Int.reduceBEq, hq]
    try simp (maxSteps := 1000000) only [sy, fy, implies_true, evBuildSlice, fillE, fillA, splice, AV.isCell, here, plain, laid, evOp, avOf, avCell, strOf, evBin, evInt, evStr, evUn, evResults, evResultsL, AV.isUndef, AV.cells, Heap.store, Nat.reduceMul, Nat.reducePow, Nat.reduceSub, Nat.reduceBEq, UInt8.reduceToNat, Nat.reduceEqDiff, Nat.reduceLT, reduceCtorEq, Nat.reduceAdd, Nat.reduceLeDiff, hF.at, hF.hp, hl, h0, h1, h2, h3, h14, Int.reduceBEq, BEq.rfl]
    refine hK _ _ (hF.hpU _) (hF.hpF _) (freshS_hp hF) ?_
    simp only [req, Int.reduceBEq, Bool.or_self, Bool.false_eq_true, if_false, if_true, Bool.or_true, Bool.true_or, BEq.rfl]
    try simp only [hq, Bool.false_eq_true, if_false]
    exact holds_hp rfl rfl (by decide) (by simp [task])
end Go.Proofs.T
end
section
set_option linter.unusedVariables false
set_option linter.unusedSimpArgs false
set_option maxRecDepth 100000
namespace Go.Proofs.T
open Go.Ev

def iAt (cs : List AV) (i : Nat) : Int := match cs[i]? with | some (.int _ n) => n | _ => 0
def sAt (cs : List AV) (i : Nat) : List Nat := match cs[i]? with | some (.str s) => s | _ => []
def reqOf (cs : List AV) : List (List AV) := req (iAt cs 0) (iAt cs 1) (iAt cs 2) (iAt cs 3) (sAt cs 14)
def EvL (L : List (List AV)) : Prop := ∀ cs ∈ L, Ev cs (iAt cs 0) (iAt cs 1) (iAt cs 2) (iAt cs 3) (sAt cs 14)
def setWR (wf rn : List Nat) : List AV → List AV
  | [a, b, c, d, e, f, _, _, i] => [a, b, c, d, e, f, .str wf, .str rn, i]
  | cs => cs
def tasks (wf rn : List Nat) (L : List (List AV)) : List (List AV) := L.flatMap fun cs => (reqOf cs).map (setWR wf rn)

theorem tasks_len (wf rn : List Nat) : ∀ L, (tasks wf rn L).length ≤ 2 * L.length
  | [] => by simp [tasks]
  | cs :: L => by
    have h1 := tasks_len wf rn L
    have h2 : (reqOf cs).length ≤ 2 := req_len _ _ _ _ _
    simp only [tasks, List.flatMap_cons, List.length_append, List.length_map, List.length_cons] at h1 ⊢
    omega

theorem tasks_snoc {wf rn : List Nat} {L : List (List AV)} {i : Nat} {cs : List AV} (h : L[i]? = some cs) : tasks wf rn (L.take (i + 1)) = tasks wf rn (L.take i) ++ (reqOf cs).map (setWR wf rn) := by
  rw [List.take_add_one, h]
  simp [tasks]

theorem app35 : appB Try.prog 35 35 51 9 96 = true := by kernel_rfl

theorem f11_ok {rc : List AV} {wf rn : List Nat} (hrl : rc.length = 34) (r0 : rc.take 1 = [.str wf]) (r1 : (rc.drop 1).take 1 = [.str rn]) {v : AV} {L : List (List AV)} (H : Heap) (hF : Free H) (hv : Holds H 24 v L) (hL : EvL L) (hn : L.length ≤ 100)
    (K : AV → Heap → Prop) (hK : ∀ r H', Up H H' → Free H' → Own H H' 51 9 r (tasks wf rn L) → K r H') : WF Try.prog 11 [.agg rc, v] H K := by
  refine WF_body Try.func11 (by kernel_rfl) rfl Try.ntmps11 (by rw [Try.results11]) (of_decide_eq_true (by kernel_rfl)) ?_
  simp (maxSteps := 1000000) only [sy, fy, implies_true, evBuildSlice, fillE, fillA, splice, AV.isCell, here, plain, laid, evOp, avOf, avCell, strOf, evBin, evInt, evStr, evUn, evResults, evResultsL, AV.isUndef, AV.cells, Heap.store, Nat.reduceMul, Nat.reducePow, Nat.reduceSub, Nat.reduceBEq, UInt8.reduceToNat, Nat.reduceEqDiff, Nat.reduceLT, reduceCtorEq, Nat.reduceAdd, Nat.reduceLeDiff, hF.at, hF.hp, hrl, hv.lenAt und22]
  generalize hH1 : HP H [Blk.row 37 34 [rc] 0 0] = H1
  have hb : H1.blk H.next = some (.row 37 34 [rc] 0 0) := by rw [← hH1, hp_blk0]; rfl
  have hF1 : Free H1 := hH1 ▸ hF.hpF _
  have hU1 : Up H H1 := hH1 ▸ hF.hpU _
  have hv1 := hv.up hU1
  refine loopStep' (fun env H' => ∃ (i : Nat) (out : AV), i ≤ L.length ∧ env.at (.tmp 12) = .int .i64 i ∧ env.at (.tmp 11) = .int .i64 L.length ∧ env.at (.tmp 10) = v ∧ env.at (.tmp 5) = out ∧ env.at (.tmp 2) = .ptr H.next 0 0 0 ∧
      Own H1 H' 51 9 out (tasks wf rn (L.take i)) ∧ Up H1 H' ∧ Free H')
    (fun env H' => match env.at (.tmp 12) with | .int _ i => ((L.length : Int) - i).toNat | _ => 0) ?_ ?_
  · refine ⟨0, .nilslice, Nat.zero_le _, ?_, ?_, ?_, ?_, ?_, ?_, Up.refl _, hF1⟩
    · simp only [sy, fy, implies_true, evBuildSlice, fillE, fillA, splice, AV.isCell, here, plain, laid, evOp, avOf, avCell, strOf, evBin, evInt, evStr, evUn, evResults, evResultsL, AV.isUndef, AV.cells, Heap.store, Nat.reduceMul, Nat.reducePow, Nat.reduceSub, Nat.reduceBEq, UInt8.reduceToNat, Nat.reduceEqDiff, Nat.reduceLT, reduceCtorEq, Nat.reduceAdd, Nat.reduceLeDiff]; rfl
    · simp only [sy, fy, implies_true, evBuildSlice, fillE, fillA, splice, AV.isCell, here, plain, laid, evOp, avOf, avCell, strOf, evBin, evInt, evStr, evUn, evResults, evResultsL, AV.isUndef, AV.cells, Heap.store, Nat.reduceMul, Nat.reducePow, Nat.reduceSub, Nat.reduceBEq, UInt8.reduceToNat, Nat.reduceEqDiff, Nat.reduceLT, reduceCtorEq, Nat.reduceAdd, Nat.reduceLeDiff]
    · simp only [sy, fy, implies_true, evBuildSlice, fillE, fillA, splice, AV.isCell, here, plain, laid, evOp, avOf, avCell, strOf, evBin, evInt, evStr, evUn, evResults, evResultsL, AV.isUndef, AV.cells, Heap.store, Nat.reduceMul, Nat.reducePow, Nat.reduceSub, Nat.reduceBEq, UInt8.reduceToNat, Nat.reduceEqDiff, Nat.reduceLT, reduceCtorEq, Nat.reduceAdd, Nat.reduceLeDiff]
    · simp only [sy, fy, implies_true, evBuildSlice, fillE, fillA, splice, AV.isCell, here, plain, laid, evOp, avOf, avCell, strOf, evBin, evInt, evStr, evUn, evResults, evResultsL, AV.isUndef, AV.cells, Heap.store, Nat.reduceMul, Nat.reducePow, Nat.reduceSub, Nat.reduceBEq, UInt8.reduceToNat, Nat.reduceEqDiff, Nat.reduceLT, reduceCtorEq, Nat.reduceAdd, Nat.reduceLeDiff]
    · simp only [sy, fy, implies_true, evBuildSlice, fillE, fillA, splice, AV.isCell, here, plain, laid, evOp, avOf, avCell, strOf, evBin, evInt, evStr, evUn, evResults, evResultsL, AV.isUndef, AV.cells, Heap.store, Nat.reduceMul, Nat.reducePow, Nat.reduceSub, Nat.reduceBEq, UInt8.reduceToNat, Nat.reduceEqDiff, Nat.reduceLT, reduceCtorEq, Nat.reduceAdd, Nat.reduceLeDiff]
    · simpa [tasks] using Own.nil
  · rintro env H' ⟨i, out, hi, e12, e11, e10, e5, e2, hO, hU, hF'⟩
    by_cases hlt : i < L.length
    · obtain ⟨cs, hcs⟩ : ∃ cs, L[i]? = some cs := ⟨_, List.getElem?_eq_getElem hlt⟩
      have hcm := List.mem_of_getElem? hcs
      have hcl := hv.1 cs hcm
      obtain ⟨p, hp, hload, _⟩ := (hv1.up hU).index und22 sz63 .i64 hcs
      have hE := hL cs hcm
      have hcc := hE.cell
      have htk : cs.take 24 = cs := by rw [← hcl]; exact List.take_length
      simp (maxSteps := 1000000) only [sy, fy, implies_true, evBuildSlice, fillE, fillA, splice, AV.isCell, here, plain, laid, evOp, avOf, avCell, strOf, evBin, evInt, evStr, evUn, evResults, evResultsL, AV.isUndef, AV.cells, Heap.store, Nat.reduceMul, Nat.reducePow, Nat.reduceSub, Nat.reduceBEq, UInt8.reduceToNat, Nat.reduceEqDiff, Nat.reduceLT, reduceCtorEq, Nat.reduceAdd, Nat.reduceLeDiff, e12, e11, e10, e5, e2, lt_true hlt, hF'.at, hF'.hp, hp, hload H' (Up.refl _), hcl, hcc, htk]
      refine callStep (f27_ok hE _ (hF'.hpF _) _ fun r2 H2 hu2 hf2 hfr2 hh2 => ?_)
      have hN : Up H' H2 := (hF'.hpU _).trans hu2
      obtain ⟨G, g1, g2, g3, g4⟩ := hO.rebase hU hN
      have hr2 := g4 r2 9 _ hh2 (hfr2.up (hF'.hpU _))
      simp (maxSteps := 1000000) only [sy, fy, implies_true, evBuildSlice, fillE, fillA, splice, AV.isCell, here, plain, laid, evOp, avOf, avCell, strOf, evBin, evInt, evStr, evUn, evResults, evResultsL, AV.isUndef, AV.cells, Heap.store, Nat.reduceMul, Nat.reducePow, Nat.reduceSub, Nat.reduceBEq, UInt8.reduceToNat, Nat.reduceEqDiff, Nat.reduceLT, reduceCtorEq, Nat.reduceAdd, Nat.reduceLeDiff, e12, e11, e10, e5, e2, hr2.lenAt und35]
      have hbG : G.blk H.next = some (.row 37 34 [rc] 0 0) := g1 _ _ hb
      change LoopStep Try.prog 36 _ _ _ H2 _
      refine loopStep' (fun env3 H3 => ∃ (j : Nat) (out3 : AV), j ≤ (reqOf cs).length ∧ env3.at (.tmp 19) = .int .i64 j ∧ env3.at (.tmp 18) = .int .i64 (reqOf cs).length ∧ env3.at (.tmp 17) = r2 ∧ env3.at (.tmp 12) = .int .i64 i ∧ env3.at (.tmp 11) = .int .i64 L.length ∧ env3.at (.tmp 10) = v ∧
          env3.at (.tmp 5) = out3 ∧ env3.at (.tmp 2) = .ptr H.next 0 0 0 ∧ Own G H3 51 9 out3 (tasks wf rn (L.take i) ++ ((reqOf cs).take j).map (setWR wf rn)) ∧ Up G H3 ∧ Free H3)
        (fun env H' => match env.at (.tmp 19) with | .int _ j => (((reqOf cs).length : Int) - j).toNat | _ => 0) ?_ ?_
      · refine ⟨0, out, Nat.zero_le _, ?_, ?_, ?_, ?_, ?_, ?_, ?_, ?_, ?_, g2, hf2⟩
        · simp only [sy, fy, implies_true, evBuildSlice, fillE, fillA, splice, AV.isCell, here, plain, laid, evOp, avOf, avCell, strOf, evBin, evInt, evStr, evUn, evResults, evResultsL, AV.isUndef, AV.cells, Heap.store, Nat.reduceMul, Nat.reducePow, Nat.reduceSub, Nat.reduceBEq, UInt8.reduceToNat, Nat.reduceEqDiff, Nat.reduceLT, reduceCtorEq, Nat.reduceAdd, Nat.reduceLeDiff]; rfl
        · simp only [sy, fy, implies_true, evBuildSlice, fillE, fillA, splice, AV.isCell, here, plain, laid, evOp, avOf, avCell, strOf, evBin, evInt, evStr, evUn, evResults, evResultsL, AV.isUndef, AV.cells, Heap.store, Nat.reduceMul, Nat.reducePow, Nat.reduceSub, Nat.reduceBEq, UInt8.reduceToNat, Nat.reduceEqDiff, Nat.reduceLT, reduceCtorEq, Nat.reduceAdd, Nat.reduceLeDiff]; rfl
        · simp only [sy, fy, implies_true, evBuildSlice, fillE, fillA, splice, AV.isCell, here, plain, laid, evOp, avOf, avCell, strOf, evBin, evInt, evStr, evUn, evResults, evResultsL, AV.isUndef, AV.cells, Heap.store, Nat.reduceMul, Nat.reducePow, Nat.reduceSub, Nat.reduceBEq, UInt8.reduceToNat, Nat.reduceEqDiff, Nat.reduceLT, reduceCtorEq, Nat.reduceAdd, Nat.reduceLeDiff]
        · simp only [sy, fy, implies_true, evBuildSlice, fillE, fillA, splice, AV.isCell, here, plain, laid, evOp, avOf, avCell, strOf, evBin, evInt, evStr, evUn, evResults, evResultsL, AV.isUndef, AV.cells, Heap.store, Nat.reduceMul, Nat.reducePow, Nat.reduceSub, Nat.reduceBEq, UInt8.reduceToNat, Nat.reduceEqDiff, Nat.reduceLT, reduceCtorEq, Nat.reduceAdd, Nat.reduceLeDiff, e12]
        · simp only [sy, fy, implies_true, evBuildSlice, fillE, fillA, splice, AV.isCell, here, plain, laid, evOp, avOf, avCell, strOf, evBin, evInt, evStr, evUn, evResults, evResultsL, AV.isUndef, AV.cells, Heap.store, Nat.reduceMul, Nat.reducePow, Nat.reduceSub, Nat.reduceBEq, UInt8.reduceToNat, Nat.reduceEqDiff, Nat.reduceLT, reduceCtorEq, Nat.reduceAdd, Nat.reduceLeDiff, e11]
        · simp only [sy, fy, implies_true, evBuildSlice, fillE, fillA, splice, AV.isCell, here, plain, laid, evOp, avOf, avCell, strOf, evBin, evInt, evStr, evUn, evResults, evResultsL, AV.isUndef, AV.cells, Heap.store, Nat.reduceMul, Nat.reducePow, Nat.reduceSub, Nat.reduceBEq, UInt8.reduceToNat, Nat.reduceEqDiff, Nat.reduceLT, reduceCtorEq, Nat.reduceAdd, Nat.reduceLeDiff, e10]
        · simp only [sy, fy, implies_true, evBuildSlice, fillE, fillA, splice, AV.isCell, here, plain, laid, evOp, avOf, avCell, strOf, evBin, evInt, evStr, evUn, evResults, evResultsL, AV.isUndef, AV.cells, Heap.store, Nat.reduceMul, Nat.reducePow, Nat.reduceSub, Nat.reduceBEq, UInt8.reduceToNat, Nat.reduceEqDiff, Nat.reduceLT, reduceCtorEq, Nat.reduceAdd, Nat.reduceLeDiff, e5]
        · simp only [sy, fy, implies_true, evBuildSlice, fillE, fillA, splice, AV.isCell, here, plain, laid, evOp, avOf, avCell, strOf, evBin, evInt, evStr, evUn, evResults, evResultsL, AV.isUndef, AV.cells, Heap.store, Nat.reduceMul, Nat.reducePow, Nat.reduceSub, Nat.reduceBEq, UInt8.reduceToNat, Nat.reduceEqDiff, Nat.reduceLT, reduceCtorEq, Nat.reduceAdd, Nat.reduceLeDiff, e2]
        · simpa using g3
      · have hrq : (reqOf cs).length ≤ 2 := req_len _ _ _ _ _
        rintro env3 H3 ⟨j, out3, hj, d19, d18, d17, d12, d11, d10, d5, d2, hO3, hU3, hF3⟩
        by_cases hjl : j < (reqOf cs).length
        · obtain ⟨ts, hts⟩ : ∃ ts, (reqOf cs)[j]? = some ts := ⟨_, List.getElem?_eq_getElem hjl⟩
          obtain ⟨tid, tk, tev, tsq, tdue, tatt, twf, trn, tq, rfl⟩ := req_task _ _ _ _ _ ts (List.mem_of_getElem? hts)
          obtain ⟨p3, hp3, hload3, _⟩ := (hr2.up hU3).index und35 sz51 .i64 hts
          have hold : ∀ xs, (HP H3 xs).blk H.next = some (.row 37 34 [rc] 0 0) := fun xs => hF3.hpU xs _ _ (hU3 _ _ hbG)
          have hlen : (tasks wf rn (L.take i) ++ ((reqOf cs).take j).map (setWR wf rn)).length ≤ 300 := by
            have h1 := tasks_len wf rn (L.take i)
            simp only [List.length_append, List.length_map, List.length_take] at h1 ⊢
            omega
          simp (maxSteps := 1000000) only [sy, fy, implies_true, evBuildSlice, fillE, fillA, splice, AV.isCell, here, plain, laid, evOp, avOf, avCell, strOf, evBin, evInt, evStr, evUn, evResults, evResultsL, AV.isUndef, AV.cells, Heap.store, Nat.reduceMul, Nat.reducePow, Nat.reduceSub, Nat.reduceBEq, UInt8.reduceToNat, Nat.reduceEqDiff, Nat.reduceLT, reduceCtorEq, Nat.reduceAdd, Nat.reduceLeDiff, d19, d18, d17, d12, d11, d10, d5, d2, lt_true hjl, hF3.at, hF3.hp, hp3, hload3 H3 (Up.refl _), task, hold, r0, r1]
          refine opStep_append app35 (hO3.up (hF3.hpU _)) (hF3.hpF _) (hU3.trans (hF3.hpU _)) (holds_hp rfl rfl (Nat.le_refl _) (by simp)) (by simp [AV.isCell]) (by simp [maxBytes] at hlen ⊢; omega) (by simp [maxBytes] at hlen ⊢; omega) (fun u K' hO4 hU4 hF4 => ?_)
          simp (maxSteps := 1000000) only [sy, fy, implies_true, evBuildSlice, fillE, fillA, splice, AV.isCell, here, plain, laid, evOp, avOf, avCell, strOf, evBin, evInt, evStr, evUn, evResults, evResultsL, AV.isUndef, AV.cells, Heap.store, Nat.reduceMul, Nat.reducePow, Nat.reduceSub, Nat.reduceBEq, UInt8.reduceToNat, Nat.reduceEqDiff, Nat.reduceLT, reduceCtorEq, Nat.reduceAdd, Nat.reduceLeDiff, d19, d18, d17, d12, d11, d10, d5, d2, wrap_succ (i := j) (by omega)]
          refine ⟨⟨j + 1, u, hjl, rfl, rfl, ?_, hU4, hF4⟩, ?_⟩
          · rw [List.take_add_one, hts]
            simpa [setWR, task] using hO4
          · omega
        · obtain rfl : j = (reqOf cs).length := by omega
          simp (maxSteps := 1000000) only [sy, fy, implies_true, evBuildSlice, fillE, fillA, splice, AV.isCell, here, plain, laid, evOp, avOf, avCell, strOf, evBin, evInt, evStr, evUn, evResults, evResultsL, AV.isUndef, AV.cells, Heap.store, Nat.reduceMul, Nat.reducePow, Nat.reduceSub, Nat.reduceBEq, UInt8.reduceToNat, Nat.reduceEqDiff, Nat.reduceLT, reduceCtorEq, Nat.reduceAdd, Nat.reduceLeDiff, d19, d18, d17, d12, d11, d10, d5, d2, lt_false hjl, wrap_succ (i := i) (by omega)]
          refine ⟨⟨i + 1, out3, hlt, rfl, rfl, ?_, (g1.trans hU3), hF3⟩, ?_⟩
          · rw [tasks_snoc hcs]
            simpa using hO3.base g1
          · omega
    · obtain rfl : i = L.length := by omega
      simp (maxSteps := 1000000) only [sy, fy, implies_true, evBuildSlice, fillE, fillA, splice, AV.isCell, here, plain, laid, evOp, avOf, avCell, strOf, evBin, evInt, evStr, evUn, evResults, evResultsL, AV.isUndef, AV.cells, Heap.store, Nat.reduceMul, Nat.reducePow, Nat.reduceSub, Nat.reduceBEq, UInt8.reduceToNat, Nat.reduceEqDiff, Nat.reduceLT, reduceCtorEq, Nat.reduceAdd, Nat.reduceLeDiff, e12, e11, e10, e5, e2, lt_false hlt]
      refine hK _ _ (hU1.trans hU) hF' ?_
      simpa using hO.base hU1
end Go.Proofs.T
end
