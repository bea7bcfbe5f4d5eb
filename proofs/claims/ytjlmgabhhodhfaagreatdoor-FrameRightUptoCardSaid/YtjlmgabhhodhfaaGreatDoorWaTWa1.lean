import Derived.Test.YtjlmgabhhodhfaaGreatDoorKnK4e
import Derived.Test.YtjlmgabhhodhfaaGreatDoorProg
set_option linter.unusedSimpArgs false
set_option linter.unusedVariables false
set_option maxRecDepth 1000000
namespace Go.Proofs.T
open Go Go.Ev
def waTab : TabL:=[(49,1,[(4,2)],[0,1,3,4,2,6,5,7,8,9]),
 (228,19,[],[0,1,2,3,4,5,6,7,8,9,10,11,12,13,14,15,16,17,18,19,20,21,22,23,24]),
 (100,1,[],[0,1,2,3,4,5,6,7,8,9,10,11,12,13,14,15,16,17]),
 (61,5,[],[0,1,2,3,4,5,6,7,8,9,10,11,12]),
 (50,1,[],[0,1,2,3,4,5,6,7,8,9,10,11,12,13]),
 (299,4,[],[0,1,2,3,4,5,6,7,8,9,10,11,12,13,14]),
 (49,5,[(4,2),(7,2),(7,5)],[0,1,3,4,6,7,2,9,5,8,10,11,12,13,14]),
 (346,30,[],[0,1,2,3,4,5,6,7,8,9,10,11,12,13,14,15]),
 (17,7,[],[0,1,2,3,4,5,6,7,8,9,10,11,12,13,14,15,16]),
 (208,4,[(1,3)],[0,1,2,3,4,5,6,7]),
 (17,12,[],[0,1,2,3,4,5,6,7,8,9,10,11,12,13]),
 (65,1,[(4,2)],[0,1,3,4,2,6,5,7,8,9]),
 (17,13,[],[0,1,2,3,4,5,6,7,8,9,10,11,12,13,14,15]),
 (16,12,[(0,1)],[0,1,2,3,4,5,6,7,8,9,10]),
 (17,16,[(7,12),(11,12)],[0,1,2,3,4,5,6,7,8,9,10,11,12,13,14]),
 (53,6,[],[0,1,2,3,4,5,6,7,8,9,10]),
 (340,1,[],[0,1,2,3,4,5,6,7,8,9,10,11]),
 (16,2,[(0,1)],[0,1,2,3,4,5,6,7,8,9]),
 (123,10,[],[0,1,2,3,4,5,6,7,8,9,10,11,12,13,14,15,16,17,18,19,20,21,22,23]),
 (68,1,[(7,1),(7,3)],[0,2,7,1,3,4,5,6,8,9,10,11,12]),
 (17,1,[(0,2),(0,4),(3,2)],[0,1,3,2,4,5,6,7]),
 (61,3,[],[0,1,2,3,4,5,6,7,8,9,10,11,12]),
 (198,1,[],[0,1,2,3,4,5,6,7,8,9,10,11,12,13,14,15,16,17]),
 (120,14,[(1,5),(1,7)],[0,1,2,3,4,5,6,7,8,9,10,11,12]),
 (218,20,[],[0,1,2,3,4,5,6,7,8,9,10]),
 (228,12,[],[0,1,2,3,4,5,6,7,8,9,10,11]),
 (296,4,[],[0,1,2,3,4,5,6,7,8,9,10,11,12,13]),
 (59,21,[],[0,1,2,3,4,5,6,7]),
 (17,5,[],[0,1,2,3,4,5,6,7,8,9,10,11,12,13,14,15,16,17,18,19,20,21,22,23,24,25,26,27,28,29,30,31,32,33,34,35,36,37,38]),
 (53,16,[],[0,1,2,3,4,5,6,7,8,9,10,11,12]),
 (219,2,[],[0,1,2,3,4,5,6,7,8,9,10,11,12,13]),
 (59,33,[],[0,1,2,3,4,5,6,7,8,9]),
 (221,1,[],[0,1,2,3,4,5,6,7,8,9,10]),
 (340,3,[],[0,1,2,3,4,5,6,7,8,9,10,11,12]),
 (36,11,[],[0,1,2,3,4,5,6,7,8,9,10,11]),
 (282,4,[],[0,1,2,3,4,5,6,7,8,9,10]),
 (392,5,[(1,3)],[0,1,2,3,4,5,6]),
 (121,11,[(0,2)],[0,1,2,3,4,5])]
theorem waTab_ok : TabOk Tryz.prog (tab4 waTab):=tab_ok (by kernel_rfl)
noncomputable def waFn : Func:=oElim default (fun x=>x) Tryz.prog.funcs[16]?
noncomputable def waBody : Code:=oElim .skip (fun c=>c) waFn.body
noncomputable def waCode : List Code:=flat waBody
theorem waChk : chkCs Tryz.prog (tab4 waTab 16) waCode = true:=by kernel_rfl
def waE1 : List (Nat × AV):=[(0,.bool false),
 (1,.ptr 550 0 0 0),
 (2,.int .i64 (.ofNat 0)),
 (3,.int .i64 (.ofNat 0)),
 (8,.tuple [.agg [.slice 460 0 1 1 false 0,.nilslice,.nilslice,.nilslice],.int .i64 (.ofNat 0),.int .i64 (.ofNat 0)]),
 (9,.tuple [.agg [.slice 460 0 1 1 false 0,.nilslice,.nilslice,.nilslice],.int .i64 (.ofNat 0),.int .i64 (.ofNat 0)]),
 (10,.agg [.slice 460 0 1 1 false 0,.nilslice,.nilslice,.nilslice]),
 (11,.int .i64 (.ofNat 0)),
 (12,.int .i64 (.ofNat 0))]
def waR1 : RL:=[(443,.row 104 9 [[.int .i64 (.ofNat 2),.int .i64 (.ofNat 0),.int .i64 (.ofNat 0),.str [],.int .i64 (.ofNat 0),.int .i64 (.ofNat 0),.str [],.nilslice,.nilslice],[.int .i64 (.ofNat 1),.int .i64 (.ofNat 0),.int .i64 (.ofNat 0),.str [],.int .i64 (.ofNat 2),.int .i64 (.ofNat 1),.str [],.nilslice,.nilslice],[.int .i64 (.ofNat 12),.int .i64 (.ofNat 18),.int .i64 (.ofNat 0),.str [],.int .i64 (.ofNat 0),.int .i64 (.ofNat 0),.str [],.nilslice,.nilslice],[.int .i64 (.ofNat 19),.int .i64 (.ofNat 0),.int .i64 (.ofNat 0),.str [],.int .i64 (.ofNat 0),.int .i64 (.ofNat 0),.str [],.nilslice,.nilslice],[.int .i64 (.ofNat 1),.int .i64 (.ofNat 0),.int .i64 (.ofNat 0),.str [],.int .i64 (.ofNat 0),.int .i64 (.ofNat 0),.str [],.nilslice,.nilslice],[.int .i64 (.ofNat 19),.int .i64 (.ofNat 0),.int .i64 (.ofNat 0),.str [],.int .i64 (.ofNat 0),.int .i64 (.ofNat 0),.str [],.nilslice,.nilslice]] 5 0),
 (460,.row 85 4 [[.str [109,97,105,110],.int .i64 (.ofNat 1),.int .i64 (.ofNat 1),.slice 443 0 6 6 false 5]] 0 0),
 (550,.row 27 4 [[.slice 460 0 1 1 false 0,.nilslice,.nilslice,.nilslice]] 0 0)]
theorem waRun1 : pieceOk [] 551 waR1 waE1 (kCs Tryz.prog (kF4 Tryz.prog (tab4 waTab) 60) (tab4 waTab 16) 50 (take4 (drop4 waCode 0) 2) (mkE []) (mkK 0 [])) = true:=by kernel_rfl
end Go.Proofs.T
