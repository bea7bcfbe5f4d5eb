import Derived.Test.YtjlmgabhhodhfaaGreatDoorX13X17
import Derived.Test.YtjlmgabhhodhfaaGreatDoorX18
set_option linter.unusedVariables false
set_option linter.unusedSimpArgs false
namespace Go.Proofs.T
open Go.Ev
theorem ag28 : aggOf Tryz.prog 28 = some false:=by kernel_rfl
theorem sz28 : szOf Tryz.prog 28 = some 1:=by kernel_rfl
theorem und28 : Tryz.prog.underlying 28 = some (.slice 55):=by kernel_rfl
theorem el28 : elemOfSlice Tryz.prog 28 = some 55:=by kernel_rfl
theorem ag31 : aggOf Tryz.prog 31 = some true:=by kernel_rfl
theorem sz31 : szOf Tryz.prog 31 = some 6:=by kernel_rfl
theorem ag53 : aggOf Tryz.prog 53 = some false:=by kernel_rfl
theorem sz53 : szOf Tryz.prog 53 = some 1:=by kernel_rfl
theorem und53 : Tryz.prog.underlying 53 = some (.slice 92):=by kernel_rfl
theorem el53 : elemOfSlice Tryz.prog 53 = some 92:=by kernel_rfl
theorem ag55 : aggOf Tryz.prog 55 = some true:=by kernel_rfl
theorem sz55 : szOf Tryz.prog 55 = some 5:=by kernel_rfl
theorem ag90 : aggOf Tryz.prog 90 = some false:=by kernel_rfl
theorem sz90 : szOf Tryz.prog 90 = some 1:=by kernel_rfl
theorem und90 : Tryz.prog.underlying 90 = some (.slice 94):=by kernel_rfl
theorem el90 : elemOfSlice Tryz.prog 90 = some 94:=by kernel_rfl
theorem ag92 : aggOf Tryz.prog 92 = some true:=by kernel_rfl
theorem sz92 : szOf Tryz.prog 92 = some 10:=by kernel_rfl
theorem ag94 : aggOf Tryz.prog 94 = some true:=by kernel_rfl
theorem sz94 : szOf Tryz.prog 94 = some 2:=by kernel_rfl
theorem ag100 : aggOf Tryz.prog 100 = some true:=by kernel_rfl
theorem sz100 : szOf Tryz.prog 100 = some 15:=by kernel_rfl
theorem ag110 : aggOf Tryz.prog 110 = some true:=by kernel_rfl
theorem sz110 : szOf Tryz.prog 110 = some 15:=by kernel_rfl
theorem ag131 : aggOf Tryz.prog 131 = some false:=by kernel_rfl
theorem sz131 : szOf Tryz.prog 131 = some 1:=by kernel_rfl
theorem und131 : Tryz.prog.underlying 131 = some (.pointer 134):=by kernel_rfl
theorem ag132 : aggOf Tryz.prog 132 = some false:=by kernel_rfl
theorem sz132 : szOf Tryz.prog 132 = some 1:=by kernel_rfl
theorem und132 : Tryz.prog.underlying 132 = some (.map 3 29):=by kernel_rfl
theorem ag134 : aggOf Tryz.prog 134 = some true:=by kernel_rfl
theorem sz134 : szOf Tryz.prog 134 = some 5:=by kernel_rfl
theorem ag310 : aggOf Tryz.prog 310 = some false:=by kernel_rfl
theorem sz310 : szOf Tryz.prog 310 = some 1:=by kernel_rfl
theorem und310 : Tryz.prog.underlying 310 = some (.map 9 4):=by kernel_rfl
theorem ag325 : aggOf Tryz.prog 325 = some false:=by kernel_rfl
theorem sz325 : szOf Tryz.prog 325 = some 1:=by kernel_rfl
theorem fd31_0 : fieldOf Tryz.prog 31 0 = some ({ name:= "State",type:=3,offset:=0,embedded:=false,tag:= "",pkgPath:= "",byteOffset:=0 }):=by kernel_rfl
theorem fd31_1 : fieldOf Tryz.prog 31 1 = some ({ name:= "Frames",type:=28,offset:=1,embedded:=false,tag:= "",pkgPath:= "",byteOffset:=8 }):=by kernel_rfl
theorem fd31_2 : fieldOf Tryz.prog 31 2 = some ({ name:= "Future",type:=3,offset:=2,embedded:=false,tag:= "",pkgPath:= "",byteOffset:=32 }):=by kernel_rfl
theorem fd31_3 : fieldOf Tryz.prog 31 3 = some ({ name:= "Waits",type:=29,offset:=3,embedded:=false,tag:= "",pkgPath:= "",byteOffset:=40 }):=by kernel_rfl
theorem fd31_4 : fieldOf Tryz.prog 31 4 = some ({ name:= "Select",type:=4,offset:=4,embedded:=false,tag:= "",pkgPath:= "",byteOffset:=64 }):=by kernel_rfl
theorem fd31_5 : fieldOf Tryz.prog 31 5 = some ({ name:= "Key",type:=9,offset:=5,embedded:=false,tag:= "",pkgPath:= "",byteOffset:=72 }):=by kernel_rfl
theorem fd55_0 : fieldOf Tryz.prog 55 0 = some ({ name:= "Func",type:=3,offset:=0,embedded:=false,tag:= "",pkgPath:= "",byteOffset:=0 }):=by kernel_rfl
theorem fd55_1 : fieldOf Tryz.prog 55 1 = some ({ name:= "PC",type:=3,offset:=1,embedded:=false,tag:= "",pkgPath:= "",byteOffset:=8 }):=by kernel_rfl
theorem fd55_2 : fieldOf Tryz.prog 55 2 = some ({ name:= "Slots",type:=24,offset:=2,embedded:=false,tag:= "",pkgPath:= "",byteOffset:=16 }):=by kernel_rfl
theorem fd55_3 : fieldOf Tryz.prog 55 3 = some ({ name:= "Stack",type:=24,offset:=3,embedded:=false,tag:= "",pkgPath:= "",byteOffset:=40 }):=by kernel_rfl
theorem fd55_4 : fieldOf Tryz.prog 55 4 = some ({ name:= "Marks",type:=53,offset:=4,embedded:=false,tag:= "",pkgPath:= "",byteOffset:=64 }):=by kernel_rfl
theorem fd92_0 : fieldOf Tryz.prog 92 0 = some ({ name:= "Kind",type:=3,offset:=0,embedded:=false,tag:= "",pkgPath:= "",byteOffset:=0 }):=by kernel_rfl
theorem fd92_1 : fieldOf Tryz.prog 92 1 = some ({ name:= "Target",type:=3,offset:=1,embedded:=false,tag:= "",pkgPath:= "",byteOffset:=8 }):=by kernel_rfl
theorem fd92_2 : fieldOf Tryz.prog 92 2 = some ({ name:= "Slot",type:=3,offset:=2,embedded:=false,tag:= "",pkgPath:= "",byteOffset:=16 }):=by kernel_rfl
theorem fd92_3 : fieldOf Tryz.prog 92 3 = some ({ name:= "Height",type:=3,offset:=3,embedded:=false,tag:= "",pkgPath:= "",byteOffset:=24 }):=by kernel_rfl
theorem fd92_4 : fieldOf Tryz.prog 92 4 = some ({ name:= "Undos",type:=90,offset:=4,embedded:=false,tag:= "",pkgPath:= "",byteOffset:=32 }):=by kernel_rfl
theorem fd92_5 : fieldOf Tryz.prog 92 5 = some ({ name:= "Thrown",type:=34,offset:=5,embedded:=false,tag:= "",pkgPath:= "",byteOffset:=56 }):=by kernel_rfl
theorem fd94_0 : fieldOf Tryz.prog 94 0 = some ({ name:= "Func",type:=3,offset:=0,embedded:=false,tag:= "",pkgPath:= "",byteOffset:=0 }):=by kernel_rfl
theorem fd94_1 : fieldOf Tryz.prog 94 1 = some ({ name:= "Args",type:=24,offset:=1,embedded:=false,tag:= "",pkgPath:= "",byteOffset:=8 }):=by kernel_rfl
theorem fd100_0 : fieldOf Tryz.prog 100 0 = some ({ name:= "c",type:=27,offset:=0,embedded:=false,tag:= "",pkgPath:= "workflow/frame",byteOffset:=0 }):=by kernel_rfl
theorem fd100_2 : fieldOf Tryz.prog 100 2 = some ({ name:= "k",type:=31,offset:=5,embedded:=false,tag:= "",pkgPath:= "workflow/frame",byteOffset:=120 }):=by kernel_rfl
theorem fd110_0 : fieldOf Tryz.prog 110 0 = some ({ name:= "c",type:=27,offset:=0,embedded:=false,tag:= "",pkgPath:= "workflow/workflowref14",byteOffset:=0 }):=by kernel_rfl
theorem fd110_2 : fieldOf Tryz.prog 110 2 = some ({ name:= "k",type:=31,offset:=5,embedded:=false,tag:= "",pkgPath:= "workflow/workflowref14",byteOffset:=120 }):=by kernel_rfl
theorem fd134_0 : fieldOf Tryz.prog 134 0 = some ({ name:= "c",type:=27,offset:=0,embedded:=false,tag:= "",pkgPath:= "workflow/frame",byteOffset:=0 }):=by kernel_rfl
theorem fd134_1 : fieldOf Tryz.prog 134 1 = some ({ name:= "heights",type:=132,offset:=4,embedded:=false,tag:= "",pkgPath:= "workflow/frame",byteOffset:=96 }):=by kernel_rfl
theorem ze4 : zeroOf Tryz.prog 4 = some (AV.bool false):=by kernel_rfl
theorem ze9 : zeroOf Tryz.prog 9 = some (AV.str []):=by kernel_rfl
theorem ze31 : zeroOf Tryz.prog 31 = some (AV.agg [AV.int IntKind.i64 0,AV.nilslice,AV.int IntKind.i64 0,AV.nilslice,AV.bool false,AV.str []]):=by kernel_rfl
theorem ze100 : zeroOf Tryz.prog 100 = some (AV.agg [AV.nilslice,AV.nilslice,AV.nilslice,AV.nilslice,AV.nilslice,AV.int IntKind.i64 0,AV.nilslice,AV.int IntKind.i64 0,AV.nilslice,AV.bool false,AV.str [],AV.int IntKind.i64 0,AV.str [],AV.int IntKind.i64 0,AV.nilslice]):=by kernel_rfl
theorem ze110 : zeroOf Tryz.prog 110 = some (AV.agg [AV.nilslice,AV.nilslice,AV.nilslice,AV.nilslice,AV.nilslice,AV.int IntKind.i64 0,AV.nilslice,AV.int IntKind.i64 0,AV.nilslice,AV.bool false,AV.str [],AV.int IntKind.i64 0,AV.str [],AV.int IntKind.i64 0,AV.nilslice]):=by kernel_rfl
theorem ze55 : zeroOf Tryz.prog 55 = some (AV.agg [AV.int IntKind.i64 0,AV.int IntKind.i64 0,AV.nilslice,AV.nilslice,AV.nilslice]):=by kernel_rfl
theorem ze92 : zeroOf Tryz.prog 92 = some (AV.agg [AV.int IntKind.i64 0,AV.int IntKind.i64 0,AV.int IntKind.i64 0,AV.int IntKind.i64 0,AV.nilslice,AV.int IntKind.i64 0,AV.int IntKind.i64 0,AV.str [],AV.nilslice,AV.nilslice]):=by kernel_rfl
theorem ze134 : zeroOf Tryz.prog 134 = some (AV.agg [AV.nilslice,AV.nilslice,AV.nilslice,AV.nilslice,AV.nilMap]):=by kernel_rfl
theorem ze29 : zeroOf Tryz.prog 29 = some (AV.nilslice):=by kernel_rfl
theorem ze325 : zeroOf Tryz.prog 325 = some (AV.nilFunc):=by kernel_rfl
theorem bu31 (parts : List (Nat × AV)) : evBuild Tryz.prog 31 parts = (fillA (fun i=>([(0,1),(1,1),(2,1),(3,1),(4,1),(5,1)] : List (Nat × Nat))[i]?) [AV.int IntKind.i64 0,AV.nilslice,AV.int IntKind.i64 0,AV.nilslice,AV.bool false,AV.str []] parts).map .agg:=evBuild_struct ze31 (by kernel_rfl) parts
theorem bu100 (parts : List (Nat × AV)) : evBuild Tryz.prog 100 parts = (fillA (fun i=>([(0,4),(4,1),(5,6),(11,4)] : List (Nat × Nat))[i]?) [AV.nilslice,AV.nilslice,AV.nilslice,AV.nilslice,AV.nilslice,AV.int IntKind.i64 0,AV.nilslice,AV.int IntKind.i64 0,AV.nilslice,AV.bool false,AV.str [],AV.int IntKind.i64 0,AV.str [],AV.int IntKind.i64 0,AV.nilslice] parts).map .agg:=evBuild_struct ze100 (by kernel_rfl) parts
theorem bu110 (parts : List (Nat × AV)) : evBuild Tryz.prog 110 parts = (fillA (fun i=>([(0,4),(4,1),(5,6),(11,4)] : List (Nat × Nat))[i]?) [AV.nilslice,AV.nilslice,AV.nilslice,AV.nilslice,AV.nilslice,AV.int IntKind.i64 0,AV.nilslice,AV.int IntKind.i64 0,AV.nilslice,AV.bool false,AV.str [],AV.int IntKind.i64 0,AV.str [],AV.int IntKind.i64 0,AV.nilslice] parts).map .agg:=evBuild_struct ze110 (by kernel_rfl) parts
theorem bu55 (parts : List (Nat × AV)) : evBuild Tryz.prog 55 parts = (fillA (fun i=>([(0,1),(1,1),(2,1),(3,1),(4,1)] : List (Nat × Nat))[i]?) [AV.int IntKind.i64 0,AV.int IntKind.i64 0,AV.nilslice,AV.nilslice,AV.nilslice] parts).map .agg:=evBuild_struct ze55 (by kernel_rfl) parts
theorem bu134 (parts : List (Nat × AV)) : evBuild Tryz.prog 134 parts = (fillA (fun i=>([(0,4),(4,1)] : List (Nat × Nat))[i]?) [AV.nilslice,AV.nilslice,AV.nilslice,AV.nilslice,AV.nilMap] parts).map .agg:=evBuild_struct ze134 (by kernel_rfl) parts
theorem bu104 (parts : List (Nat × AV)) : evBuild Tryz.prog 104 parts = (fillA (fun i=>([(0,1),(1,1),(2,1),(3,1),(4,5)] : List (Nat × Nat))[i]?) [AV.int IntKind.i64 0,AV.int IntKind.i64 0,AV.int IntKind.i64 0,AV.str [],AV.int IntKind.i64 0,AV.int IntKind.i64 0,AV.str [],AV.nilslice,AV.nilslice] parts).map .agg:=evBuild_struct ze104 (by kernel_rfl) parts
theorem fx3 : (((((((type_of% @ag28) ∧ (type_of% @sz28)) ∧ ((type_of% @und28) ∧ (type_of% @el28))) ∧ (((type_of% @ag31) ∧ (type_of% @sz31)) ∧ ((type_of% @ag53) ∧ ((type_of% @sz53) ∧ (type_of% @und53))))) ∧ ((((type_of% @el53) ∧ (type_of% @ag55)) ∧ ((type_of% @sz55) ∧ ((type_of% @ag90) ∧ (type_of% @sz90)))) ∧ (((type_of% @und90) ∧ (type_of% @el90)) ∧ ((type_of% @ag92) ∧ ((type_of% @sz92) ∧ (type_of% @ag94)))))) ∧ (((((type_of% @sz94) ∧ (type_of% @ag100)) ∧ ((type_of% @sz100) ∧ ((type_of% @ag110) ∧ (type_of% @sz110)))) ∧ (((type_of% @ag131) ∧ (type_of% @sz131)) ∧ ((type_of% @und131) ∧ ((type_of% @ag132) ∧ (type_of% @sz132))))) ∧ ((((type_of% @und132) ∧ (type_of% @ag134)) ∧ ((type_of% @sz134) ∧ ((type_of% @ag310) ∧ (type_of% @sz310)))) ∧ (((type_of% @und310) ∧ (type_of% @ag325)) ∧ ((type_of% @sz325) ∧ ((type_of% @fd31_0) ∧ (type_of% @fd31_1))))))) ∧ ((((((type_of% @fd31_2) ∧ (type_of% @fd31_3)) ∧ ((type_of% @fd31_4) ∧ (type_of% @fd31_5))) ∧ (((type_of% @fd55_0) ∧ (type_of% @fd55_1)) ∧ ((type_of% @fd55_2) ∧ ((type_of% @fd55_3) ∧ (type_of% @fd55_4))))) ∧ ((((type_of% @fd92_0) ∧ (type_of% @fd92_1)) ∧ ((type_of% @fd92_2) ∧ ((type_of% @fd92_3) ∧ (type_of% @fd92_4)))) ∧ (((type_of% @fd92_5) ∧ (type_of% @fd94_0)) ∧ ((type_of% @fd94_1) ∧ ((type_of% @fd100_0) ∧ (type_of% @fd100_2)))))) ∧ (((((type_of% @fd110_0) ∧ (type_of% @fd110_2)) ∧ ((type_of% @fd134_0) ∧ ((type_of% @fd134_1) ∧ (type_of% @ze4)))) ∧ (((type_of% @ze9) ∧ (type_of% @ze31)) ∧ ((type_of% @ze100) ∧ ((type_of% @ze110) ∧ (type_of% @ze55))))) ∧ ((((type_of% @ze92) ∧ (type_of% @ze134)) ∧ ((type_of% @ze29) ∧ ((type_of% @ze325) ∧ (type_of% @bu31)))) ∧ (((type_of% @bu100) ∧ (type_of% @bu110)) ∧ ((type_of% @bu55) ∧ ((type_of% @bu134) ∧ (type_of% @bu104)))))))):=
 And.intro (And.intro (And.intro (And.intro (And.intro (And.intro (@ag28) (@sz28)) (And.intro (@und28) (@el28))) (And.intro (And.intro (@ag31) (@sz31)) (And.intro (@ag53) (And.intro (@sz53) (@und53))))) (And.intro (And.intro (And.intro (@el53) (@ag55)) (And.intro (@sz55) (And.intro (@ag90) (@sz90)))) (And.intro (And.intro (@und90) (@el90)) (And.intro (@ag92) (And.intro (@sz92) (@ag94)))))) (And.intro (And.intro (And.intro (And.intro (@sz94) (@ag100)) (And.intro (@sz100) (And.intro (@ag110) (@sz110)))) (And.intro (And.intro (@ag131) (@sz131)) (And.intro (@und131) (And.intro (@ag132) (@sz132))))) (And.intro (And.intro (And.intro (@und132) (@ag134)) (And.intro (@sz134) (And.intro (@ag310) (@sz310)))) (And.intro (And.intro (@und310) (@ag325)) (And.intro (@sz325) (And.intro (@fd31_0) (@fd31_1))))))) (And.intro (And.intro (And.intro (And.intro (And.intro (@fd31_2) (@fd31_3)) (And.intro (@fd31_4) (@fd31_5))) (And.intro (And.intro (@fd55_0) (@fd55_1)) (And.intro (@fd55_2) (And.intro (@fd55_3) (@fd55_4))))) (And.intro (And.intro (And.intro (@fd92_0) (@fd92_1)) (And.intro (@fd92_2) (And.intro (@fd92_3) (@fd92_4)))) (And.intro (And.intro (@fd92_5) (@fd94_0)) (And.intro (@fd94_1) (And.intro (@fd100_0) (@fd100_2)))))) (And.intro (And.intro (And.intro (And.intro (@fd110_0) (@fd110_2)) (And.intro (@fd134_0) (And.intro (@fd134_1) (@ze4)))) (And.intro (And.intro (@ze9) (@ze31)) (And.intro (@ze100) (And.intro (@ze110) (@ze55))))) (And.intro (And.intro (And.intro (@ze92) (@ze134)) (And.intro (@ze29) (And.intro (@ze325) (@bu31)))) (And.intro (And.intro (@bu100) (@bu110)) (And.intro (@bu55) (And.intro (@bu134) (@bu104)))))))
/-- The stepping set with the facts. -/
theorem ey : (((type_of% dx) ∧ (type_of% fx)) ∧ ((type_of% fx2) ∧ ((type_of% fx3) ∧ (type_of% ux)))):=
 ⟨⟨dx,fx⟩,⟨fx2,⟨fx3,ux⟩⟩⟩
end Go.Proofs.T
set_option linter.unusedVariables false
set_option linter.unusedSimpArgs false
set_option maxRecDepth 100000
namespace Go.Proofs.T
open Go.Ev
def VS : Nat → List AV → Prop
 | 0,_=>True
 | n + 1,cs=>(itm (cs.getD 3 .undef)).length * 80 ≤ 140737488355328 ∧ (itm (cs.getD 4 .undef)).length * 16 ≤ 140737488355328 ∧ ∀ c ∈ itm (cs.getD 3 .undef),VS n c
theorem StrL.cells {M : List (List AV)} (h : StrL M) : ∀ cs ∈ M,cs.all AV.isCell = true:=fun cs hc=>by
 obtain ⟨s,rfl⟩:=h cs hc
 rfl
def EqV : Nat → Heap → List AV → List AV → Prop
 | 0,_,_,_=>False
 | n + 1,H,d,cs=>∃ (k i : Int) (s : List Nat) (va vc wa wc : AV) (La Lc M : List (List AV)),d = [.int .i64 k,.int .i64 i,.str s,va,wa] ∧ cs = [.int .i64 k,.int .i64 i,.str s,vc,wc] ∧ Holds H 5 va La ∧ (∀ H,Holds H 5 vc Lc) ∧ La.length = Lc.length ∧ Lc.length * 80 ≤ 140737488355328 ∧
  (∀ (j : Nat) (a c : List AV),La[j]? = some a → Lc[j]? = some c → EqV n H a c) ∧ Holds H 1 wa M ∧ (∀ H,Holds H 1 wc M) ∧ M.length * 16 ≤ 140737488355328 ∧ StrL M
theorem EqV.up : ∀ {n : Nat} {H G : Heap} {d cs : List AV},EqV n H d cs → Up H G → EqV n G d cs
 | 0,_,_,_,_,h,_=>h.elim
 | n + 1,_,_,_,_,⟨k,i,s,va,vc,wa,wc,La,Lc,M,e1,e2,h1,h2,h3,h4,h5,h6,h7,h8,h9⟩,hu=>⟨k,i,s,va,vc,wa,wc,La,Lc,M,e1,e2,h1.up hu,h2,h3,h4,fun j a c ha hc=>(h5 j a c ha hc).up hu,h6.up hu,h7,h8,h9⟩
theorem EqV.len {n : Nat} {H : Heap} {d cs : List AV} (h : EqV n H d cs) : d.length = 5:=by
 cases n with
 | zero=>exact h.elim
 | succ n=>obtain ⟨k,i,s,va,vc,wa,wc,La,Lc,M,rfl,_⟩:=h;rfl
theorem EqV.cells {n : Nat} {H : Heap} {d cs : List AV} (h : EqV n H d cs) : d.all AV.isCell = true:=by
 cases n with
 | zero=>exact h.elim
 | succ n=>
  obtain ⟨k,i,s,va,vc,wa,wc,La,Lc,M,rfl,_,hv,_,_,_,_,hw,_⟩:=h
  have h1:=holds_cell hv
  have h2:=holds_cell hw
  simp only [List.all_cons,List.all_nil,h1,h2];rfl

def hn (F H : Heap) : Heap:=⟨fun c=>if (H.blk c).isSome = true then none else F.blk c,F.next⟩
def Copy (n : Nat) : Prop:=∀ (H : Heap) (cs : List AV),VT n cs → VS n cs → Free H → ∀ (K : AV → Heap → Prop),(∀ d' H',EqV n (hn H' H) d' cs → Up H H' → Free H' → K (.agg d') H') → WF Tryz.prog 65 [.agg cs] H K

def zv : List AV:=[.int .i64 0,.int .i64 0,.str [],.nilslice,.nilslice]

end Go.Proofs.T
