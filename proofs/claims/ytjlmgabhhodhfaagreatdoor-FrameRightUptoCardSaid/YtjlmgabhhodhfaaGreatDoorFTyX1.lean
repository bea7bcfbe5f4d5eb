import Derived.Test.YtjlmgabhhodhfaaGreatDoorEvQGT
import Derived.Test.YtjlmgabhhodhfaaGreatDoorProg
set_option linter.unusedVariables false
set_option linter.unusedSimpArgs false
namespace Go.Proofs.T
open Go.Ev
theorem ag3 : aggOf Tryz.prog 3 = some false:=by kernel_rfl
theorem sz3 : szOf Tryz.prog 3 = some 1:=by kernel_rfl
theorem und3 : Tryz.prog.underlying 3 = some (.int IntKind.i64):=by kernel_rfl
theorem ag4 : aggOf Tryz.prog 4 = some false:=by kernel_rfl
theorem sz4 : szOf Tryz.prog 4 = some 1:=by kernel_rfl
theorem und4 : Tryz.prog.underlying 4 = some .bool:=by kernel_rfl
theorem ag9 : aggOf Tryz.prog 9 = some false:=by kernel_rfl
theorem sz9 : szOf Tryz.prog 9 = some 1:=by kernel_rfl
theorem und9 : Tryz.prog.underlying 9 = some .string:=by kernel_rfl
theorem ag23 : aggOf Tryz.prog 23 = some false:=by kernel_rfl
theorem sz23 : szOf Tryz.prog 23 = some 1:=by kernel_rfl
theorem und23 : Tryz.prog.underlying 23 = some (.slice 9):=by kernel_rfl
theorem el23 : elemOfSlice Tryz.prog 23 = some 9:=by kernel_rfl
theorem ag24 : aggOf Tryz.prog 24 = some false:=by kernel_rfl
theorem sz24 : szOf Tryz.prog 24 = some 1:=by kernel_rfl
theorem und24 : Tryz.prog.underlying 24 = some (.slice 34):=by kernel_rfl
theorem el24 : elemOfSlice Tryz.prog 24 = some 34:=by kernel_rfl
theorem ag29 : aggOf Tryz.prog 29 = some false:=by kernel_rfl
theorem sz29 : szOf Tryz.prog 29 = some 1:=by kernel_rfl
theorem und29 : Tryz.prog.underlying 29 = some (.slice 3):=by kernel_rfl
theorem el29 : elemOfSlice Tryz.prog 29 = some 3:=by kernel_rfl
theorem ag34 : aggOf Tryz.prog 34 = some true:=by kernel_rfl
theorem sz34 : szOf Tryz.prog 34 = some 5:=by kernel_rfl
theorem ag83 : aggOf Tryz.prog 83 = some false:=by kernel_rfl
theorem sz83 : szOf Tryz.prog 83 = some 1:=by kernel_rfl
theorem und83 : Tryz.prog.underlying 83 = some (.slice 104):=by kernel_rfl
theorem el83 : elemOfSlice Tryz.prog 83 = some 104:=by kernel_rfl
theorem ag85 : aggOf Tryz.prog 85 = some true:=by kernel_rfl
theorem sz85 : szOf Tryz.prog 85 = some 4:=by kernel_rfl
theorem ag104 : aggOf Tryz.prog 104 = some true:=by kernel_rfl
theorem sz104 : szOf Tryz.prog 104 = some 9:=by kernel_rfl
theorem ag200 : aggOf Tryz.prog 200 = some true:=by kernel_rfl
theorem sz200 : szOf Tryz.prog 200 = some 2:=by kernel_rfl
theorem ag201 : aggOf Tryz.prog 201 = some false:=by kernel_rfl
theorem sz201 : szOf Tryz.prog 201 = some 1:=by kernel_rfl
theorem und201 : Tryz.prog.underlying 201 = some (.slice 200):=by kernel_rfl
theorem el201 : elemOfSlice Tryz.prog 201 = some 200:=by kernel_rfl
theorem ag319 : aggOf Tryz.prog 319 = some false:=by kernel_rfl
theorem sz319 : szOf Tryz.prog 319 = some 1:=by kernel_rfl
theorem und319 : Tryz.prog.underlying 319 = some (.slice 322):=by kernel_rfl
theorem el319 : elemOfSlice Tryz.prog 319 = some 322:=by kernel_rfl
theorem ag322 : aggOf Tryz.prog 322 = some true:=by kernel_rfl
theorem sz322 : szOf Tryz.prog 322 = some 2:=by kernel_rfl
theorem fd34_0 : fieldOf Tryz.prog 34 0 = some ({ name:= "Kind",type:=3,offset:=0,embedded:=false,tag:= "",pkgPath:= "",byteOffset:=0 }):=by kernel_rfl
theorem fd34_1 : fieldOf Tryz.prog 34 1 = some ({ name:= "Int",type:=3,offset:=1,embedded:=false,tag:= "",pkgPath:= "",byteOffset:=8 }):=by kernel_rfl
theorem fd34_2 : fieldOf Tryz.prog 34 2 = some ({ name:= "Text",type:=9,offset:=2,embedded:=false,tag:= "",pkgPath:= "",byteOffset:=16 }):=by kernel_rfl
theorem fd34_3 : fieldOf Tryz.prog 34 3 = some ({ name:= "Items",type:=24,offset:=3,embedded:=false,tag:= "",pkgPath:= "",byteOffset:=32 }):=by kernel_rfl
theorem fd34_4 : fieldOf Tryz.prog 34 4 = some ({ name:= "Keys",type:=23,offset:=4,embedded:=false,tag:= "",pkgPath:= "",byteOffset:=56 }):=by kernel_rfl
theorem fd85_3 : fieldOf Tryz.prog 85 3 = some ({ name:= "Code",type:=83,offset:=3,embedded:=false,tag:= "",pkgPath:= "",byteOffset:=32 }):=by kernel_rfl
theorem fd104_0 : fieldOf Tryz.prog 104 0 = some ({ name:= "Op",type:=3,offset:=0,embedded:=false,tag:= "",pkgPath:= "",byteOffset:=0 }):=by kernel_rfl
theorem fd104_1 : fieldOf Tryz.prog 104 1 = some ({ name:= "A",type:=3,offset:=1,embedded:=false,tag:= "",pkgPath:= "",byteOffset:=8 }):=by kernel_rfl
theorem fd104_2 : fieldOf Tryz.prog 104 2 = some ({ name:= "B",type:=3,offset:=2,embedded:=false,tag:= "",pkgPath:= "",byteOffset:=16 }):=by kernel_rfl
theorem fd200_0 : fieldOf Tryz.prog 200 0 = some ({ name:= "At",type:=3,offset:=0,embedded:=false,tag:= "",pkgPath:= "",byteOffset:=0 }):=by kernel_rfl
theorem fd200_1 : fieldOf Tryz.prog 200 1 = some ({ name:= "Height",type:=3,offset:=1,embedded:=false,tag:= "",pkgPath:= "",byteOffset:=8 }):=by kernel_rfl
theorem fd322_0 : fieldOf Tryz.prog 322 0 = some ({ name:= "at",type:=3,offset:=0,embedded:=false,tag:= "",pkgPath:= "workflow/code",byteOffset:=0 }):=by kernel_rfl
theorem fd322_1 : fieldOf Tryz.prog 322 1 = some ({ name:= "height",type:=3,offset:=1,embedded:=false,tag:= "",pkgPath:= "workflow/code",byteOffset:=8 }):=by kernel_rfl
theorem ze34 : zeroOf Tryz.prog 34 = some (AV.agg [AV.int IntKind.i64 0,AV.int IntKind.i64 0,AV.str [],AV.nilslice,AV.nilslice]):=by kernel_rfl
theorem ze104 : zeroOf Tryz.prog 104 = some (AV.agg [AV.int IntKind.i64 0,AV.int IntKind.i64 0,AV.int IntKind.i64 0,AV.str [],AV.int IntKind.i64 0,AV.int IntKind.i64 0,AV.str [],AV.nilslice,AV.nilslice]):=by kernel_rfl
theorem ze200 : zeroOf Tryz.prog 200 = some (AV.agg [AV.int IntKind.i64 0,AV.int IntKind.i64 0]):=by kernel_rfl
theorem ze322 : zeroOf Tryz.prog 322 = some (AV.agg [AV.int IntKind.i64 0,AV.int IntKind.i64 0]):=by kernel_rfl
theorem ze3 : zeroOf Tryz.prog 3 = some (AV.int IntKind.i64 0):=by kernel_rfl
theorem bu200 (parts : List (Nat × AV)) : evBuild Tryz.prog 200 parts = (fillA (fun i=>([(0,1),(1,1)] : List (Nat × Nat))[i]?) [AV.int IntKind.i64 0,AV.int IntKind.i64 0] parts).map .agg:=evBuild_struct ze200 (by kernel_rfl) parts
theorem bu322 (parts : List (Nat × AV)) : evBuild Tryz.prog 322 parts = (fillA (fun i=>([(0,1),(1,1)] : List (Nat × Nat))[i]?) [AV.int IntKind.i64 0,AV.int IntKind.i64 0] parts).map .agg:=evBuild_struct ze322 (by kernel_rfl) parts
theorem fx : ((((((type_of% @ag3) ∧ ((type_of% @sz3) ∧ (type_of% @und3))) ∧ (((type_of% @ag4) ∧ (type_of% @sz4)) ∧ ((type_of% @und4) ∧ (type_of% @ag9)))) ∧ ((((type_of% @sz9) ∧ (type_of% @und9)) ∧ ((type_of% @ag23) ∧ (type_of% @sz23))) ∧ (((type_of% @und23) ∧ (type_of% @el23)) ∧ ((type_of% @ag24) ∧ (type_of% @sz24))))) ∧ (((((type_of% @und24) ∧ (type_of% @el24)) ∧ ((type_of% @ag29) ∧ (type_of% @sz29))) ∧ (((type_of% @und29) ∧ (type_of% @el29)) ∧ ((type_of% @ag34) ∧ (type_of% @sz34)))) ∧ ((((type_of% @ag83) ∧ (type_of% @sz83)) ∧ ((type_of% @und83) ∧ (type_of% @el83))) ∧ (((type_of% @ag85) ∧ (type_of% @sz85)) ∧ ((type_of% @ag104) ∧ (type_of% @sz104)))))) ∧ ((((((type_of% @ag200) ∧ (type_of% @sz200)) ∧ ((type_of% @ag201) ∧ (type_of% @sz201))) ∧ (((type_of% @und201) ∧ (type_of% @el201)) ∧ ((type_of% @ag319) ∧ (type_of% @sz319)))) ∧ ((((type_of% @und319) ∧ (type_of% @el319)) ∧ ((type_of% @ag322) ∧ (type_of% @sz322))) ∧ (((type_of% @fd34_0) ∧ (type_of% @fd34_1)) ∧ ((type_of% @fd34_2) ∧ (type_of% @fd34_3))))) ∧ (((((type_of% @fd34_4) ∧ (type_of% @fd85_3)) ∧ ((type_of% @fd104_0) ∧ (type_of% @fd104_1))) ∧ (((type_of% @fd104_2) ∧ (type_of% @fd200_0)) ∧ ((type_of% @fd200_1) ∧ (type_of% @fd322_0)))) ∧ ((((type_of% @fd322_1) ∧ (type_of% @ze34)) ∧ ((type_of% @ze104) ∧ (type_of% @ze200))) ∧ (((type_of% @ze322) ∧ (type_of% @ze3)) ∧ ((type_of% @bu200) ∧ (type_of% @bu322))))))):=
 And.intro (And.intro (And.intro (And.intro (And.intro (@ag3) (And.intro (@sz3) (@und3))) (And.intro (And.intro (@ag4) (@sz4)) (And.intro (@und4) (@ag9)))) (And.intro (And.intro (And.intro (@sz9) (@und9)) (And.intro (@ag23) (@sz23))) (And.intro (And.intro (@und23) (@el23)) (And.intro (@ag24) (@sz24))))) (And.intro (And.intro (And.intro (And.intro (@und24) (@el24)) (And.intro (@ag29) (@sz29))) (And.intro (And.intro (@und29) (@el29)) (And.intro (@ag34) (@sz34)))) (And.intro (And.intro (And.intro (@ag83) (@sz83)) (And.intro (@und83) (@el83))) (And.intro (And.intro (@ag85) (@sz85)) (And.intro (@ag104) (@sz104)))))) (And.intro (And.intro (And.intro (And.intro (And.intro (@ag200) (@sz200)) (And.intro (@ag201) (@sz201))) (And.intro (And.intro (@und201) (@el201)) (And.intro (@ag319) (@sz319)))) (And.intro (And.intro (And.intro (@und319) (@el319)) (And.intro (@ag322) (@sz322))) (And.intro (And.intro (@fd34_0) (@fd34_1)) (And.intro (@fd34_2) (@fd34_3))))) (And.intro (And.intro (And.intro (And.intro (@fd34_4) (@fd85_3)) (And.intro (@fd104_0) (@fd104_1))) (And.intro (And.intro (@fd104_2) (@fd200_0)) (And.intro (@fd200_1) (@fd322_0)))) (And.intro (And.intro (And.intro (@fd322_1) (@ze34)) (And.intro (@ze104) (@ze200))) (And.intro (And.intro (@ze322) (@ze3)) (And.intro (@bu200) (@bu322))))))
theorem dx : (((((((type_of% sx) ∧ (type_of% @wbool_off)) ∧ ((type_of% @after_scope) ∧ (type_of% @evBuildSlice.eq_1))) ∧ (((type_of% @fillE.eq_1) ∧ (type_of% @fillE.eq_2)) ∧ ((type_of% @fillA.eq_1) ∧ (type_of% @fillA.eq_2)))) ∧ ((((type_of% @here.eq_1) ∧ (type_of% @here.eq_2)) ∧ ((type_of% @plain.eq_1) ∧ (type_of% @laid.eq_1))) ∧ (((type_of% @evOp.eq_1) ∧ (type_of% @avOf.eq_1)) ∧ ((type_of% @avOf.eq_2) ∧ (type_of% @avOf.eq_3))))) ∧ (((((type_of% @avCell.eq_1) ∧ (type_of% @avCell.eq_2)) ∧ ((type_of% @avCell.eq_3) ∧ (type_of% @avCell.eq_4))) ∧ (((type_of% @avCell.eq_5) ∧ (type_of% @avCell.eq_6)) ∧ ((type_of% @avCell.eq_7) ∧ (type_of% @avCell.eq_8)))) ∧ ((((type_of% @avCell.eq_9) ∧ (type_of% @avCell.eq_10)) ∧ ((type_of% @strOf.eq_1) ∧ (type_of% @evBin.eq_1))) ∧ (((type_of% @evBin.eq_2) ∧ (type_of% @evBin.eq_3)) ∧ ((type_of% @evBin.eq_4) ∧ ((type_of% @evBin.eq_5) ∧ (type_of% @evBin.eq_6))))))) ∧ ((((((type_of% @evBin.eq_7) ∧ (type_of% @evInt.eq_1)) ∧ ((type_of% @evInt.eq_2) ∧ (type_of% @evInt.eq_3))) ∧ (((type_of% @evInt.eq_4) ∧ (type_of% @evInt.eq_5)) ∧ ((type_of% @evInt.eq_6) ∧ (type_of% @evInt.eq_7)))) ∧ ((((type_of% @evInt.eq_8) ∧ (type_of% @evInt.eq_9)) ∧ ((type_of% @evInt.eq_10) ∧ (type_of% @evInt.eq_11))) ∧ (((type_of% @evInt.eq_12) ∧ (type_of% @evInt.eq_13)) ∧ ((type_of% @evInt.eq_14) ∧ (type_of% @evInt.eq_15))))) ∧ (((((type_of% @evStr.eq_1) ∧ (type_of% @evStr.eq_2)) ∧ ((type_of% @evStr.eq_3) ∧ (type_of% @evStr.eq_4))) ∧ (((type_of% @evStr.eq_5) ∧ (type_of% @evStr.eq_6)) ∧ ((type_of% @evStr.eq_7) ∧ (type_of% @evStr.eq_8)))) ∧ ((((type_of% @evUn.eq_1) ∧ (type_of% @evUn.eq_2)) ∧ ((type_of% @evUn.eq_3) ∧ (type_of% @evUn.eq_4))) ∧ (((type_of% @evResults.eq_1) ∧ (type_of% @evResultsL.eq_1)) ∧ ((type_of% @evResultsL.eq_2) ∧ ((type_of% @Heap.store.eq_1) ∧ (type_of% @Heap.store.eq_2)))))))):=
 ⟨⟨⟨⟨⟨⟨sx,@wbool_off⟩,⟨@after_scope,@evBuildSlice.eq_1⟩⟩,⟨⟨@fillE.eq_1,@fillE.eq_2⟩,⟨@fillA.eq_1,@fillA.eq_2⟩⟩⟩,⟨⟨⟨@here.eq_1,@here.eq_2⟩,⟨@plain.eq_1,@laid.eq_1⟩⟩,⟨⟨@evOp.eq_1,@avOf.eq_1⟩,⟨@avOf.eq_2,@avOf.eq_3⟩⟩⟩⟩,⟨⟨⟨⟨@avCell.eq_1,@avCell.eq_2⟩,⟨@avCell.eq_3,@avCell.eq_4⟩⟩,⟨⟨@avCell.eq_5,@avCell.eq_6⟩,⟨@avCell.eq_7,@avCell.eq_8⟩⟩⟩,⟨⟨⟨@avCell.eq_9,@avCell.eq_10⟩,⟨@strOf.eq_1,@evBin.eq_1⟩⟩,⟨⟨@evBin.eq_2,@evBin.eq_3⟩,⟨@evBin.eq_4,⟨@evBin.eq_5,@evBin.eq_6⟩⟩⟩⟩⟩⟩,⟨⟨⟨⟨⟨@evBin.eq_7,@evInt.eq_1⟩,⟨@evInt.eq_2,@evInt.eq_3⟩⟩,⟨⟨@evInt.eq_4,@evInt.eq_5⟩,⟨@evInt.eq_6,@evInt.eq_7⟩⟩⟩,⟨⟨⟨@evInt.eq_8,@evInt.eq_9⟩,⟨@evInt.eq_10,@evInt.eq_11⟩⟩,⟨⟨@evInt.eq_12,@evInt.eq_13⟩,⟨@evInt.eq_14,@evInt.eq_15⟩⟩⟩⟩,⟨⟨⟨⟨@evStr.eq_1,@evStr.eq_2⟩,⟨@evStr.eq_3,@evStr.eq_4⟩⟩,⟨⟨@evStr.eq_5,@evStr.eq_6⟩,⟨@evStr.eq_7,@evStr.eq_8⟩⟩⟩,⟨⟨⟨@evUn.eq_1,@evUn.eq_2⟩,⟨@evUn.eq_3,@evUn.eq_4⟩⟩,⟨⟨@evResults.eq_1,@evResultsL.eq_1⟩,⟨@evResultsL.eq_2,⟨@Heap.store.eq_1,@Heap.store.eq_2⟩⟩⟩⟩⟩⟩⟩
theorem cx : (((type_of% @AV.isUndef.eq_1) ∧ (type_of% @AV.isUndef.eq_2)) ∧ ((type_of% @AV.cells.eq_1) ∧ (type_of% @AV.cells.eq_2))):=
 ⟨⟨@AV.isUndef.eq_1,@AV.isUndef.eq_2⟩,⟨@AV.cells.eq_1,@AV.cells.eq_2⟩⟩
theorem gx : (((type_of% dx) ∧ ((type_of% fx) ∧ (type_of% cx))) ∧ (((type_of% @AV.isCell.eq_1) ∧ (type_of% @AV.isCell.eq_2)) ∧ ((type_of% @AV.isCell.eq_3) ∧ (type_of% @AV.isCell.eq_4)))):=
 ⟨⟨dx,⟨fx,cx⟩⟩,⟨⟨@AV.isCell.eq_1,@AV.isCell.eq_2⟩,⟨@AV.isCell.eq_3,@AV.isCell.eq_4⟩⟩⟩
end Go.Proofs.T
set_option linter.unusedVariables false
set_option linter.unusedSimpArgs false
set_option maxRecDepth 100000
namespace Go.Proofs.T
open Go.Ev
open Nat (reduceMul reducePow reduceSub reduceEqDiff reduceLT reduceAdd reduceLeDiff)
open UInt8 (reduceToNat)
theorem lst_of {esz : Nat} {v : AV} {L : List (List AV)} (h : ∀ H,Holds H esz v L) : (L = [] ∧ (v = .nilslice ∨ v = .eslice)) ∨ v = .lst esz L:=by
 obtain ⟨h0,h1 | h1 | ⟨b,off,cap,ex,g,ty,els,gen,wgen,rfl,h2,h3⟩⟩:=h ⟨fun _=>none,0⟩
 ·exact .inl h1
 ·exact .inr h1
 ·cases h2
theorem lst_at {esz : Nat} {v : AV} {L : List (List AV)} (h : ∀ H,Holds H esz v L) {i : Nat} {cs : List AV} (hi : L[i]? = some cs) : v = .lst esz L:=by
 rcases lst_of h with ⟨rfl,_⟩ | h
 ·simp at hi
 ·exact h
theorem idx24 {v : AV} {L : List (List AV)} (h : ∀ H,Holds H 5 v L) {i : Nat} {cs : List AV} (hi : L[i]? = some cs) (H : Heap) : evIndexAddr Tryz.prog H 24 v (.int .i64 i) = some (.iptr cs 0):=by
 rw [lst_at h hi]
 simp [evIndexAddr,und24,sz34,hi]
theorem idx23 {v : AV} {L : List (List AV)} (h : ∀ H,Holds H 1 v L) {i : Nat} {cs : List AV} (hi : L[i]? = some cs) (H : Heap) : evIndexAddr Tryz.prog H 23 v (.int .i64 i) = some (.iptr cs 0):=by
 rw [lst_at h hi]
 simp [evIndexAddr,und23,sz9,hi]
theorem ln9 (G : Heap) (s : List Nat) : evBuiltin Tryz.prog G .len #[9] [.str s] = some (.int .i64 s.length,G):=len_str und9 G s
def itm (v : AV) : List (List AV):=match v with | .lst _ L=>L | _=>[]
theorem itm_eq {esz : Nat} {v : AV} {L : List (List AV)} (h : ∀ H,Holds H esz v L) : itm v = L:=by
 rcases lst_of h with ⟨rfl,rfl | rfl⟩ | rfl <;> rfl
def StrL (M : List (List AV)) : Prop:=∀ c ∈ M,∃ s,c = [.str s]
def VT : Nat → List AV → Prop
 | 0,_=>False
 | n + 1,cs=>∃ (k i : Int) (s : List Nat) (v w : AV) (L M : List (List AV)),cs = [.int .i64 k,.int .i64 i,.str s,v,w] ∧ (∀ H,Holds H 5 v L) ∧ L.length < 2 ^ 60 ∧ (∀ c ∈ L,VT n c) ∧ (∀ H,Holds H 1 w M) ∧ M.length < 2 ^ 60 ∧ StrL M
theorem VT.len {n : Nat} {cs : List AV} (h : VT n cs) : cs.length = 5:=by
 cases n with
 | zero=>exact h.elim
 | succ n=>obtain ⟨k,i,s,v,w,L,M,rfl,_⟩:=h;rfl
theorem VT.cells {n : Nat} {cs : List AV} (h : VT n cs) : cs.all AV.isCell = true:=by
 cases n with
 | zero=>exact h.elim
 | succ n=>
  obtain ⟨k,i,s,v,w,L,M,rfl,hv,_,_,hw,_⟩:=h
  have h1:=holds_cell (hv ⟨fun _=>none,0⟩)
  have h2:=holds_cell (hw ⟨fun _=>none,0⟩)
  simp only [List.all_cons,List.all_nil,h1,h2];rfl
def sizeV : Nat → List AV → Int
 | 0,_=>0
 | n + 1,cs=>(itm (cs.getD 3 .undef)).foldl (fun a c=>IntKind.i64.wrap (a + sizeV n c)) 1
def depthM (n : Nat) (f : List AV → Int) (L : List (List AV)) : Int:=L.foldl (fun a c=>if f c > a then f c else a) 0
def depthV : Nat → List AV → Int
 | 0,_=>0
 | n + 1,cs=>IntKind.i64.wrap ((itm (cs.getD 3 .undef)).foldl (fun a c=>if depthV n c > a then depthV n c else a) 0 + 1)
theorem take_fold {α β : Type} {f : β → α → β} {b : β} {L : List α} {i : Nat} {c : α} (hc : L[i]? = some c) : (L.take (i + 1)).foldl f b = f ((L.take i).foldl f b) c:=by
 rw [List.take_add_one,hc,List.foldl_append];rfl

theorem mx3 (G : Heap) (a b : Int) : evBuiltin Tryz.prog G .max #[3,3] [.int .i64 a,.int .i64 b] = some (.int .i64 (if b > a then b else a),G):=by simp [evBuiltin]
theorem VT.tk {n : Nat} {cs : List AV} (h : VT n cs) : cs.take 5 = cs:=List.take_of_length_le (by rw [h.len];omega)

theorem f186_ok : ∀ (n : Nat) (cs : List AV),VT n cs → ∀ (H : Heap) (hF : Free H) (K : AV → Heap → Prop) (hK : ∀ H',Up H H' → Free H' → K (.int .i64 (sizeV n cs)) H'),WF Tryz.prog 186 [.agg cs] H K:=by
 intro n
 induction n with
 | zero=>intro cs h;exact h.elim
 | succ n ih=>
  intro cs h H hF K hK
  obtain ⟨k,ix,s,v,w,L,M,rfl,hv,hvn,hvc,hw,hwn,hwc⟩:=h
  have hK : ∀ H',Up H H' → Free H' → K (.int .i64 ((L.foldl (fun a c=>IntKind.i64.wrap (a + sizeV n c)) 1))) H':=by
   have e : sizeV (n + 1) [.int .i64 k,.int .i64 ix,.str s,v,w] = (L.foldl (fun a c=>IntKind.i64.wrap (a + sizeV n c)) 1):=by rw [← itm_eq hv];rfl
   rw [← e];exact hK
  have hlen : ∀ G,evBuiltin Tryz.prog G .len #[24] [v] = some (.int .i64 L.length,G):=fun G=>(hv G).lenAt und24 G
  refine WF_body Tryz.func186 (by kernel_rfl) rfl Tryz.ntmps186 (by rw [Tryz.results186]) (of_decide_eq_true (by kernel_rfl)) ?_
  simp (maxSteps:=999999) only [gx,Nat.reduceBEq,reduceEqDiff,reduceLT,reduceCtorEq,reduceAdd,reduceLeDiff,hF.at,hF.hp,hlen]
  generalize hH1 : HP H [Blk.row 34 5 [[.int .i64 k,.int .i64 ix,.str s,v,w]] 0 0] = H1
  have hb : H1.blk H.next = some (.row 34 5 [[.int .i64 k,.int .i64 ix,.str s,v,w]] 0 0):=by rw [← hH1,hp_blk0];rfl
  have hF1 : Free H1:=hH1 ▸ hF.hpF _
  have hU1 : Up H H1:=hH1 ▸ hF.hpU _
  refine loopStep' (fun env H'=>Up H1 H' ∧ Free H' ∧ ∃ i : Nat,i ≤ L.length ∧ env.at (.tmp 4) = .int .i64 i ∧ env.at (.tmp 1) = .ptr H.next 0 0 0 ∧ env.at (.tmp 3) = .int .i64 ((L.take i).foldl (fun a c=>IntKind.i64.wrap (a + sizeV n c)) 1))
   (fun env H'=>match env.at (.tmp 4) with | .int _ i=>((L.length : Int) - i).toNat | _=>0) ?_ ?_
  ·exact ⟨Up.refl _,hF1,0,Nat.zero_le _,by simp only [gx,Nat.reduceBEq,reduceEqDiff,reduceLT,reduceCtorEq,reduceAdd,reduceLeDiff];rfl,by simp only [gx,Nat.reduceBEq,reduceEqDiff,reduceLT,reduceCtorEq,reduceAdd,reduceLeDiff],by simp only [gx,Nat.reduceBEq,reduceEqDiff,reduceLT,reduceCtorEq,reduceAdd,reduceLeDiff,List.take_zero,List.foldl_nil]⟩
  ·rintro env H2 ⟨hU2,hF2,i,hi,e4,e1,e3⟩
   have hb2:=hU2 _ _ hb
   by_cases hlt : i < L.length
   ·obtain ⟨c,hc⟩ : ∃ c,L[i]? = some c:=⟨_,List.getElem?_eq_getElem hlt⟩
    have hcm:=hvc c (List.mem_of_getElem? hc)
    simp (maxSteps:=999999) only [gx,Nat.reduceBEq,reduceEqDiff,reduceLT,reduceCtorEq,reduceAdd,reduceLeDiff,e4,e1,e3,hb2,hlen,lt_true hlt,idx24 hv hc,hcm.len,hcm.tk,hcm.cells,hF2.at,hF2.hp]
    refine callStep (ih c hcm H2 hF2 _ fun H3 hU3 hF3=>?_)
    simp (maxSteps:=999999) only [gx,Nat.reduceBEq,reduceEqDiff,reduceLT,reduceCtorEq,reduceAdd,reduceLeDiff,e4,e1,e3,mx3,wrap_succ (i:=i) (by omega)]
    refine ⟨⟨hU2.trans hU3,hF3,i + 1,hlt,rfl,?_⟩,by omega⟩
    rw [take_fold hc]
   ·simp (maxSteps:=999999) only [gx,Nat.reduceBEq,reduceEqDiff,reduceLT,reduceCtorEq,reduceAdd,reduceLeDiff,e4,e1,e3,hb2,hlen,lt_false hlt]
    rw [show i = L.length by omega,List.take_length]
    exact hK _ (hU1.trans hU2) hF2

theorem f165_ok : ∀ (n : Nat) (cs : List AV),VT n cs → ∀ (H : Heap) (hF : Free H) (K : AV → Heap → Prop) (hK : ∀ H',Up H H' → Free H' → K (.int .i64 (sizeV n cs)) H'),WF Tryz.prog 165 [.agg cs] H K:=by
 intro n
 induction n with
 | zero=>intro cs h;exact h.elim
 | succ n ih=>
  intro cs h H hF K hK
  obtain ⟨k,ix,s,v,w,L,M,rfl,hv,hvn,hvc,hw,hwn,hwc⟩:=h
  have hK : ∀ H',Up H H' → Free H' → K (.int .i64 ((L.foldl (fun a c=>IntKind.i64.wrap (a + sizeV n c)) 1))) H':=by
   have e : sizeV (n + 1) [.int .i64 k,.int .i64 ix,.str s,v,w] = (L.foldl (fun a c=>IntKind.i64.wrap (a + sizeV n c)) 1):=by rw [← itm_eq hv];rfl
   rw [← e];exact hK
  have hlen : ∀ G,evBuiltin Tryz.prog G .len #[24] [v] = some (.int .i64 L.length,G):=fun G=>(hv G).lenAt und24 G
  refine WF_body Tryz.func165 (by kernel_rfl) rfl Tryz.ntmps165 (by rw [Tryz.results165]) (of_decide_eq_true (by kernel_rfl)) ?_
  simp (maxSteps:=999999) only [gx,Nat.reduceBEq,reduceEqDiff,reduceLT,reduceCtorEq,reduceAdd,reduceLeDiff,hF.at,hF.hp,hlen]
  generalize hH1 : HP H [Blk.row 34 5 [[.int .i64 k,.int .i64 ix,.str s,v,w]] 0 0] = H1
  have hb : H1.blk H.next = some (.row 34 5 [[.int .i64 k,.int .i64 ix,.str s,v,w]] 0 0):=by rw [← hH1,hp_blk0];rfl
  have hF1 : Free H1:=hH1 ▸ hF.hpF _
  have hU1 : Up H H1:=hH1 ▸ hF.hpU _
  refine loopStep' (fun env H'=>Up H1 H' ∧ Free H' ∧ ∃ i : Nat,i ≤ L.length ∧ env.at (.tmp 9) = .int .i64 i ∧ env.at (.tmp 1) = .ptr H.next 0 0 0 ∧ env.at (.tmp 3) = .int .i64 ((L.take i).foldl (fun a c=>IntKind.i64.wrap (a + sizeV n c)) 1) ∧ env.at (.tmp 7) = v ∧ env.at (.tmp 8) = .int .i64 L.length)
   (fun env H'=>match env.at (.tmp 9) with | .int _ i=>((L.length : Int) - i).toNat | _=>0) ?_ ?_
  ·exact ⟨Up.refl _,hF1,0,Nat.zero_le _,by simp only [gx,Nat.reduceBEq,reduceEqDiff,reduceLT,reduceCtorEq,reduceAdd,reduceLeDiff];rfl,by simp only [gx,Nat.reduceBEq,reduceEqDiff,reduceLT,reduceCtorEq,reduceAdd,reduceLeDiff],by simp only [gx,Nat.reduceBEq,reduceEqDiff,reduceLT,reduceCtorEq,reduceAdd,reduceLeDiff,List.take_zero,List.foldl_nil],by simp only [gx,Nat.reduceBEq,reduceEqDiff,reduceLT,reduceCtorEq,reduceAdd,reduceLeDiff],by simp only [gx,Nat.reduceBEq,reduceEqDiff,reduceLT,reduceCtorEq,reduceAdd,reduceLeDiff]⟩
  ·rintro env H2 ⟨hU2,hF2,i,hi,e4,e1,e3,e7,e8⟩
   have hb2:=hU2 _ _ hb
   by_cases hlt : i < L.length
   ·obtain ⟨c,hc⟩ : ∃ c,L[i]? = some c:=⟨_,List.getElem?_eq_getElem hlt⟩
    have hcm:=hvc c (List.mem_of_getElem? hc)
    simp (maxSteps:=999999) only [gx,Nat.reduceBEq,reduceEqDiff,reduceLT,reduceCtorEq,reduceAdd,reduceLeDiff,e4,e1,e3,e7,e8,hb2,hlen,lt_true hlt,idx24 hv hc,hcm.len,hcm.tk,hcm.cells,hF2.at,hF2.hp]
    refine callStep (ih c hcm _ (hF2.hpF _) _ fun H3 hU3 hF3=>?_)
    simp (maxSteps:=999999) only [gx,Nat.reduceBEq,reduceEqDiff,reduceLT,reduceCtorEq,reduceAdd,reduceLeDiff,e4,e1,e3,e7,e8,mx3,wrap_succ (i:=i) (by omega)]
    refine ⟨⟨hU2.trans ((hF2.hpU _).trans hU3),hF3,i + 1,hlt,rfl,?_⟩,by omega⟩
    rw [take_fold hc]
   ·simp (maxSteps:=999999) only [gx,Nat.reduceBEq,reduceEqDiff,reduceLT,reduceCtorEq,reduceAdd,reduceLeDiff,e4,e1,e3,e7,e8,hb2,hlen,lt_false hlt]
    rw [show i = L.length by omega,List.take_length]
    exact hK _ (hU1.trans hU2) hF2

theorem f187_ok : ∀ (n : Nat) (cs : List AV),VT n cs → ∀ (H : Heap) (hF : Free H) (K : AV → Heap → Prop) (hK : ∀ H',Up H H' → Free H' → K (.int .i64 (depthV n cs)) H'),WF Tryz.prog 187 [.agg cs] H K:=by
 intro n
 induction n with
 | zero=>intro cs h;exact h.elim
 | succ n ih=>
  intro cs h H hF K hK
  obtain ⟨k,ix,s,v,w,L,M,rfl,hv,hvn,hvc,hw,hwn,hwc⟩:=h
  have hK : ∀ H',Up H H' → Free H' → K (.int .i64 (IntKind.i64.wrap ((L.foldl (fun a c=>if depthV n c > a then depthV n c else a) 0) + 1))) H':=by
   have e : depthV (n + 1) [.int .i64 k,.int .i64 ix,.str s,v,w] = IntKind.i64.wrap ((L.foldl (fun a c=>if depthV n c > a then depthV n c else a) 0) + 1):=by rw [← itm_eq hv];rfl
   rw [← e];exact hK
  have hlen : ∀ G,evBuiltin Tryz.prog G .len #[24] [v] = some (.int .i64 L.length,G):=fun G=>(hv G).lenAt und24 G
  refine WF_body Tryz.func187 (by kernel_rfl) rfl Tryz.ntmps187 (by rw [Tryz.results187]) (of_decide_eq_true (by kernel_rfl)) ?_
  simp (maxSteps:=999999) only [gx,Nat.reduceBEq,reduceEqDiff,reduceLT,reduceCtorEq,reduceAdd,reduceLeDiff,hF.at,hF.hp,hlen]
  generalize hH1 : HP H [Blk.row 34 5 [[.int .i64 k,.int .i64 ix,.str s,v,w]] 0 0] = H1
  have hb : H1.blk H.next = some (.row 34 5 [[.int .i64 k,.int .i64 ix,.str s,v,w]] 0 0):=by rw [← hH1,hp_blk0];rfl
  have hF1 : Free H1:=hH1 ▸ hF.hpF _
  have hU1 : Up H H1:=hH1 ▸ hF.hpU _
  refine loopStep' (fun env H'=>Up H1 H' ∧ Free H' ∧ ∃ i : Nat,i ≤ L.length ∧ env.at (.tmp 4) = .int .i64 i ∧ env.at (.tmp 1) = .ptr H.next 0 0 0 ∧ env.at (.tmp 3) = .int .i64 ((L.take i).foldl (fun a c=>if depthV n c > a then depthV n c else a) 0))
   (fun env H'=>match env.at (.tmp 4) with | .int _ i=>((L.length : Int) - i).toNat | _=>0) ?_ ?_
  ·exact ⟨Up.refl _,hF1,0,Nat.zero_le _,by simp only [gx,Nat.reduceBEq,reduceEqDiff,reduceLT,reduceCtorEq,reduceAdd,reduceLeDiff];rfl,by simp only [gx,Nat.reduceBEq,reduceEqDiff,reduceLT,reduceCtorEq,reduceAdd,reduceLeDiff],by simp only [gx,Nat.reduceBEq,reduceEqDiff,reduceLT,reduceCtorEq,reduceAdd,reduceLeDiff,List.take_zero,List.foldl_nil]⟩
  ·rintro env H2 ⟨hU2,hF2,i,hi,e4,e1,e3⟩
   have hb2:=hU2 _ _ hb
   by_cases hlt : i < L.length
   ·obtain ⟨c,hc⟩ : ∃ c,L[i]? = some c:=⟨_,List.getElem?_eq_getElem hlt⟩
    have hcm:=hvc c (List.mem_of_getElem? hc)
    simp (maxSteps:=999999) only [gx,Nat.reduceBEq,reduceEqDiff,reduceLT,reduceCtorEq,reduceAdd,reduceLeDiff,e4,e1,e3,hb2,hlen,lt_true hlt,idx24 hv hc,hcm.len,hcm.tk,hcm.cells,hF2.at,hF2.hp]
    refine callStep (ih c hcm H2 hF2 _ fun H3 hU3 hF3=>?_)
    have e9 : (L.take (i + 1)).foldl (fun a c=>if depthV n c > a then depthV n c else a) 0 = if depthV n c > (L.take i).foldl (fun a c=>if depthV n c > a then depthV n c else a) 0 then depthV n c else (L.take i).foldl (fun a c=>if depthV n c > a then depthV n c else a) 0:=take_fold hc
    by_cases hgt : depthV n c > (L.take i).foldl (fun a c=>if depthV n c > a then depthV n c else a) 0
    ·rw [if_pos hgt] at e9
     simp (maxSteps:=999999) only [gx,Nat.reduceBEq,reduceEqDiff,reduceLT,reduceCtorEq,reduceAdd,reduceLeDiff,e4,e1,e3,hgt,wrap_succ (i:=i) (by omega)]
     exact ⟨⟨hU2.trans hU3,hF3,i + 1,hlt,rfl,by rw [e9]⟩,by omega⟩
    ·rw [if_neg hgt] at e9
     simp (maxSteps:=999999) only [gx,Nat.reduceBEq,reduceEqDiff,reduceLT,reduceCtorEq,reduceAdd,reduceLeDiff,e4,e1,e3,hgt,wrap_succ (i:=i) (by omega)]
     exact ⟨⟨hU2.trans hU3,hF3,i + 1,hlt,rfl,by rw [e9]⟩,by omega⟩
   ·simp (maxSteps:=999999) only [gx,Nat.reduceBEq,reduceEqDiff,reduceLT,reduceCtorEq,reduceAdd,reduceLeDiff,e4,e1,e3,hb2,hlen,lt_false hlt]
    rw [show i = L.length by omega,List.take_length]
    exact hK _ (hU1.trans hU2) hF2

theorem f166_ok : ∀ (n : Nat) (cs : List AV),VT n cs → ∀ (H : Heap) (hF : Free H) (K : AV → Heap → Prop) (hK : ∀ H',Up H H' → Free H' → K (.int .i64 (depthV n cs)) H'),WF Tryz.prog 166 [.agg cs] H K:=by
 intro n
 induction n with
 | zero=>intro cs h;exact h.elim
 | succ n ih=>
  intro cs h H hF K hK
  obtain ⟨k,ix,s,v,w,L,M,rfl,hv,hvn,hvc,hw,hwn,hwc⟩:=h
  have hK : ∀ H',Up H H' → Free H' → K (.int .i64 (IntKind.i64.wrap ((L.foldl (fun a c=>if depthV n c > a then depthV n c else a) 0) + 1))) H':=by
   have e : depthV (n + 1) [.int .i64 k,.int .i64 ix,.str s,v,w] = IntKind.i64.wrap ((L.foldl (fun a c=>if depthV n c > a then depthV n c else a) 0) + 1):=by rw [← itm_eq hv];rfl
   rw [← e];exact hK
  have hlen : ∀ G,evBuiltin Tryz.prog G .len #[24] [v] = some (.int .i64 L.length,G):=fun G=>(hv G).lenAt und24 G
  refine WF_body Tryz.func166 (by kernel_rfl) rfl Tryz.ntmps166 (by rw [Tryz.results166]) (of_decide_eq_true (by kernel_rfl)) ?_
  simp (maxSteps:=999999) only [gx,Nat.reduceBEq,reduceEqDiff,reduceLT,reduceCtorEq,reduceAdd,reduceLeDiff,hF.at,hF.hp,hlen]
  generalize hH1 : HP H [Blk.row 34 5 [[.int .i64 k,.int .i64 ix,.str s,v,w]] 0 0] = H1
  have hb : H1.blk H.next = some (.row 34 5 [[.int .i64 k,.int .i64 ix,.str s,v,w]] 0 0):=by rw [← hH1,hp_blk0];rfl
  have hF1 : Free H1:=hH1 ▸ hF.hpF _
  have hU1 : Up H H1:=hH1 ▸ hF.hpU _
  refine loopStep' (fun env H'=>Up H1 H' ∧ Free H' ∧ ∃ i : Nat,i ≤ L.length ∧ env.at (.tmp 9) = .int .i64 i ∧ env.at (.tmp 1) = .ptr H.next 0 0 0 ∧ env.at (.tmp 3) = .int .i64 ((L.take i).foldl (fun a c=>if depthV n c > a then depthV n c else a) 0) ∧ env.at (.tmp 7) = v ∧ env.at (.tmp 8) = .int .i64 L.length)
   (fun env H'=>match env.at (.tmp 9) with | .int _ i=>((L.length : Int) - i).toNat | _=>0) ?_ ?_
  ·exact ⟨Up.refl _,hF1,0,Nat.zero_le _,by simp only [gx,Nat.reduceBEq,reduceEqDiff,reduceLT,reduceCtorEq,reduceAdd,reduceLeDiff];rfl,by simp only [gx,Nat.reduceBEq,reduceEqDiff,reduceLT,reduceCtorEq,reduceAdd,reduceLeDiff],by simp only [gx,Nat.reduceBEq,reduceEqDiff,reduceLT,reduceCtorEq,reduceAdd,reduceLeDiff,List.take_zero,List.foldl_nil],by simp only [gx,Nat.reduceBEq,reduceEqDiff,reduceLT,reduceCtorEq,reduceAdd,reduceLeDiff],by simp only [gx,Nat.reduceBEq,reduceEqDiff,reduceLT,reduceCtorEq,reduceAdd,reduceLeDiff]⟩
  ·rintro env H2 ⟨hU2,hF2,i,hi,e4,e1,e3,e7,e8⟩
   have hb2:=hU2 _ _ hb
   by_cases hlt : i < L.length
   ·obtain ⟨c,hc⟩ : ∃ c,L[i]? = some c:=⟨_,List.getElem?_eq_getElem hlt⟩
    have hcm:=hvc c (List.mem_of_getElem? hc)
    simp (maxSteps:=999999) only [gx,Nat.reduceBEq,reduceEqDiff,reduceLT,reduceCtorEq,reduceAdd,reduceLeDiff,e4,e1,e3,e7,e8,hb2,hlen,lt_true hlt,idx24 hv hc,hcm.len,hcm.tk,hcm.cells,hF2.at,hF2.hp]
    refine callStep (ih c hcm _ (hF2.hpF _) _ fun H3 hU3 hF3=>?_)
    simp (maxSteps:=999999) only [gx,Nat.reduceBEq,reduceEqDiff,reduceLT,reduceCtorEq,reduceAdd,reduceLeDiff,e4,e1,e3,e7,e8,mx3,wrap_succ (i:=i) (by omega)]
    refine ⟨⟨hU2.trans ((hF2.hpU _).trans hU3),hF3,i + 1,hlt,rfl,?_⟩,by omega⟩
    rw [take_fold hc]
   ·simp (maxSteps:=999999) only [gx,Nat.reduceBEq,reduceEqDiff,reduceLT,reduceCtorEq,reduceAdd,reduceLeDiff,e4,e1,e3,e7,e8,hb2,hlen,lt_false hlt]
    rw [show i = L.length by omega,List.take_length]
    exact hK _ (hU1.trans hU2) hF2

end Go.Proofs.T
