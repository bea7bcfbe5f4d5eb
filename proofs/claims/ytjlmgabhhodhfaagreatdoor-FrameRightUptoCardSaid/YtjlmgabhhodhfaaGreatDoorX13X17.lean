import Derived.Test.YtjlmgabhhodhfaaGreatDoorX12
set_option linter.unusedVariables false
set_option linter.unusedSimpArgs false
set_option maxRecDepth 100000
namespace Go.Proofs.T
open Go.Ev
open Nat (reduceMul reducePow reduceSub reduceEqDiff reduceLT reduceAdd reduceLeDiff)
open UInt8 (reduceToNat)
theorem idx83 {v : AV} {L : List (List AV)} (h : ∀ H,Holds H 9 v L) {i : Nat} {cs : List AV} (hi : L[i]? = some cs) (H : Heap) : evIndexAddr Tryz.prog H 83 v (.int .i64 i) = some (.iptr cs 0):=by
 rw [lst_at h hi]
 simp [evIndexAddr,und83,sz104,hi]
theorem f422_ok {v : AV} {L : List (List AV)} (hv : ∀ H,Holds H 9 v L) (hn : L.length < 2 ^ 60) (hL : ∀ c ∈ L,c.length = 9) (p : List AV → Bool) (g : FuncId) (fs cs : List AV) (H : Heap) (hF : Free H)
  (hp : ∀ c ∈ L,∀ G,Up H G → Free G → ∀ K,(∀ G',Up G G' → Free G' → K (.bool (p c)) G') → WF Tryz.prog g (fs ++ [.agg c] ++ cs) G K)
  (K : AV → Heap → Prop) (hK : ∀ H',Up H H' → Free H' → K (.int .i64 (idxP p L 0)) H') : WF Tryz.prog 422 [v,.func (.func g) fs cs] H K:=by
 have hlen : ∀ G,evBuiltin Tryz.prog G .len #[83] [v] = some (.int .i64 L.length,G):=fun G=>(hv G).lenAt und83 G
 refine WF_body Tryz.func422 (by kernel_rfl) rfl Tryz.ntmps422 (by rw [Tryz.results422]) (of_decide_eq_true (by kernel_rfl)) ?_
 simp (maxSteps:=999999) only [gx,Nat.reduceBEq,reduceEqDiff,reduceLT,reduceCtorEq,reduceAdd,reduceLeDiff,hlen]
 refine loopStep' (fun env H'=>Up H H' ∧ Free H' ∧ ∃ (i : Nat),i ≤ L.length ∧ env.at (.tmp 8) = .int .i64 i ∧ env.at (.tmp 7) = .int .i64 L.length ∧ env.at (.tmp 0) = v ∧ env.at (.tmp 1) = .func (.func g) fs cs ∧ idxP p L 0 = idxP p (L.drop i) i)
  (fun env H'=>match env.at (.tmp 8) with | .int _ i=>((L.length : Int) - i).toNat | _=>0) ?_ ?_
 ·refine ⟨Up.refl _,hF,0,Nat.zero_le _,?_,?_,?_,?_,by simp⟩
  ·simp only [gx,Nat.reduceBEq,reduceEqDiff,reduceLT,reduceCtorEq,reduceAdd,reduceLeDiff];rfl
  ·simp only [gx,Nat.reduceBEq,reduceEqDiff,reduceLT,reduceCtorEq,reduceAdd,reduceLeDiff]
  ·simp only [gx,Nat.reduceBEq,reduceEqDiff,reduceLT,reduceCtorEq,reduceAdd,reduceLeDiff]
  ·simp only [gx,Nat.reduceBEq,reduceEqDiff,reduceLT,reduceCtorEq,reduceAdd,reduceLeDiff]
 ·rintro env H' ⟨hU,hF',i,hi,e8,e7,e0,e1,hx⟩
  by_cases hlt : i < L.length
  ·obtain ⟨c,hc⟩ : ∃ c,L[i]? = some c:=⟨_,List.getElem?_eq_getElem hlt⟩
   have hcl:=hL c (List.mem_of_getElem? hc)
   have htk : c.take 9 = c:=List.take_of_length_le (by omega)
   have hd : L.drop i = c :: L.drop (i + 1):=by
    rw [List.drop_eq_getElem_cons hlt]
    congr 1
    rw [List.getElem?_eq_getElem hlt] at hc
    exact Option.some.inj hc
   have hx' : idxP p L 0 = if p c = true then (i : Int) else idxP p (L.drop (i + 1)) (i + 1):=by
    rw [hx,hd];rfl
   simp (maxSteps:=999999) only [gx,Nat.reduceBEq,reduceEqDiff,reduceLT,reduceCtorEq,reduceAdd,reduceLeDiff,e8,e7,e0,e1,lt_true hlt,idx83 hv hc,hcl,htk]
   refine callStep (hp c (List.mem_of_getElem? hc) H' hU hF' _ fun H2 hU2 hF2=>?_)
   cases hb : p c
   ·rw [hb] at hx'
    simp (maxSteps:=999999) only [gx,Nat.reduceBEq,reduceEqDiff,reduceLT,reduceCtorEq,reduceAdd,reduceLeDiff,e8,e7,e0,e1,wrap_succ (i:=i) (by omega)]
    refine ⟨⟨hU.trans hU2,hF2,i + 1,hlt,rfl,by simpa using hx'⟩,?_⟩
    omega
   ·rw [hb] at hx'
    simp (maxSteps:=999999) only [gx,Nat.reduceBEq,reduceEqDiff,reduceLT,reduceCtorEq,reduceAdd,reduceLeDiff,e8,e7,e0,e1]
    have:=hK H2 (hU.trans hU2) hF2
    rw [hx'] at this
    exact this
  ·obtain rfl : i = L.length:=by omega
   simp (maxSteps:=999999) only [gx,Nat.reduceBEq,reduceEqDiff,reduceLT,reduceCtorEq,reduceAdd,reduceLeDiff,e8,e7,e0,e1,lt_false hlt]
   have:=hK H' hU hF'
   rw [hx] at this
   simpa [idxP] using this
theorem f406_ok {v : AV} {L : List (List AV)} (hv : ∀ H,Holds H 9 v L) (hn : L.length < 2 ^ 60) (hL : ∀ c ∈ L,c.length = 9) (p : List AV → Bool) (g : FuncId) (fs cs : List AV) (H : Heap) (hF : Free H)
  (hp : ∀ c ∈ L,∀ G,Up H G → Free G → ∀ K,(∀ G',Up G G' → Free G' → K (.bool (p c)) G') → WF Tryz.prog g (fs ++ [.agg c] ++ cs) G K)
  (K : AV → Heap → Prop) (hK : ∀ H',Up H H' → Free H' → K (.bool (L.any p)) H') : WF Tryz.prog 406 [v,.func (.func g) fs cs] H K:=by
 refine WF_body Tryz.func406 (by kernel_rfl) rfl Tryz.ntmps406 (by rw [Tryz.results406]) (of_decide_eq_true (by kernel_rfl)) ?_
 simp (maxSteps:=999999) only [gx,Nat.reduceBEq,reduceEqDiff,reduceLT,reduceCtorEq,reduceAdd,reduceLeDiff]
 refine callStep (f422_ok hv hn hL p g fs cs H hF hp _ fun H2 hU2 hF2=>?_)
 have hq:=idxP_any p L 0
 simp (maxSteps:=999999) only [gx,Nat.reduceBEq,reduceEqDiff,reduceLT,reduceCtorEq,reduceAdd,reduceLeDiff,hq]
 exact hK _ hU2 hF2

def belowV (n m : Int) : Bool:=decide (n ≥ 0) && decide (n < m)
theorem f151_ok (n m : Int) (H : Heap) (hF : Free H) (K : AV → Heap → Prop) (hK : K (.bool (belowV n m)) H) : WF Tryz.prog 151 [.int .i64 n,.int .i64 m] H K:=by
 refine WF_body Tryz.func151 (by kernel_rfl) rfl Tryz.ntmps151 (by rw [Tryz.results151]) (of_decide_eq_true (by kernel_rfl)) ?_
 unfold belowV at hK
 by_cases h1 : n ≥ 0
 ·simp only [h1,decide_true,Bool.true_and] at hK
  simp (maxSteps:=999999) only [gx,Nat.reduceBEq,reduceEqDiff,reduceLT,reduceCtorEq,reduceAdd,reduceLeDiff,h1]
  exact hK
 ·simp only [h1,decide_false,Bool.false_and] at hK
  simp (maxSteps:=999999) only [gx,Nat.reduceBEq,reduceEqDiff,reduceLT,reduceCtorEq,reduceAdd,reduceLeDiff,h1]
  exact hK
def InsT (n : Nat) (cs : List AV) : Prop:=∃ (k a b : Int) (t : List Nat) (V : List AV),cs = [.int .i64 k,.int .i64 a,.int .i64 b,.str t] ++ V ∧ VT n V
theorem InsT.len {n : Nat} {cs : List AV} (h : InsT n cs) : cs.length = 9:=by
 obtain ⟨k,a,b,t,V,rfl,hV⟩:=h
 simp [hV.len]
def opI (cs : List AV) : Int:=match cs.getD 0 .undef with | .int _ k=>k | _=>0
theorem InsT.cells {n : Nat} {cs : List AV} (h : InsT n cs) : cs.all AV.isCell = true:=by
 obtain ⟨k,a,b,t,V,rfl,hV⟩:=h
 rw [List.all_append,hV.cells];rfl
theorem InsT.tk {n : Nat} {cs : List AV} (h : InsT n cs) : cs.take 9 = cs:=List.take_of_length_le (by rw [h.len];omega)
theorem InsT.op {n : Nat} {cs : List AV} (h : InsT n cs) : (cs.drop 0).take 1 = [.int .i64 (opI cs)]:=by
 obtain ⟨k,a,b,t,V,rfl,hV⟩:=h
 rfl
theorem f407_ok {n : Nat} {cs : List AV} (h : InsT n cs) (H : Heap) (hF : Free H) (K : AV → Heap → Prop) (hK : ∀ H',Up H H' → Free H' → K (.bool (opI cs != 7)) H') : WF Tryz.prog 407 [.agg cs] H K:=by
 obtain ⟨k,a,b,t,V,rfl,hV⟩:=h
 obtain ⟨c0,c1,c2,c3,c4,rfl⟩:=five hV.len
 have hc:=hV.cells
 simp only [List.all_cons,List.all_nil,Bool.and_true,Bool.and_eq_true] at hc
 obtain ⟨i0,i1,i2,i3,i4⟩:=hc
 simp only [List.cons_append,List.nil_append] at hK ⊢
 refine WF_body Tryz.func407 (by kernel_rfl) rfl Tryz.ntmps407 (by rw [Tryz.results407]) (of_decide_eq_true (by kernel_rfl)) ?_
 simp (maxSteps:=999999) only [gx,Nat.reduceBEq,reduceEqDiff,reduceLT,reduceCtorEq,reduceAdd,reduceLeDiff,hF.at,hF.hp,i0,i1,i2,i3,i4]
 exact hK _ (hF.hpU _) (hF.hpF _)
def jumpsV (L : List (List AV)) : Nat → Nat → Bool
 | _,0=>true
 | i,m + 1=>decide (i < L.length) && (opI (L.getD i []) == 7) && jumpsV L (i + 1) m
theorem f246_ok {n : Nat} {nm : List Nat} {P S : Int} {v : AV} {L : List (List AV)} (hv : ∀ H,Holds H 9 v L) (hL : ∀ c ∈ L,InsT n c) (hn : L.length < 2 ^ 60) (i m : Nat) (hi : i < 2 ^ 61) (hm : m < 2 ^ 61) (H : Heap) (hF : Free H) (K : AV → Heap → Prop) (hK : ∀ H',Up H H' → Free H' → K (.bool (jumpsV L i m)) H') : WF Tryz.prog 246 [.agg [.str nm,.int .i64 P,.int .i64 S,v],.int .i64 i,.int .i64 m] H K:=by
 have hlen : ∀ G,evBuiltin Tryz.prog G .len #[83] [v] = some (.int .i64 L.length,G):=fun G=>(hv G).lenAt und83 G
 have hvc:=holds_cell (hv H)
 refine WF_body Tryz.func246 (by kernel_rfl) rfl Tryz.ntmps246 (by rw [Tryz.results246]) (of_decide_eq_true (by kernel_rfl)) ?_
 simp (maxSteps:=999999) only [gx,Nat.reduceBEq,reduceEqDiff,reduceLT,reduceCtorEq,reduceAdd,reduceLeDiff,hF.at,hF.hp,hvc]
 generalize hH1 : HP H [Blk.row 85 4 [[.str nm,.int .i64 P,.int .i64 S,v]] 0 0] = H1
 have hb : H1.blk H.next = some (.row 85 4 [[.str nm,.int .i64 P,.int .i64 S,v]] 0 0):=by rw [← hH1,hp_blk0];rfl
 have hF1 : Free H1:=hH1 ▸ hF.hpF _
 have hU1 : Up H H1:=hH1 ▸ hF.hpU _
 have hadd : IntKind.i64.wrap ((i : Int) + (m : Int)) = ((i + m : Nat) : Int):=by
  rw [IntWalk.i64_in _ (by omega)];omega
 refine loopStep' (fun env H'=>H' = H1 ∧ ∃ j : Nat,j ≤ m ∧ env.at (.tmp 7) = .int .i64 (i + j : Nat) ∧ env.at (.tmp 1) = .int .i64 i ∧ env.at (.tmp 2) = .int .i64 m ∧ env.at (.tmp 3) = .ptr H.next 0 0 0 ∧ jumpsV L i m = jumpsV L (i + j) (m - j))
  (fun env H'=>match env.at (.tmp 7) with | .int _ x=>((i + m : Nat) - x).toNat | _=>0) ?_ ?_
 ·exact ⟨rfl,0,Nat.zero_le _,by simp only [gx,Nat.reduceBEq,reduceEqDiff,reduceLT,reduceCtorEq,reduceAdd,reduceLeDiff,Nat.add_zero],by simp only [gx,Nat.reduceBEq,reduceEqDiff,reduceLT,reduceCtorEq,reduceAdd,reduceLeDiff],by simp only [gx,Nat.reduceBEq,reduceEqDiff,reduceLT,reduceCtorEq,reduceAdd,reduceLeDiff],by simp only [gx,Nat.reduceBEq,reduceEqDiff,reduceLT,reduceCtorEq,reduceAdd,reduceLeDiff],rfl⟩
 ·rintro env H' ⟨rfl,j,hj,e7,e1,e2,e3,hx⟩
  rw [hx] at hK
  by_cases hlt : i + j < i + m
  ·obtain ⟨d,hd⟩ : ∃ d,m - j = d + 1:=⟨m - j - 1,by omega⟩
   rw [hd] at hK
   unfold jumpsV at hK
   by_cases hq : i + j < L.length
   ·have hge : ((i + j : Nat) : Int) ≥ (L.length : Int) ↔ False:=by simp;omega
    obtain ⟨c,hc⟩ : ∃ c,L[i + j]? = some c:=⟨_,List.getElem?_eq_getElem hq⟩
    have hcm:=hL c (List.mem_of_getElem? hc)
    have hgd : L.getD (i + j) [] = c:=by rw [List.getD_eq_getElem?_getD,hc];rfl
    obtain ⟨k,a,b,t,V,rfl,hV⟩:=hcm
    obtain ⟨c0,c1,c2,c3,c4,rfl⟩:=five hV.len
    simp only [List.cons_append,List.nil_append] at hc hgd
    simp only [hq,decide_true,Bool.true_and,hgd,opI,List.getD_cons_zero] at hK
    have hix:=idx83 hv hc
    cases hk : (k == 7) with
    | false=>
     have hkn : (k != 7) = true:=by rw [bne,hk];rfl
     simp only [hk,Bool.false_and] at hK
     simp (maxSteps:=999999) only [gx,Nat.reduceBEq,reduceEqDiff,reduceLT,reduceCtorEq,reduceAdd,reduceLeDiff,e7,e1,e2,e3,hb,hlen,hadd,lt_true hlt,hge,hix,hkn]
     exact hK _ hU1 hF1
    | true=>
     have hkn : (k != 7) = false:=by rw [bne,hk];rfl
     simp (maxSteps:=999999) only [gx,Nat.reduceBEq,reduceEqDiff,reduceLT,reduceCtorEq,reduceAdd,reduceLeDiff,e7,e1,e2,e3,hb,hlen,hadd,lt_true hlt,hge,hix,hkn,wrap_succ (i:=i + j) (by omega)]
     refine ⟨⟨j + 1,by omega,rfl,?_⟩,by omega⟩
     rw [hx,hd,show m - (j + 1) = d by omega]
     conv=>lhs;unfold jumpsV
     simp only [hq,decide_true,Bool.true_and,hgd,opI,List.getD_cons_zero,hk]
     rfl
   ·have hge : ((i + j : Nat) : Int) ≥ (L.length : Int) ↔ True:=by simp;omega
    simp only [hq,decide_false,Bool.false_and] at hK
    simp (maxSteps:=999999) only [gx,Nat.reduceBEq,reduceEqDiff,reduceLT,reduceCtorEq,reduceAdd,reduceLeDiff,e7,e1,e2,e3,hb,hlen,hadd,lt_true hlt,hge]
    exact hK _ hU1 hF1
  ·have hj2 : m - j = 0:=by omega
   rw [hj2] at hK
   simp (maxSteps:=999999) only [gx,Nat.reduceBEq,reduceEqDiff,reduceLT,reduceCtorEq,reduceAdd,reduceLeDiff,e7,e1,e2,e3,hadd,lt_false hlt]
   exact hK _ hU1 hF1
theorem ag22 : aggOf Tryz.prog 22 = some false:=by kernel_rfl
theorem sz22 : szOf Tryz.prog 22 = some 1:=by kernel_rfl
theorem und22 : Tryz.prog.underlying 22 = some (.slice 85):=by kernel_rfl
theorem el22 : elemOfSlice Tryz.prog 22 = some 85:=by kernel_rfl
theorem ag25 : aggOf Tryz.prog 25 = some false:=by kernel_rfl
theorem sz25 : szOf Tryz.prog 25 = some 1:=by kernel_rfl
theorem und25 : Tryz.prog.underlying 25 = some (.slice 127):=by kernel_rfl
theorem el25 : elemOfSlice Tryz.prog 25 = some 127:=by kernel_rfl
theorem ag27 : aggOf Tryz.prog 27 = some true:=by kernel_rfl
theorem sz27 : szOf Tryz.prog 27 = some 4:=by kernel_rfl
theorem ag127 : aggOf Tryz.prog 127 = some true:=by kernel_rfl
theorem sz127 : szOf Tryz.prog 127 = some 4:=by kernel_rfl
theorem ag182 : aggOf Tryz.prog 182 = some true:=by kernel_rfl
theorem sz182 : szOf Tryz.prog 182 = some 8:=by kernel_rfl
theorem ag208 : aggOf Tryz.prog 208 = some false:=by kernel_rfl
theorem sz208 : szOf Tryz.prog 208 = some 1:=by kernel_rfl
theorem fd27_0 : fieldOf Tryz.prog 27 0 = some ({ name:= "Funcs",type:=22,offset:=0,embedded:=false,tag:= "",pkgPath:= "",byteOffset:=0 }):=by kernel_rfl
theorem fd27_1 : fieldOf Tryz.prog 27 1 = some ({ name:= "Globals",type:=23,offset:=1,embedded:=false,tag:= "",pkgPath:= "",byteOffset:=24 }):=by kernel_rfl
theorem fd27_2 : fieldOf Tryz.prog 27 2 = some ({ name:= "Inits",type:=24,offset:=2,embedded:=false,tag:= "",pkgPath:= "",byteOffset:=48 }):=by kernel_rfl
theorem fd27_3 : fieldOf Tryz.prog 27 3 = some ({ name:= "Handlers",type:=25,offset:=3,embedded:=false,tag:= "",pkgPath:= "",byteOffset:=72 }):=by kernel_rfl
theorem fd85_1 : fieldOf Tryz.prog 85 1 = some ({ name:= "Params",type:=3,offset:=1,embedded:=false,tag:= "",pkgPath:= "",byteOffset:=16 }):=by kernel_rfl
theorem fd85_2 : fieldOf Tryz.prog 85 2 = some ({ name:= "Slots",type:=3,offset:=2,embedded:=false,tag:= "",pkgPath:= "",byteOffset:=24 }):=by kernel_rfl
theorem fd104_3 : fieldOf Tryz.prog 104 3 = some ({ name:= "Text",type:=9,offset:=3,embedded:=false,tag:= "",pkgPath:= "",byteOffset:=24 }):=by kernel_rfl
theorem fd104_4 : fieldOf Tryz.prog 104 4 = some ({ name:= "Val",type:=34,offset:=4,embedded:=false,tag:= "",pkgPath:= "",byteOffset:=40 }):=by kernel_rfl
theorem fd127_0 : fieldOf Tryz.prog 127 0 = some ({ name:= "Kind",type:=3,offset:=0,embedded:=false,tag:= "",pkgPath:= "",byteOffset:=0 }):=by kernel_rfl
theorem fd127_2 : fieldOf Tryz.prog 127 2 = some ({ name:= "Func",type:=3,offset:=2,embedded:=false,tag:= "",pkgPath:= "",byteOffset:=24 }):=by kernel_rfl
theorem fd127_3 : fieldOf Tryz.prog 127 3 = some ({ name:= "Check",type:=3,offset:=3,embedded:=false,tag:= "",pkgPath:= "",byteOffset:=32 }):=by kernel_rfl
theorem fd182_0 : fieldOf Tryz.prog 182 0 = some ({ name:= "c",type:=27,offset:=0,embedded:=false,tag:= "",pkgPath:= "workflow/code",byteOffset:=0 }):=by kernel_rfl
theorem fd182_1 : fieldOf Tryz.prog 182 1 = some ({ name:= "f",type:=85,offset:=4,embedded:=false,tag:= "",pkgPath:= "workflow/code",byteOffset:=96 }):=by kernel_rfl
theorem ze208 : zeroOf Tryz.prog 208 = some (AV.nilFunc):=by kernel_rfl
theorem ze127 : zeroOf Tryz.prog 127 = some (AV.agg [AV.int IntKind.i64 0,AV.str [],AV.int IntKind.i64 0,AV.int IntKind.i64 0]):=by kernel_rfl
theorem ze85 : zeroOf Tryz.prog 85 = some (AV.agg [AV.str [],AV.int IntKind.i64 0,AV.int IntKind.i64 0,AV.nilslice]):=by kernel_rfl
theorem ze182 : zeroOf Tryz.prog 182 = some (AV.agg [AV.nilslice,AV.nilslice,AV.nilslice,AV.nilslice,AV.str [],AV.int IntKind.i64 0,AV.int IntKind.i64 0,AV.nilslice]):=by kernel_rfl
theorem bu182 (parts : List (Nat × AV)) : evBuild Tryz.prog 182 parts = (fillA (fun i=>([(0,4),(4,4)] : List (Nat × Nat))[i]?) [AV.nilslice,AV.nilslice,AV.nilslice,AV.nilslice,AV.str [],AV.int IntKind.i64 0,AV.int IntKind.i64 0,AV.nilslice] parts).map .agg:=evBuild_struct ze182 (by kernel_rfl) parts
theorem bu34 (parts : List (Nat × AV)) : evBuild Tryz.prog 34 parts = (fillA (fun i=>([(0,1),(1,1),(2,1),(3,1),(4,1)] : List (Nat × Nat))[i]?) [AV.int IntKind.i64 0,AV.int IntKind.i64 0,AV.str [],AV.nilslice,AV.nilslice] parts).map .agg:=evBuild_struct ze34 (by kernel_rfl) parts
theorem fx2 : ((((((type_of% @ag22) ∧ (type_of% @sz22)) ∧ ((type_of% @und22) ∧ (type_of% @el22))) ∧ (((type_of% @ag25) ∧ (type_of% @sz25)) ∧ ((type_of% @und25) ∧ (type_of% @el25)))) ∧ ((((type_of% @ag27) ∧ (type_of% @sz27)) ∧ ((type_of% @ag127) ∧ (type_of% @sz127))) ∧ (((type_of% @ag182) ∧ (type_of% @sz182)) ∧ ((type_of% @ag208) ∧ ((type_of% @sz208) ∧ (type_of% @fd27_0)))))) ∧ (((((type_of% @fd27_1) ∧ (type_of% @fd27_2)) ∧ ((type_of% @fd27_3) ∧ (type_of% @fd85_1))) ∧ (((type_of% @fd85_2) ∧ (type_of% @fd104_3)) ∧ ((type_of% @fd104_4) ∧ ((type_of% @fd127_0) ∧ (type_of% @fd127_2))))) ∧ ((((type_of% @fd127_3) ∧ (type_of% @fd182_0)) ∧ ((type_of% @fd182_1) ∧ (type_of% @ze208))) ∧ (((type_of% @ze127) ∧ (type_of% @ze85)) ∧ ((type_of% @ze182) ∧ ((type_of% @bu182) ∧ (type_of% @bu34))))))):=
 And.intro (And.intro (And.intro (And.intro (And.intro (@ag22) (@sz22)) (And.intro (@und22) (@el22))) (And.intro (And.intro (@ag25) (@sz25)) (And.intro (@und25) (@el25)))) (And.intro (And.intro (And.intro (@ag27) (@sz27)) (And.intro (@ag127) (@sz127))) (And.intro (And.intro (@ag182) (@sz182)) (And.intro (@ag208) (And.intro (@sz208) (@fd27_0)))))) (And.intro (And.intro (And.intro (And.intro (@fd27_1) (@fd27_2)) (And.intro (@fd27_3) (@fd85_1))) (And.intro (And.intro (@fd85_2) (@fd104_3)) (And.intro (@fd104_4) (And.intro (@fd127_0) (@fd127_2))))) (And.intro (And.intro (And.intro (@fd127_3) (@fd182_0)) (And.intro (@fd182_1) (@ze208))) (And.intro (And.intro (@ze127) (@ze85)) (And.intro (@ze182) (And.intro (@bu182) (@bu34))))))
theorem idx22 {v : AV} {L : List (List AV)} (h : ∀ H,Holds H 4 v L) {i : Nat} {cs : List AV} (hi : L[i]? = some cs) (H : Heap) : evIndexAddr Tryz.prog H 22 v (.int .i64 i) = some (.iptr cs 0):=by
 rw [lst_at h hi]
 simp [evIndexAddr,und22,sz85,hi]
def FunC (c : List AV) : Prop:=∃ (nm : List Nat) (P S : Int) (v : AV),c = [.str nm,.int .i64 P,.int .i64 S,v]
def prmF (cs : List AV) : Int:=match cs.getD 1 .undef with | .int _ k=>k | _=>0
def takes1 (L : List (List AV)) (fn : Int) : Bool:=belowV fn L.length && (prmF (L.getD fn.toNat []) == 1)
theorem f80_ok {vF vG vI vH : AV} {L : List (List AV)} (hv : ∀ H,Holds H 4 vF L) (hL : ∀ c ∈ L,FunC c) (hn : L.length < 2 ^ 60) (hG : vG.isCell = true) (hI : vI.isCell = true) (hH : vH.isCell = true) (fn : Int) (H : Heap) (hF : Free H) (K : AV → Heap → Prop) (hK : ∀ H',Up H H' → Free H' → K (.bool (takes1 L fn)) H') : WF Tryz.prog 80 [.agg [vF,vG,vI,vH],.int .i64 fn] H K:=by
 have hlen : ∀ G,evBuiltin Tryz.prog G .len #[22] [vF] = some (.int .i64 L.length,G):=fun G=>(hv G).lenAt und22 G
 have hvc:=holds_cell (hv H)
 refine WF_body Tryz.func80 (by kernel_rfl) rfl Tryz.ntmps80 (by rw [Tryz.results80]) (of_decide_eq_true (by kernel_rfl)) ?_
 simp (maxSteps:=999999) only [gx,fx2,Nat.reduceBEq,reduceEqDiff,reduceLT,reduceCtorEq,reduceAdd,reduceLeDiff,hF.at,hF.hp,hvc,hG,hI,hH,hlen]
 generalize hH1 : HP H [Blk.row 27 4 [[vF,vG,vI,vH]] 0 0] = H1
 have hb : H1.blk H.next = some (.row 27 4 [[vF,vG,vI,vH]] 0 0):=by rw [← hH1,hp_blk0];rfl
 have hF1 : Free H1:=hH1 ▸ hF.hpF _
 have hU1 : Up H H1:=hH1 ▸ hF.hpU _
 refine callStep (f151_ok fn L.length H1 hF1 _ ?_)
 unfold takes1 at hK
 cases hb1 : belowV fn L.length with
 | false=>
  simp only [hb1,Bool.false_and] at hK
  simp (maxSteps:=999999) only [gx,fx2,Nat.reduceBEq,reduceEqDiff,reduceLT,reduceCtorEq,reduceAdd,reduceLeDiff]
  exact hK _ hU1 hF1
 | true=>
  simp only [hb1,Bool.true_and] at hK
  unfold belowV at hb1
  simp only [Bool.and_eq_true,decide_eq_true_eq] at hb1
  obtain ⟨m,rfl⟩:=Int.eq_ofNat_of_zero_le (show 0 ≤ fn from hb1.1)
  have hlt : m < L.length:=by omega
  obtain ⟨c,hc⟩ : ∃ c,L[m]? = some c:=⟨_,List.getElem?_eq_getElem hlt⟩
  obtain ⟨nm,P,S,v,rfl⟩:=hL c (List.mem_of_getElem? hc)
  have hgd : L.getD m [] = [.str nm,.int .i64 P,.int .i64 S,v]:=by rw [List.getD_eq_getElem?_getD,hc];rfl
  rw [Int.toNat_natCast,hgd] at hK
  simp (maxSteps:=999999) only [gx,fx2,Nat.reduceBEq,reduceEqDiff,reduceLT,reduceCtorEq,reduceAdd,reduceLeDiff,hb,idx22 hv hc]
  exact hK _ hU1 hF1
theorem f223_ok {vF vG vI vH : AV} {L : List (List AV)} (hv : ∀ H,Holds H 4 vF L) (hL : ∀ c ∈ L,FunC c) (hn : L.length < 2 ^ 60) (fn : Int) (b : Nat) (H : Heap) (hb : H.blk b = some (.row 27 4 [[vF,vG,vI,vH]] 0 0)) (hF : Free H) (K : AV → Heap → Prop) (hK : K (.bool (takes1 L fn)) H) : WF Tryz.prog 223 [.int .i64 fn,.ptr b 0 0 0] H K:=by
 have hlen : ∀ G,evBuiltin Tryz.prog G .len #[22] [vF] = some (.int .i64 L.length,G):=fun G=>(hv G).lenAt und22 G
 have hw : IntKind.i64.wrap ((L.length : Int) - 1) = (L.length : Int) - 1:=by
  rw [IntWalk.i64_in _ (by omega)]
 refine WF_body Tryz.func223 (by kernel_rfl) rfl Tryz.ntmps223 (by rw [Tryz.results223]) (of_decide_eq_true (by kernel_rfl)) ?_
 simp (maxSteps:=999999) only [gx,fx2,Nat.reduceBEq,reduceEqDiff,reduceLT,reduceCtorEq,reduceAdd,reduceLeDiff,hb,hlen,hw]
 refine callStep (f125_ok fn 0 ((L.length : Int) - 1) H hF _ ?_)
 have e : (decide (fn ≥ 0) && decide (fn ≤ (L.length : Int) - 1)) = belowV fn L.length:=by
  unfold belowV
  have : (fn ≤ (L.length : Int) - 1) = (fn < (L.length : Int)):=propext ⟨fun h=>by omega,fun h=>by omega⟩
  simp only [this]
 rw [e]
 unfold takes1 at hK
 cases hb1 : belowV fn L.length with
 | false=>
  simp only [hb1,Bool.false_and] at hK
  simp (maxSteps:=999999) only [gx,fx2,Nat.reduceBEq,reduceEqDiff,reduceLT,reduceCtorEq,reduceAdd,reduceLeDiff]
  exact hK
 | true=>
  simp only [hb1,Bool.true_and] at hK
  unfold belowV at hb1
  simp only [Bool.and_eq_true,decide_eq_true_eq] at hb1
  obtain ⟨m,rfl⟩:=Int.eq_ofNat_of_zero_le (show 0 ≤ fn from hb1.1)
  have hlt : m < L.length:=by omega
  obtain ⟨c,hc⟩ : ∃ c,L[m]? = some c:=⟨_,List.getElem?_eq_getElem hlt⟩
  obtain ⟨nm,P,S,v,rfl⟩:=hL c (List.mem_of_getElem? hc)
  have hgd : L.getD m [] = [.str nm,.int .i64 P,.int .i64 S,v]:=by rw [List.getD_eq_getElem?_getD,hc];rfl
  rw [Int.toNat_natCast,hgd] at hK
  simp (maxSteps:=999999) only [gx,fx2,Nat.reduceBEq,reduceEqDiff,reduceLT,reduceCtorEq,reduceAdd,reduceLeDiff,hb,idx22 hv hc]
  exact hK
end Go.Proofs.T
