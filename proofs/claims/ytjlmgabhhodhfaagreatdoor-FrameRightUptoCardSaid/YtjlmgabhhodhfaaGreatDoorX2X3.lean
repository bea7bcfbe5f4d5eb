import Derived.Test.YtjlmgabhhodhfaaGreatDoorFTyX1
set_option linter.unusedVariables false
set_option linter.unusedSimpArgs false
set_option maxRecDepth 100000
namespace Go.Proofs.T
open Go.Ev
open Nat (reduceMul reducePow reduceSub reduceEqDiff reduceLT reduceAdd reduceLeDiff)
open UInt8 (reduceToNat)
def idxP (p : List AV → Bool) : List (List AV) → Nat → Int
 | [],_=>-1
 | c :: L,i=>if p c = true then (i : Int) else idxP p L (i + 1)
theorem idxP_any (p : List AV → Bool) : ∀ (L : List (List AV)) (i : Nat),decide (idxP p L i ≥ 0) = L.any p
 | [],i=>by simp [idxP]
 | c :: L,i=>by
  cases h : p c
  ·simp only [idxP,h,Bool.false_eq_true,if_false,List.any_cons,Bool.false_or];exact idxP_any p L (i + 1)
  ·simp [idxP,h]

theorem f377_ok {v : AV} {L : List (List AV)} (hv : ∀ H,Holds H 1 v L) (hn : L.length < 2 ^ 60) (hL : StrL L) (p : List AV → Bool) (g : FuncId) (fs cs : List AV) (H : Heap) (hF : Free H)
  (hp : ∀ s,[.str s] ∈ L → ∀ G,Up H G → Free G → ∀ K,(∀ G',Up G G' → Free G' → K (.bool (p [.str s])) G') → WF Tryz.prog g (fs ++ [.str s] ++ cs) G K)
  (K : AV → Heap → Prop) (hK : ∀ H',Up H H' → Free H' → K (.int .i64 (idxP p L 0)) H') : WF Tryz.prog 377 [v,.func (.func g) fs cs] H K:=by
 have hlen : ∀ G,evBuiltin Tryz.prog G .len #[23] [v] = some (.int .i64 L.length,G):=fun G=>(hv G).lenAt und23 G
 refine WF_body Tryz.func377 (by kernel_rfl) rfl Tryz.ntmps377 (by rw [Tryz.results377]) (of_decide_eq_true (by kernel_rfl)) ?_
 simp (maxSteps:=999999) only [gx,Nat.reduceBEq,reduceEqDiff,reduceLT,reduceCtorEq,reduceAdd,reduceLeDiff,hlen]
 refine loopStep' (fun env H'=>Up H H' ∧ Free H' ∧ ∃ (i : Nat),i ≤ L.length ∧ env.at (.tmp 8) = .int .i64 i ∧ env.at (.tmp 7) = .int .i64 L.length ∧ env.at (.tmp 0) = v ∧ env.at (.tmp 1) = .func (.func g) fs cs ∧ idxP p L 0 = idxP p (L.drop i) i)
  (fun env H'=>match env.at (.tmp 8) with | .int _ i=>((L.length : Int) - i).toNat | _=>0) ?_ ?_
 ·refine ⟨Up.refl _,hF,0,Nat.zero_le _,?_,?_,?_,?_,by simp⟩
  ·simp only [gx,Nat.reduceBEq,reduceEqDiff,reduceLT,reduceCtorEq,reduceAdd,reduceLeDiff];rfl
  ·simp only [gx,Nat.reduceBEq,reduceEqDiff,reduceLT,reduceCtorEq,reduceAdd,reduceLeDiff]
  ·simp only [gx,Nat.reduceBEq,reduceEqDiff,reduceLT,reduceCtorEq,reduceAdd,reduceLeDiff]
  ·simp only [gx,Nat.reduceBEq,reduceEqDiff,reduceLT,reduceCtorEq,reduceAdd,reduceLeDiff]
 ·rintro env H' ⟨hU,hF',i,hi,e8,e7,e0,e1,hx⟩
  by_cases hlt : i < L.length
  ·obtain ⟨c,hc⟩ : ∃ c,L[i]? = some c:=⟨_,List.getElem?_eq_getElem hlt⟩
   obtain ⟨s,rfl⟩:=hL c (List.mem_of_getElem? hc)
   have hd : L.drop i = [.str s] :: L.drop (i + 1):=by
    rw [List.drop_eq_getElem_cons hlt]
    congr 1
    rw [List.getElem?_eq_getElem hlt] at hc
    exact Option.some.inj hc
   have hx' : idxP p L 0 = if p [.str s] = true then (i : Int) else idxP p (L.drop (i + 1)) (i + 1):=by
    rw [hx,hd];rfl
   simp (maxSteps:=999999) only [gx,Nat.reduceBEq,reduceEqDiff,reduceLT,reduceCtorEq,reduceAdd,reduceLeDiff,e8,e7,e0,e1,lt_true hlt,idx23 hv hc]
   refine callStep (hp s (List.mem_of_getElem? hc) H' hU hF' _ fun H2 hU2 hF2=>?_)
   cases hb : p [.str s]
   ·rw [hb] at hx'
    simp (maxSteps:=999999) only [gx,Nat.reduceBEq,reduceEqDiff,reduceLT,reduceCtorEq,reduceAdd,reduceLeDiff,e8,e7,e0,e1,wrap_succ (i:=i) (by omega)]
    refine ⟨⟨hU.trans hU2,hF2,i + 1,hlt,rfl,by simpa using hx'⟩,?_⟩
    omega
   ·rw [hb] at hx'
    simp (maxSteps:=999999) only [gx,Nat.reduceBEq,reduceEqDiff,reduceLT,reduceCtorEq,reduceAdd,reduceLeDiff,e8,e7,e0,e1]
    have:=hK H2 (hU.trans hU2) hF2
    rw [hx'] at this
    exact this
  ·obtain rfl : i = L.length:=by omega
   simp (maxSteps:=999999) only [gx,Nat.reduceBEq,reduceEqDiff,reduceLT,reduceCtorEq,reduceAdd,reduceLeDiff,e8,e7,e0,e1,lt_false hlt]
   have:=hK H' hU hF'
   rw [hx] at this
   simpa [idxP] using this
theorem f310_ok {v : AV} {L : List (List AV)} (hv : ∀ H,Holds H 1 v L) (hn : L.length < 2 ^ 60) (hL : StrL L) (p : List AV → Bool) (g : FuncId) (fs cs : List AV) (H : Heap) (hF : Free H)
  (hp : ∀ s,[.str s] ∈ L → ∀ G,Up H G → Free G → ∀ K,(∀ G',Up G G' → Free G' → K (.bool (p [.str s])) G') → WF Tryz.prog g (fs ++ [.str s] ++ cs) G K)
  (K : AV → Heap → Prop) (hK : ∀ H',Up H H' → Free H' → K (.bool (L.any p)) H') : WF Tryz.prog 310 [v,.func (.func g) fs cs] H K:=by
 refine WF_body Tryz.func310 (by kernel_rfl) rfl Tryz.ntmps310 (by rw [Tryz.results310]) (of_decide_eq_true (by kernel_rfl)) ?_
 simp (maxSteps:=999999) only [gx,Nat.reduceBEq,reduceEqDiff,reduceLT,reduceCtorEq,reduceAdd,reduceLeDiff]
 refine callStep (f377_ok hv hn hL p g fs cs H hF hp _ fun H2 hU2 hF2=>?_)
 have hq:=idxP_any p L 0
 simp (maxSteps:=999999) only [gx,Nat.reduceBEq,reduceEqDiff,reduceLT,reduceCtorEq,reduceAdd,reduceLeDiff,hq]
 exact hK _ hU2 hF2

theorem f222_ok {v : AV} {L : List (List AV)} (hv : ∀ H,Holds H 5 v L) (hn : L.length < 2 ^ 60) (hL : ∀ c ∈ L,c.length = 5) (p : List AV → Bool) (g : FuncId) (fs cs : List AV) (H : Heap) (hF : Free H)
  (hp : ∀ c ∈ L,∀ G,Up H G → Free G → ∀ K,(∀ G',Up G G' → Free G' → K (.bool (p c)) G') → WF Tryz.prog g (fs ++ [.agg c] ++ cs) G K)
  (K : AV → Heap → Prop) (hK : ∀ H',Up H H' → Free H' → K (.int .i64 (idxP p L 0)) H') : WF Tryz.prog 222 [v,.func (.func g) fs cs] H K:=by
 have hlen : ∀ G,evBuiltin Tryz.prog G .len #[24] [v] = some (.int .i64 L.length,G):=fun G=>(hv G).lenAt und24 G
 refine WF_body Tryz.func222 (by kernel_rfl) rfl Tryz.ntmps222 (by rw [Tryz.results222]) (of_decide_eq_true (by kernel_rfl)) ?_
 simp (maxSteps:=999999) only [gx,Nat.reduceBEq,reduceEqDiff,reduceLT,reduceCtorEq,reduceAdd,reduceLeDiff,hlen]
 refine loopStep' (fun env H'=>Up H H' ∧ Free H' ∧ ∃ (i : Nat),i ≤ L.length ∧ env.at (.tmp 8) = .int .i64 i ∧ env.at (.tmp 7) = .int .i64 L.length ∧ env.at (.tmp 0) = v ∧ env.at (.tmp 1) = .func (.func g) fs cs ∧ idxP p L 0 = idxP p (L.drop i) i)
  (fun env H'=>match env.at (.tmp 8) with | .int _ i=>((L.length : Int) - i).toNat | _=>0) ?_ ?_
 ·refine ⟨Up.refl _,hF,0,Nat.zero_le _,?_,?_,?_,?_,by simp⟩
  ·simp only [gx,Nat.reduceBEq,reduceEqDiff,reduceLT,reduceCtorEq,reduceAdd,reduceLeDiff];rfl
  ·simp only [gx,Nat.reduceBEq,reduceEqDiff,reduceLT,reduceCtorEq,reduceAdd,reduceLeDiff]
  ·simp only [gx,Nat.reduceBEq,reduceEqDiff,reduceLT,reduceCtorEq,reduceAdd,reduceLeDiff]
  ·simp only [gx,Nat.reduceBEq,reduceEqDiff,reduceLT,reduceCtorEq,reduceAdd,reduceLeDiff]
 ·rintro env H' ⟨hU,hF',i,hi,e8,e7,e0,e1,hx⟩
  by_cases hlt : i < L.length
  ·obtain ⟨c,hc⟩ : ∃ c,L[i]? = some c:=⟨_,List.getElem?_eq_getElem hlt⟩
   have hcl:=hL c (List.mem_of_getElem? hc)
   have htk : c.take 5 = c:=List.take_of_length_le (by omega)
   have hd : L.drop i = c :: L.drop (i + 1):=by
    rw [List.drop_eq_getElem_cons hlt]
    congr 1
    rw [List.getElem?_eq_getElem hlt] at hc
    exact Option.some.inj hc
   have hx' : idxP p L 0 = if p c = true then (i : Int) else idxP p (L.drop (i + 1)) (i + 1):=by
    rw [hx,hd];rfl
   simp (maxSteps:=999999) only [gx,Nat.reduceBEq,reduceEqDiff,reduceLT,reduceCtorEq,reduceAdd,reduceLeDiff,e8,e7,e0,e1,lt_true hlt,idx24 hv hc,hcl,htk]
   refine callStep (hp c (List.mem_of_getElem? hc) H' hU hF' _ fun H2 hU2 hF2=>?_)
   cases hb : p c
   ·rw [hb] at hx'
    simp (maxSteps:=999999) only [gx,Nat.reduceBEq,reduceEqDiff,reduceLT,reduceCtorEq,reduceAdd,reduceLeDiff,e8,e7,e0,e1,wrap_succ (i:=i) (by omega)]
    refine ⟨⟨hU.trans hU2,hF2,i + 1,hlt,rfl,by simpa using hx'⟩,?_⟩
    omega
   ·rw [hb] at hx'
    simp (maxSteps:=999999) only [gx,Nat.reduceBEq,reduceEqDiff,reduceLT,reduceCtorEq,reduceAdd,reduceLeDiff,e8,e7,e0,e1]
    have:=hK H2 (hU.trans hU2) hF2
    rw [hx'] at this
    exact this
  ·obtain rfl : i = L.length:=by omega
   simp (maxSteps:=999999) only [gx,Nat.reduceBEq,reduceEqDiff,reduceLT,reduceCtorEq,reduceAdd,reduceLeDiff,e8,e7,e0,e1,lt_false hlt]
   have:=hK H' hU hF'
   rw [hx] at this
   simpa [idxP] using this
theorem f126_ok {v : AV} {L : List (List AV)} (hv : ∀ H,Holds H 5 v L) (hn : L.length < 2 ^ 60) (hL : ∀ c ∈ L,c.length = 5) (p : List AV → Bool) (g : FuncId) (fs cs : List AV) (H : Heap) (hF : Free H)
  (hp : ∀ c ∈ L,∀ G,Up H G → Free G → ∀ K,(∀ G',Up G G' → Free G' → K (.bool (p c)) G') → WF Tryz.prog g (fs ++ [.agg c] ++ cs) G K)
  (K : AV → Heap → Prop) (hK : ∀ H',Up H H' → Free H' → K (.bool (L.any p)) H') : WF Tryz.prog 126 [v,.func (.func g) fs cs] H K:=by
 refine WF_body Tryz.func126 (by kernel_rfl) rfl Tryz.ntmps126 (by rw [Tryz.results126]) (of_decide_eq_true (by kernel_rfl)) ?_
 simp (maxSteps:=999999) only [gx,Nat.reduceBEq,reduceEqDiff,reduceLT,reduceCtorEq,reduceAdd,reduceLeDiff]
 refine callStep (f222_ok hv hn hL p g fs cs H hF hp _ fun H2 hU2 hF2=>?_)
 have hq:=idxP_any p L 0
 simp (maxSteps:=999999) only [gx,Nat.reduceBEq,reduceEqDiff,reduceLT,reduceCtorEq,reduceAdd,reduceLeDiff,hq]
 exact hK _ hU2 hF2

def strC (c : List AV) : List Nat:=match c with | [.str s]=>s | _=>[]
def riseAt (M : List (List AV)) (i : Nat) : Bool:=i == 0 || lessA (strC (M.getD (i - 1) [])) (strC (M.getD i []))
def riseV (M : List (List AV)) : Bool:=(List.range M.length).all (riseAt M)

theorem f239_ok {w : AV} {M : List (List AV)} (H : Heap) (hF : Free H) (hw : ∀ H,Holds H 1 w M) (hm : M.length < 2 ^ 60) (hM : StrL M) (K : AV → Heap → Prop) (hK : K (.bool (riseV M)) H) : WF Tryz.prog 239 [w] H K:=by
 have hlen : ∀ G,evBuiltin Tryz.prog G .len #[23] [w] = some (.int .i64 M.length,G):=fun G=>(hw G).lenAt und23 G
 refine WF_body Tryz.func239 (by kernel_rfl) rfl Tryz.ntmps239 (by rw [Tryz.results239]) (of_decide_eq_true (by kernel_rfl)) ?_
 simp (maxSteps:=999999) only [gx,Nat.reduceBEq,reduceEqDiff,reduceLT,reduceCtorEq,reduceAdd,reduceLeDiff]
 refine loopStep' (fun env H'=>H' = H ∧ ∃ (i : Nat),1 ≤ i ∧ i ≤ M.length + 1 ∧ env.at (.tmp 3) = .int .i64 i ∧ env.at (.tmp 0) = w ∧ ∀ j,j < i → riseAt M j = true)
  (fun env H'=>match env.at (.tmp 3) with | .int _ i=>((M.length : Int) + 1 - i).toNat | _=>0) ?_ ?_
 ·refine ⟨rfl,1,Nat.le_refl _,by omega,?_,?_,?_⟩
  ·simp only [gx,Nat.reduceBEq,reduceEqDiff,reduceLT,reduceCtorEq,reduceAdd,reduceLeDiff];rfl
  ·simp only [gx,Nat.reduceBEq,reduceEqDiff,reduceLT,reduceCtorEq,reduceAdd,reduceLeDiff]
  ·intro j hj
   obtain rfl : j = 0:=by omega
   rfl
 ·rintro env H' ⟨rfl,i,h1,hi,e3,e0,hinv⟩
  by_cases hlt : i < M.length
  ·obtain ⟨c,hc⟩ : ∃ c,M[i]? = some c:=⟨_,List.getElem?_eq_getElem hlt⟩
   obtain ⟨s,rfl⟩:=hM c (List.mem_of_getElem? hc)
   obtain ⟨d,hd⟩ : ∃ d,M[i - 1]? = some d:=⟨_,List.getElem?_eq_getElem (by omega)⟩
   obtain ⟨t,rfl⟩:=hM d (List.mem_of_getElem? hd)
   have hat : riseAt M i = lessA t s:=by
    unfold riseAt
    rw [List.getD_eq_getElem?_getD,List.getD_eq_getElem?_getD,hc,hd]
    have : (i == 0) = false:=by simp;omega
    rw [this];rfl
   simp (maxSteps:=999999) only [gx,Nat.reduceBEq,reduceEqDiff,reduceLT,reduceCtorEq,reduceAdd,reduceLeDiff,e3,e0,hlen,lt_true hlt]
   refine drawStep [] [0,1,2,3,4,5,6,7,8,9] _ rfl (by kernel_rfl) ?_
   cases hb : lessA t s with
   | false=>
    simp (maxSteps:=999999) only [gx,Nat.reduceBEq,reduceEqDiff,reduceLT,reduceCtorEq,reduceAdd,reduceLeDiff,e3,e0,wrap_pred h1 (by omega),idx23 hw hc,idx23 hw hd,hb,Bool.not_false]
    have : riseV M = false:=by
     unfold riseV
     rw [List.all_eq_false]
     exact ⟨i,List.mem_range.2 hlt,by rw [hat,hb];simp⟩
    rw [this] at hK;exact hK
   | true=>
    simp (maxSteps:=999999) only [gx,Nat.reduceBEq,reduceEqDiff,reduceLT,reduceCtorEq,reduceAdd,reduceLeDiff,e3,e0,wrap_pred h1 (by omega),idx23 hw hc,idx23 hw hd,hb,Bool.not_true,wrap_succ (i:=i) (by omega)]
    refine ⟨⟨i + 1,by omega,by omega,rfl,fun j hj=>?_⟩,?_⟩
    ·by_cases hj2 : j < i
     ·exact hinv j hj2
     ·obtain rfl : j = i:=by omega
      rw [hat,hb]
    ·omega
  ·simp (maxSteps:=999999) only [gx,Nat.reduceBEq,reduceEqDiff,reduceLT,reduceCtorEq,reduceAdd,reduceLeDiff,e3,e0,hlen,lt_false hlt]
   have : riseV M = true:=by
    unfold riseV
    rw [List.all_eq_true]
    exact fun j hj=>hinv j (by have:=List.mem_range.1 hj;omega)
   rw [this] at hK;exact hK

theorem f62_ok {w : AV} {M : List (List AV)} (H : Heap) (hF : Free H) (hw : ∀ H,Holds H 1 w M) (hm : M.length < 2 ^ 60) (hM : StrL M) (K : AV → Heap → Prop) (hK : K (.bool (riseV M)) H) : WF Tryz.prog 62 [w] H K:=by
 have hlen : ∀ G,evBuiltin Tryz.prog G .len #[23] [w] = some (.int .i64 M.length,G):=fun G=>(hw G).lenAt und23 G
 refine WF_body Tryz.func62 (by kernel_rfl) rfl Tryz.ntmps62 (by rw [Tryz.results62]) (of_decide_eq_true (by kernel_rfl)) ?_
 simp (maxSteps:=999999) only [gx,Nat.reduceBEq,reduceEqDiff,reduceLT,reduceCtorEq,reduceAdd,reduceLeDiff]
 refine loopStep' (fun env H'=>H' = H ∧ ∃ (i : Nat),1 ≤ i ∧ i ≤ M.length + 1 ∧ env.at (.tmp 3) = .int .i64 i ∧ env.at (.tmp 0) = w ∧ ∀ j,j < i → riseAt M j = true)
  (fun env H'=>match env.at (.tmp 3) with | .int _ i=>((M.length : Int) + 1 - i).toNat | _=>0) ?_ ?_
 ·refine ⟨rfl,1,Nat.le_refl _,by omega,?_,?_,?_⟩
  ·simp only [gx,Nat.reduceBEq,reduceEqDiff,reduceLT,reduceCtorEq,reduceAdd,reduceLeDiff];rfl
  ·simp only [gx,Nat.reduceBEq,reduceEqDiff,reduceLT,reduceCtorEq,reduceAdd,reduceLeDiff]
  ·intro j hj
   obtain rfl : j = 0:=by omega
   rfl
 ·rintro env H' ⟨rfl,i,h1,hi,e3,e0,hinv⟩
  by_cases hlt : i < M.length
  ·obtain ⟨c,hc⟩ : ∃ c,M[i]? = some c:=⟨_,List.getElem?_eq_getElem hlt⟩
   obtain ⟨s,rfl⟩:=hM c (List.mem_of_getElem? hc)
   obtain ⟨d,hd⟩ : ∃ d,M[i - 1]? = some d:=⟨_,List.getElem?_eq_getElem (by omega)⟩
   obtain ⟨t,rfl⟩:=hM d (List.mem_of_getElem? hd)
   have hat : riseAt M i = lessA t s:=by
    unfold riseAt
    rw [List.getD_eq_getElem?_getD,List.getD_eq_getElem?_getD,hc,hd]
    have : (i == 0) = false:=by simp;omega
    rw [this];rfl
   simp (maxSteps:=999999) only [gx,Nat.reduceBEq,reduceEqDiff,reduceLT,reduceCtorEq,reduceAdd,reduceLeDiff,e3,e0,hlen,lt_true hlt]
   refine drawStep [] [0,1,2,3,4,5,6,7,8,9] _ rfl (by kernel_rfl) ?_
   cases hb : lessA t s with
   | false=>
    simp (maxSteps:=999999) only [gx,Nat.reduceBEq,reduceEqDiff,reduceLT,reduceCtorEq,reduceAdd,reduceLeDiff,e3,e0,wrap_pred h1 (by omega),idx23 hw hc,idx23 hw hd,hb,Bool.not_false]
    have : riseV M = false:=by
     unfold riseV
     rw [List.all_eq_false]
     exact ⟨i,List.mem_range.2 hlt,by rw [hat,hb];simp⟩
    rw [this] at hK;exact hK
   | true=>
    simp (maxSteps:=999999) only [gx,Nat.reduceBEq,reduceEqDiff,reduceLT,reduceCtorEq,reduceAdd,reduceLeDiff,e3,e0,wrap_pred h1 (by omega),idx23 hw hc,idx23 hw hd,hb,Bool.not_true,wrap_succ (i:=i) (by omega)]
    refine ⟨⟨i + 1,by omega,by omega,rfl,fun j hj=>?_⟩,?_⟩
    ·by_cases hj2 : j < i
     ·exact hinv j hj2
     ·obtain rfl : j = i:=by omega
      rw [hat,hb]
    ·omega
  ·simp (maxSteps:=999999) only [gx,Nat.reduceBEq,reduceEqDiff,reduceLT,reduceCtorEq,reduceAdd,reduceLeDiff,e3,e0,hlen,lt_false hlt]
   have : riseV M = true:=by
    unfold riseV
    rw [List.all_eq_true]
    exact fun j hj=>hinv j (by have:=List.mem_range.1 hj;omega)
   rw [this] at hK;exact hK

def txtV (cs : List AV) : List Nat:=match cs.getD 2 .undef with | .str s=>s | _=>[]
def longK (c : List AV) : Bool:=decide (((strC c).length : Int) > 4096)
def shortV : Nat → List AV → Bool
 | 0,_=>false
 | n + 1,cs=>!decide (((txtV cs).length : Int) > 4096) && !((itm (cs.getD 4 .undef)).any longK) && !((itm (cs.getD 3 .undef)).any fun c=>!shortV n c)
theorem f311_ok (s : List Nat) (H : Heap) (hF : Free H) (K : AV → Heap → Prop) (hK : ∀ H',Up H H' → Free H' → K (.bool (longK [.str s])) H') : WF Tryz.prog 311 [.str s] H K:=by
 refine WF_body Tryz.func311 (by kernel_rfl) rfl Tryz.ntmps311 (by rw [Tryz.results311]) (of_decide_eq_true (by kernel_rfl)) ?_
 simp (maxSteps:=999999) only [gx,Nat.reduceBEq,reduceEqDiff,reduceLT,reduceCtorEq,reduceAdd,reduceLeDiff,ln9]
 exact hK _ (Up.refl _) hF
theorem f238_ok : ∀ (n : Nat) (cs : List AV),VT n cs → ∀ (H : Heap) (hF : Free H) (K : AV → Heap → Prop) (hK : ∀ H',Up H H' → Free H' → K (.bool (shortV n cs)) H'),WF Tryz.prog 238 [.agg cs] H K:=by
 intro n
 induction n with
 | zero=>intro cs h;exact h.elim
 | succ n ih=>
  intro cs h H hF K hK
  obtain ⟨k,ix,s,v,w,L,M,rfl,hv,hvn,hvc,hw,hwn,hwc⟩:=h
  have e : shortV (n + 1) [.int .i64 k,.int .i64 ix,.str s,v,w] = (!decide ((s.length : Int) > 4096) && !(M.any longK) && !(L.any fun c=>!shortV n c)):=by rw [← itm_eq hv,← itm_eq hw];rfl
  rw [e] at hK
  have h312 : ∀ c,VT n c → ∀ G,Free G → ∀ K,(∀ G',Up G G' → Free G' → K (.bool (!shortV n c)) G') → WF Tryz.prog 312 [.agg c] G K:=fun c hc G hG K hK=>by
   refine WF_body Tryz.func312 (by kernel_rfl) rfl Tryz.ntmps312 (by rw [Tryz.results312]) (of_decide_eq_true (by kernel_rfl)) ?_
   simp (maxSteps:=999999) only [gx,Nat.reduceBEq,reduceEqDiff,reduceLT,reduceCtorEq,reduceAdd,reduceLeDiff,hG.at,hG.hp,hc.len,hc.tk]
   refine callStep (ih c hc _ (hG.hpF _) _ fun G2 hU2 hF2=>?_)
   simp (maxSteps:=999999) only [gx,Nat.reduceBEq,reduceEqDiff,reduceLT,reduceCtorEq,reduceAdd,reduceLeDiff]
   exact hK _ ((hG.hpU _).trans hU2) hF2
  refine WF_body Tryz.func238 (by kernel_rfl) rfl Tryz.ntmps238 (by rw [Tryz.results238]) (of_decide_eq_true (by kernel_rfl)) ?_
  by_cases h4 : (s.length : Int) > 4096
  ·simp only [h4,decide_true,Bool.not_true,Bool.false_and] at hK
   simp (maxSteps:=999999) only [gx,Nat.reduceBEq,reduceEqDiff,reduceLT,reduceCtorEq,reduceAdd,reduceLeDiff,hF.at,hF.hp,ln9,h4]
   exact hK _ (hF.hpU _) (hF.hpF _)
  ·simp only [h4,decide_false,Bool.not_false,Bool.true_and] at hK
   simp (maxSteps:=999999) only [gx,Nat.reduceBEq,reduceEqDiff,reduceLT,reduceCtorEq,reduceAdd,reduceLeDiff,hF.at,hF.hp,ln9,h4]
   generalize hH1 : HP H [Blk.row 34 5 [[.int .i64 k,.int .i64 ix,.str s,v,w]] 0 0] = H1
   have hb : H1.blk H.next = some (.row 34 5 [[.int .i64 k,.int .i64 ix,.str s,v,w]] 0 0):=by rw [← hH1,hp_blk0];rfl
   have hF1 : Free H1:=hH1 ▸ hF.hpF _
   have hU1 : Up H H1:=hH1 ▸ hF.hpU _
   refine callStep (f310_ok hw hwn hwc longK 311 [] [] _ hF1 (fun s _ G _ hG K hK=>f311_ok s G hG K hK) _ fun H2 hU2 hF2=>?_)
   have hb2:=hU2 _ _ hb
   cases hk : M.any longK with
   | true=>
    simp only [hk,Bool.not_true,Bool.false_and] at hK
    simp (maxSteps:=999999) only [gx,Nat.reduceBEq,reduceEqDiff,reduceLT,reduceCtorEq,reduceAdd,reduceLeDiff]
    exact hK _ (hU1.trans hU2) hF2
   | false=>
    simp only [hk,Bool.not_false,Bool.true_and] at hK
    simp (maxSteps:=999999) only [gx,Nat.reduceBEq,reduceEqDiff,reduceLT,reduceCtorEq,reduceAdd,reduceLeDiff,hb2]
    refine callStep (f126_ok hv hvn (fun c hc=>(hvc c hc).len) (fun c=>!shortV n c) 312 [] [] _ hF2 (fun c hc G _ hG K hK=>h312 c (hvc c hc) G hG K hK) _ fun H3 hU3 hF3=>?_)
    simp (maxSteps:=999999) only [gx,Nat.reduceBEq,reduceEqDiff,reduceLT,reduceCtorEq,reduceAdd,reduceLeDiff]
    exact hK _ ((hU1.trans hU2).trans hU3) hF3
end Go.Proofs.T
