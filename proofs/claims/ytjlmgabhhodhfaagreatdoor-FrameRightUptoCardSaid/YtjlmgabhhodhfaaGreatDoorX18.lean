import Derived.Test.YtjlmgabhhodhfaaGreatDoorX13X17
set_option linter.unusedVariables false
set_option linter.unusedSimpArgs false
set_option maxRecDepth 100000
namespace Go.Proofs.T
open Go.Ev
open Nat (reduceMul reducePow reduceSub reduceEqDiff reduceLT reduceAdd reduceLeDiff)
open UInt8 (reduceToNat)
theorem idx25 {v : AV} {L : List (List AV)} (h : ∀ H,Holds H 4 v L) {i : Nat} {cs : List AV} (hi : L[i]? = some cs) (H : Heap) : evIndexAddr Tryz.prog H 25 v (.int .i64 i) = some (.iptr cs 0):=by
 rw [lst_at h hi]
 simp [evIndexAddr,und25,sz127,hi]
theorem f143_ok {v : AV} {L : List (List AV)} (hv : ∀ H,Holds H 4 v L) (hn : L.length < 2 ^ 60) (hL : ∀ c ∈ L,c.length = 4) (p : List AV → Bool) (g : FuncId) (fs cs : List AV) (H : Heap) (hF : Free H)
  (hp : ∀ c ∈ L,∀ G,Up H G → Free G → ∀ K,(∀ G',Up G G' → Free G' → K (.bool (p c)) G') → WF Tryz.prog g (fs ++ [.agg c] ++ cs) G K)
  (K : AV → Heap → Prop) (hK : ∀ H',Up H H' → Free H' → K (.int .i64 (idxP p L 0)) H') : WF Tryz.prog 143 [v,.func (.func g) fs cs] H K:=by
 have hlen : ∀ G,evBuiltin Tryz.prog G .len #[25] [v] = some (.int .i64 L.length,G):=fun G=>(hv G).lenAt und25 G
 refine WF_body Tryz.func143 (by kernel_rfl) rfl Tryz.ntmps143 (by rw [Tryz.results143]) (of_decide_eq_true (by kernel_rfl)) ?_
 simp (maxSteps:=999999) only [gx,fx2,Nat.reduceBEq,reduceEqDiff,reduceLT,reduceCtorEq,reduceAdd,reduceLeDiff,hlen]
 refine loopStep' (fun env H'=>Up H H' ∧ Free H' ∧ ∃ (i : Nat),i ≤ L.length ∧ env.at (.tmp 8) = .int .i64 i ∧ env.at (.tmp 7) = .int .i64 L.length ∧ env.at (.tmp 0) = v ∧ env.at (.tmp 1) = .func (.func g) fs cs ∧ idxP p L 0 = idxP p (L.drop i) i)
  (fun env H'=>match env.at (.tmp 8) with | .int _ i=>((L.length : Int) - i).toNat | _=>0) ?_ ?_
 ·refine ⟨Up.refl _,hF,0,Nat.zero_le _,?_,?_,?_,?_,by simp⟩
  ·simp only [gx,fx2,Nat.reduceBEq,reduceEqDiff,reduceLT,reduceCtorEq,reduceAdd,reduceLeDiff];rfl
  ·simp only [gx,fx2,Nat.reduceBEq,reduceEqDiff,reduceLT,reduceCtorEq,reduceAdd,reduceLeDiff]
  ·simp only [gx,fx2,Nat.reduceBEq,reduceEqDiff,reduceLT,reduceCtorEq,reduceAdd,reduceLeDiff]
  ·simp only [gx,fx2,Nat.reduceBEq,reduceEqDiff,reduceLT,reduceCtorEq,reduceAdd,reduceLeDiff]
 ·rintro env H' ⟨hU,hF',i,hi,e8,e7,e0,e1,hx⟩
  by_cases hlt : i < L.length
  ·obtain ⟨c,hc⟩ : ∃ c,L[i]? = some c:=⟨_,List.getElem?_eq_getElem hlt⟩
   have hcl:=hL c (List.mem_of_getElem? hc)
   have htk : c.take 4 = c:=List.take_of_length_le (by omega)
   have hd : L.drop i = c :: L.drop (i + 1):=by
    rw [List.drop_eq_getElem_cons hlt]
    congr 1
    rw [List.getElem?_eq_getElem hlt] at hc
    exact Option.some.inj hc
   have hx' : idxP p L 0 = if p c = true then (i : Int) else idxP p (L.drop (i + 1)) (i + 1):=by
    rw [hx,hd];rfl
   simp (maxSteps:=999999) only [gx,fx2,Nat.reduceBEq,reduceEqDiff,reduceLT,reduceCtorEq,reduceAdd,reduceLeDiff,e8,e7,e0,e1,lt_true hlt,idx25 hv hc,hcl,htk]
   refine callStep (hp c (List.mem_of_getElem? hc) H' hU hF' _ fun H2 hU2 hF2=>?_)
   cases hb : p c
   ·rw [hb] at hx'
    simp (maxSteps:=999999) only [gx,fx2,Nat.reduceBEq,reduceEqDiff,reduceLT,reduceCtorEq,reduceAdd,reduceLeDiff,e8,e7,e0,e1,wrap_succ (i:=i) (by omega)]
    refine ⟨⟨hU.trans hU2,hF2,i + 1,hlt,rfl,by simpa using hx'⟩,?_⟩
    omega
   ·rw [hb] at hx'
    simp (maxSteps:=999999) only [gx,fx2,Nat.reduceBEq,reduceEqDiff,reduceLT,reduceCtorEq,reduceAdd,reduceLeDiff,e8,e7,e0,e1]
    have:=hK H2 (hU.trans hU2) hF2
    rw [hx'] at this
    exact this
  ·obtain rfl : i = L.length:=by omega
   simp (maxSteps:=999999) only [gx,fx2,Nat.reduceBEq,reduceEqDiff,reduceLT,reduceCtorEq,reduceAdd,reduceLeDiff,e8,e7,e0,e1,lt_false hlt]
   have:=hK H' hU hF'
   rw [hx] at this
   simpa [idxP] using this
theorem f224_ok {v : AV} {L : List (List AV)} (hv : ∀ H,Holds H 4 v L) (hn : L.length < 2 ^ 60) (hL : ∀ c ∈ L,c.length = 4) (p : List AV → Bool) (g : FuncId) (fs cs : List AV) (H : Heap) (hF : Free H)
  (hp : ∀ c ∈ L,∀ G,Up H G → Free G → ∀ K,(∀ G',Up G G' → Free G' → K (.bool (p c)) G') → WF Tryz.prog g (fs ++ [.agg c] ++ cs) G K)
  (K : AV → Heap → Prop) (hK : ∀ H',Up H H' → Free H' → K (.bool (L.any p)) H') : WF Tryz.prog 224 [v,.func (.func g) fs cs] H K:=by
 refine WF_body Tryz.func224 (by kernel_rfl) rfl Tryz.ntmps224 (by rw [Tryz.results224]) (of_decide_eq_true (by kernel_rfl)) ?_
 simp (maxSteps:=999999) only [gx,fx2,Nat.reduceBEq,reduceEqDiff,reduceLT,reduceCtorEq,reduceAdd,reduceLeDiff]
 refine callStep (f143_ok hv hn hL p g fs cs H hF hp _ fun H2 hU2 hF2=>?_)
 have hq:=idxP_any p L 0
 simp (maxSteps:=999999) only [gx,fx2,Nat.reduceBEq,reduceEqDiff,reduceLT,reduceCtorEq,reduceAdd,reduceLeDiff,hq]
 exact hK _ hU2 hF2

theorem f226_ok {v : AV} {L : List (List AV)} (hv : ∀ H,Holds H 4 v L) (hn : L.length < 2 ^ 60) (hL : ∀ c ∈ L,c.length = 4) (p : List AV → Bool) (g : FuncId) (fs cs : List AV) (H : Heap) (hF : Free H)
  (hp : ∀ c ∈ L,∀ G,Up H G → Free G → ∀ K,(∀ G',Up G G' → Free G' → K (.bool (p c)) G') → WF Tryz.prog g (fs ++ [.agg c] ++ cs) G K)
  (K : AV → Heap → Prop) (hK : ∀ H',Up H H' → Free H' → K (.int .i64 (idxP p L 0)) H') : WF Tryz.prog 226 [v,.func (.func g) fs cs] H K:=by
 have hlen : ∀ G,evBuiltin Tryz.prog G .len #[22] [v] = some (.int .i64 L.length,G):=fun G=>(hv G).lenAt und22 G
 refine WF_body Tryz.func226 (by kernel_rfl) rfl Tryz.ntmps226 (by rw [Tryz.results226]) (of_decide_eq_true (by kernel_rfl)) ?_
 simp (maxSteps:=999999) only [gx,fx2,Nat.reduceBEq,reduceEqDiff,reduceLT,reduceCtorEq,reduceAdd,reduceLeDiff,hlen]
 refine loopStep' (fun env H'=>Up H H' ∧ Free H' ∧ ∃ (i : Nat),i ≤ L.length ∧ env.at (.tmp 8) = .int .i64 i ∧ env.at (.tmp 7) = .int .i64 L.length ∧ env.at (.tmp 0) = v ∧ env.at (.tmp 1) = .func (.func g) fs cs ∧ idxP p L 0 = idxP p (L.drop i) i)
  (fun env H'=>match env.at (.tmp 8) with | .int _ i=>((L.length : Int) - i).toNat | _=>0) ?_ ?_
 ·refine ⟨Up.refl _,hF,0,Nat.zero_le _,?_,?_,?_,?_,by simp⟩
  ·simp only [gx,fx2,Nat.reduceBEq,reduceEqDiff,reduceLT,reduceCtorEq,reduceAdd,reduceLeDiff];rfl
  ·simp only [gx,fx2,Nat.reduceBEq,reduceEqDiff,reduceLT,reduceCtorEq,reduceAdd,reduceLeDiff]
  ·simp only [gx,fx2,Nat.reduceBEq,reduceEqDiff,reduceLT,reduceCtorEq,reduceAdd,reduceLeDiff]
  ·simp only [gx,fx2,Nat.reduceBEq,reduceEqDiff,reduceLT,reduceCtorEq,reduceAdd,reduceLeDiff]
 ·rintro env H' ⟨hU,hF',i,hi,e8,e7,e0,e1,hx⟩
  by_cases hlt : i < L.length
  ·obtain ⟨c,hc⟩ : ∃ c,L[i]? = some c:=⟨_,List.getElem?_eq_getElem hlt⟩
   have hcl:=hL c (List.mem_of_getElem? hc)
   have htk : c.take 4 = c:=List.take_of_length_le (by omega)
   have hd : L.drop i = c :: L.drop (i + 1):=by
    rw [List.drop_eq_getElem_cons hlt]
    congr 1
    rw [List.getElem?_eq_getElem hlt] at hc
    exact Option.some.inj hc
   have hx' : idxP p L 0 = if p c = true then (i : Int) else idxP p (L.drop (i + 1)) (i + 1):=by
    rw [hx,hd];rfl
   simp (maxSteps:=999999) only [gx,fx2,Nat.reduceBEq,reduceEqDiff,reduceLT,reduceCtorEq,reduceAdd,reduceLeDiff,e8,e7,e0,e1,lt_true hlt,idx22 hv hc,hcl,htk]
   refine callStep (hp c (List.mem_of_getElem? hc) H' hU hF' _ fun H2 hU2 hF2=>?_)
   cases hb : p c
   ·rw [hb] at hx'
    simp (maxSteps:=999999) only [gx,fx2,Nat.reduceBEq,reduceEqDiff,reduceLT,reduceCtorEq,reduceAdd,reduceLeDiff,e8,e7,e0,e1,wrap_succ (i:=i) (by omega)]
    refine ⟨⟨hU.trans hU2,hF2,i + 1,hlt,rfl,by simpa using hx'⟩,?_⟩
    omega
   ·rw [hb] at hx'
    simp (maxSteps:=999999) only [gx,fx2,Nat.reduceBEq,reduceEqDiff,reduceLT,reduceCtorEq,reduceAdd,reduceLeDiff,e8,e7,e0,e1]
    have:=hK H2 (hU.trans hU2) hF2
    rw [hx'] at this
    exact this
  ·obtain rfl : i = L.length:=by omega
   simp (maxSteps:=999999) only [gx,fx2,Nat.reduceBEq,reduceEqDiff,reduceLT,reduceCtorEq,reduceAdd,reduceLeDiff,e8,e7,e0,e1,lt_false hlt]
   have:=hK H' hU hF'
   rw [hx] at this
   simpa [idxP] using this
theorem f129_ok {v : AV} {L : List (List AV)} (hv : ∀ H,Holds H 4 v L) (hn : L.length < 2 ^ 60) (hL : ∀ c ∈ L,c.length = 4) (p : List AV → Bool) (g : FuncId) (fs cs : List AV) (H : Heap) (hF : Free H)
  (hp : ∀ c ∈ L,∀ G,Up H G → Free G → ∀ K,(∀ G',Up G G' → Free G' → K (.bool (p c)) G') → WF Tryz.prog g (fs ++ [.agg c] ++ cs) G K)
  (K : AV → Heap → Prop) (hK : ∀ H',Up H H' → Free H' → K (.bool (L.any p)) H') : WF Tryz.prog 129 [v,.func (.func g) fs cs] H K:=by
 refine WF_body Tryz.func129 (by kernel_rfl) rfl Tryz.ntmps129 (by rw [Tryz.results129]) (of_decide_eq_true (by kernel_rfl)) ?_
 simp (maxSteps:=999999) only [gx,fx2,Nat.reduceBEq,reduceEqDiff,reduceLT,reduceCtorEq,reduceAdd,reduceLeDiff]
 refine callStep (f226_ok hv hn hL p g fs cs H hF hp _ fun H2 hU2 hF2=>?_)
 have hq:=idxP_any p L 0
 simp (maxSteps:=999999) only [gx,fx2,Nat.reduceBEq,reduceEqDiff,reduceLT,reduceCtorEq,reduceAdd,reduceLeDiff,hq]
 exact hK _ hU2 hF2

end Go.Proofs.T
