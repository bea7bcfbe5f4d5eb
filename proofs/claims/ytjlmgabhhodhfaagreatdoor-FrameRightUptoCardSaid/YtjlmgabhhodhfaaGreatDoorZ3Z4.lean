import Derived.Test.YtjlmgabhhodhfaaGreatDoorFTy3XD
import Derived.Test.YtjlmgabhhodhfaaGreatDoorX18
import Derived.Test.YtjlmgabhhodhfaaGreatDoorX7G1
set_option linter.unusedVariables false
set_option linter.unusedSimpArgs false
set_option maxRecDepth 100000
namespace Go.Proofs.T
open Go.Ev
open Nat (reduceMul reducePow reduceSub reduceEqDiff reduceLT reduceAdd reduceLeDiff)
open UInt8 (reduceToNat)
def nI (c : List AV) (i : Nat) : Int:=match c.getD i .undef with | .int _ k=>k | _=>0
def UndT (n : Nat) (c : List AV) : Prop:=∃ (f : Int) (va : AV) (La : List (List AV)),c = [.int .i64 f,va] ∧ (∀ H,Holds H 5 va La) ∧ (∀ x ∈ La,VT n x) ∧ La.length * 80 ≤ 140737488355328
def MrkT (n : Nat) (c : List AV) : Prop:=∃ (k t s h : Int) (vu : AV) (Lu : List (List AV)) (a0 a1 a2 a3 a4 : AV),c = [.int .i64 k,.int .i64 t,.int .i64 s,.int .i64 h,vu,a0,a1,a2,a3,a4] ∧ (∀ H,Holds H 2 vu Lu) ∧ (∀ x ∈ Lu,UndT n x) ∧ Lu.length < 2 ^ 60 ∧ VT n [a0,a1,a2,a3,a4]
def FrmT (n : Nat) (c : List AV) : Prop:=∃ (f p : Int) (vs vt vm : AV) (Ls Lt Lm : List (List AV)),c = [.int .i64 f,.int .i64 p,vs,vt,vm] ∧ (∀ H,Holds H 5 vs Ls) ∧ (∀ H,Holds H 5 vt Lt) ∧ (∀ H,Holds H 10 vm Lm) ∧ (∀ x ∈ Ls,VT n x) ∧ (∀ x ∈ Lt,VT n x) ∧ (∀ x ∈ Lm,MrkT n x) ∧ Ls.length * 80 ≤ 140737488355328 ∧ Lt.length * 80 ≤ 140737488355328 ∧ Lm.length < 2 ^ 60
theorem UndT.len {n : Nat} {c : List AV} (h : UndT n c) : c.length = 2:=by obtain ⟨f,va,La,rfl,_⟩:=h;rfl
theorem MrkT.len {n : Nat} {c : List AV} (h : MrkT n c) : c.length = 10:=by obtain ⟨k,t,s,h,vu,Lu,a0,a1,a2,a3,a4,rfl,_⟩:=h;rfl
theorem FrmT.len {n : Nat} {c : List AV} (h : FrmT n c) : c.length = 5:=by obtain ⟨f,p,vs,vt,vm,Ls,Lt,Lm,rfl,_⟩:=h;rfl
def undoB (LF : List (List AV)) (c : List AV) : Bool:=belowV (nI c 0) LF.length && (((itm (c.getD 1 .undef)).length : Int) == prmF (LF.getD (nI c 0).toNat []))
def undosB (LF L : List (List AV)) : Bool:=decide (L.length ≤ 100) && L.all (undoB LF)
theorem idx28 {v : AV} {L : List (List AV)} (h : ∀ H,Holds H 5 v L) {i : Nat} {cs : List AV} (hi : L[i]? = some cs) (H : Heap) : evIndexAddr Tryz.prog H 28 v (.int .i64 i) = some (.iptr cs 0):=by
 rw [lst_at h hi]
 simp [evIndexAddr,und28,sz55,hi]
theorem idx53 {v : AV} {L : List (List AV)} (h : ∀ H,Holds H 10 v L) {i : Nat} {cs : List AV} (hi : L[i]? = some cs) (H : Heap) : evIndexAddr Tryz.prog H 53 v (.int .i64 i) = some (.iptr cs 0):=by
 rw [lst_at h hi]
 simp [evIndexAddr,und53,sz92,hi]
theorem idx90 {v : AV} {L : List (List AV)} (h : ∀ H,Holds H 2 v L) {i : Nat} {cs : List AV} (hi : L[i]? = some cs) (H : Heap) : evIndexAddr Tryz.prog H 90 v (.int .i64 i) = some (.iptr cs 0):=by
 rw [lst_at h hi]
 simp [evIndexAddr,und90,sz94,hi]
theorem f378_ok {v : AV} {L : List (List AV)} (hv : ∀ H,Holds H 2 v L) (hn : L.length < 2 ^ 60) (hL : ∀ c ∈ L,c.length = 2) (p : List AV → Bool) (g : FuncId) (fs cs : List AV) (H : Heap) (hF : Free H)
  (hp : ∀ c ∈ L,∀ G,Up H G → Free G → ∀ K,(∀ G',Up G G' → Free G' → K (.bool (p c)) G') → WF Tryz.prog g (fs ++ [.agg c] ++ cs) G K)
  (K : AV → Heap → Prop) (hK : ∀ H',Up H H' → Free H' → K (.int .i64 (idxP p L 0)) H') : WF Tryz.prog 378 [v,.func (.func g) fs cs] H K:=by
 have hlen : ∀ G,evBuiltin Tryz.prog G .len #[90] [v] = some (.int .i64 L.length,G):=fun G=>(hv G).lenAt und90 G
 refine WF_body Tryz.func378 (by kernel_rfl) rfl Tryz.ntmps378 (by rw [Tryz.results378]) (of_decide_eq_true (by kernel_rfl)) ?_
 simp (maxSteps:=999999) only [gx,fx2,fx3,Nat.reduceBEq,reduceEqDiff,reduceLT,reduceCtorEq,reduceAdd,reduceLeDiff,hlen]
 refine loopStep' (fun env H'=>Up H H' ∧ Free H' ∧ ∃ (i : Nat),i ≤ L.length ∧ env.at (.tmp 8) = .int .i64 i ∧ env.at (.tmp 7) = .int .i64 L.length ∧ env.at (.tmp 0) = v ∧ env.at (.tmp 1) = .func (.func g) fs cs ∧ idxP p L 0 = idxP p (L.drop i) i)
  (fun env H'=>match env.at (.tmp 8) with | .int _ i=>((L.length : Int) - i).toNat | _=>0) ?_ ?_
 ·refine ⟨Up.refl _,hF,0,Nat.zero_le _,?_,?_,?_,?_,by simp⟩
  ·simp only [gx,fx2,fx3,Nat.reduceBEq,reduceEqDiff,reduceLT,reduceCtorEq,reduceAdd,reduceLeDiff];rfl
  ·simp only [gx,fx2,fx3,Nat.reduceBEq,reduceEqDiff,reduceLT,reduceCtorEq,reduceAdd,reduceLeDiff]
  ·simp only [gx,fx2,fx3,Nat.reduceBEq,reduceEqDiff,reduceLT,reduceCtorEq,reduceAdd,reduceLeDiff]
  ·simp only [gx,fx2,fx3,Nat.reduceBEq,reduceEqDiff,reduceLT,reduceCtorEq,reduceAdd,reduceLeDiff]
 ·rintro env H' ⟨hU,hF',i,hi,e8,e7,e0,e1,hx⟩
  by_cases hlt : i < L.length
  ·obtain ⟨c,hc⟩ : ∃ c,L[i]? = some c:=⟨_,List.getElem?_eq_getElem hlt⟩
   have hcl:=hL c (List.mem_of_getElem? hc)
   have htk : c.take 2 = c:=List.take_of_length_le (by omega)
   have hd : L.drop i = c :: L.drop (i + 1):=by
    rw [List.drop_eq_getElem_cons hlt]
    congr 1
    rw [List.getElem?_eq_getElem hlt] at hc
    exact Option.some.inj hc
   have hx' : idxP p L 0 = if p c = true then (i : Int) else idxP p (L.drop (i + 1)) (i + 1):=by
    rw [hx,hd];rfl
   simp (maxSteps:=999999) only [gx,fx2,fx3,Nat.reduceBEq,reduceEqDiff,reduceLT,reduceCtorEq,reduceAdd,reduceLeDiff,e8,e7,e0,e1,lt_true hlt,idx90 hv hc,hcl,htk]
   refine callStep (hp c (List.mem_of_getElem? hc) H' hU hF' _ fun H2 hU2 hF2=>?_)
   cases hb : p c
   ·rw [hb] at hx'
    simp (maxSteps:=999999) only [gx,fx2,fx3,Nat.reduceBEq,reduceEqDiff,reduceLT,reduceCtorEq,reduceAdd,reduceLeDiff,e8,e7,e0,e1,wrap_succ (i:=i) (by omega)]
    refine ⟨⟨hU.trans hU2,hF2,i + 1,hlt,rfl,by simpa using hx'⟩,?_⟩
    omega
   ·rw [hb] at hx'
    simp (maxSteps:=999999) only [gx,fx2,fx3,Nat.reduceBEq,reduceEqDiff,reduceLT,reduceCtorEq,reduceAdd,reduceLeDiff,e8,e7,e0,e1]
    have:=hK H2 (hU.trans hU2) hF2
    rw [hx'] at this
    exact this
  ·obtain rfl : i = L.length:=by omega
   simp (maxSteps:=999999) only [gx,fx2,fx3,Nat.reduceBEq,reduceEqDiff,reduceLT,reduceCtorEq,reduceAdd,reduceLeDiff,e8,e7,e0,e1,lt_false hlt]
   have:=hK H' hU hF'
   rw [hx] at this
   simpa [idxP] using this
theorem f314_ok {v : AV} {L : List (List AV)} (hv : ∀ H,Holds H 2 v L) (hn : L.length < 2 ^ 60) (hL : ∀ c ∈ L,c.length = 2) (p : List AV → Bool) (g : FuncId) (fs cs : List AV) (H : Heap) (hF : Free H)
  (hp : ∀ c ∈ L,∀ G,Up H G → Free G → ∀ K,(∀ G',Up G G' → Free G' → K (.bool (p c)) G') → WF Tryz.prog g (fs ++ [.agg c] ++ cs) G K)
  (K : AV → Heap → Prop) (hK : ∀ H',Up H H' → Free H' → K (.bool (L.any p)) H') : WF Tryz.prog 314 [v,.func (.func g) fs cs] H K:=by
 refine WF_body Tryz.func314 (by kernel_rfl) rfl Tryz.ntmps314 (by rw [Tryz.results314]) (of_decide_eq_true (by kernel_rfl)) ?_
 simp (maxSteps:=999999) only [gx,fx2,fx3,Nat.reduceBEq,reduceEqDiff,reduceLT,reduceCtorEq,reduceAdd,reduceLeDiff]
 refine callStep (f378_ok hv hn hL p g fs cs H hF hp _ fun H2 hU2 hF2=>?_)
 have hq:=idxP_any p L 0
 simp (maxSteps:=999999) only [gx,fx2,fx3,Nat.reduceBEq,reduceEqDiff,reduceLT,reduceCtorEq,reduceAdd,reduceLeDiff,hq]
 exact hK _ hU2 hF2

theorem below_neg {f n : Int} (h : f < 0) : belowV f n = false:=by simp [belowV];omega
theorem below_ge {f n : Int} (h : f ≥ n) : belowV f n = false:=by simp [belowV];omega
theorem below_in {f n : Int} (h1 : ¬ f < 0) (h2 : ¬ f ≥ n) : belowV f n = true:=by simp [belowV];omega
theorem fun_at {LF : List (List AV)} (hL : ∀ c ∈ LF,FunC c) {f : Int} (h1 : ¬ f < 0) (h2 : ¬ f ≥ (LF.length : Int)) : ∃ (m : Nat) (nm : List Nat) (P S : Int) (v : AV),f = (m : Int) ∧ LF[m]? = some [.str nm,.int .i64 P,.int .i64 S,v] ∧ LF.getD m [] = [.str nm,.int .i64 P,.int .i64 S,v]:=by
 obtain ⟨m,rfl⟩:=Int.eq_ofNat_of_zero_le (show 0 ≤ f by omega)
 obtain ⟨c,hc⟩ : ∃ c,LF[m]? = some c:=⟨_,List.getElem?_eq_getElem (show m < LF.length by omega)⟩
 obtain ⟨nm,P,S,v,rfl⟩:=hL c (List.mem_of_getElem? hc)
 exact ⟨m,nm,P,S,v,rfl,hc,by rw [List.getD_eq_getElem?_getD,hc];rfl⟩
theorem undo_eq (LF : List (List AV)) {f : Int} {va : AV} {La : List (List AV)} (hv : ∀ H,Holds H 5 va La) : undoB LF [.int .i64 f,va] = (belowV f LF.length && ((La.length : Int) == prmF (LF.getD f.toNat []))):=by rw [← itm_eq hv];rfl
set_option maxHeartbeats 4000000 in
theorem f315_ok {n : Nat} {vF vG vI vH : AV} {LF : List (List AV)} (hFv : ∀ H,Holds H 4 vF LF) (hL : ∀ c ∈ LF,FunC c) {c : List AV} (hc : UndT n c) (bx bt mb : Nat) (H : Heap) (hF : Free H) (hx : H.blk bx = some (.row 134 5 [[vF,vG,vI,vH,.map mb]] 0 0)) (ht : H.blk bt = some (.row 131 1 [[.ptr bx 0 0 0]] 0 0)) (K : AV → Heap → Prop) (hK : ∀ H',Up H H' → Free H' → K (.bool (!undoB LF c)) H') : WF Tryz.prog 315 [.agg c,.ptr bt 0 0 0] H K:=by
 obtain ⟨f,va,La,rfl,hv,_,hn⟩:=hc
 have hlF : ∀ G,evBuiltin Tryz.prog G .len #[22] [vF] = some (.int .i64 LF.length,G):=fun G=>(hFv G).lenAt und22 G
 have hlv : ∀ G,evBuiltin Tryz.prog G .len #[24] [va] = some (.int .i64 La.length,G):=fun G=>(hv G).lenAt und24 G
 have ca:=holds_cell (hv H)
 refine WF_body Tryz.func315 (by kernel_rfl) rfl Tryz.ntmps315 (by rw [Tryz.results315]) (of_decide_eq_true (by kernel_rfl)) ?_
 simp (maxSteps:=999999) only [ey,Nat.reduceBEq,reduceEqDiff,reduceLT,reduceCtorEq,reduceAdd,reduceLeDiff,hF.at,hF.hp,ca]
 generalize hH1 : HP H [Blk.row 94 2 [[.int .i64 f,va]] 0 0] = H1
 have hb : H1.blk H.next = some (.row 94 2 [[.int .i64 f,va]] 0 0):=by rw [← hH1,hp_blk0];rfl
 have hF1 : Free H1:=hH1 ▸ hF.hpF _
 have hU1 : Up H H1:=hH1 ▸ hF.hpU _
 have hx1:=hU1 _ _ hx
 have ht1:=hU1 _ _ ht
 by_cases c1 : f < 0
 ·refine drawStep [] [0,1,2,3,4,5,6,7,8,9,10,11,12,13,14,15,16,17,18,19,20,21,22,23,24,25,26,27,28,29,30] _ rfl (by kernel_rfl) ?_
  simp (maxSteps:=999999) only [ey,Nat.reduceBEq,reduceEqDiff,reduceLT,reduceCtorEq,reduceAdd,reduceLeDiff,hb,hx1,ht1,c1,ca]
  have:=hK _ hU1 hF1
  rw [undo_eq LF hv,below_neg c1] at this
  exact this
 by_cases c2 : f ≥ (LF.length : Int)
 ·refine drawStep [] [0,1,2,3,4,5,6,7,8,9,10,11,12,13,14,15,16,17,18,19,20,21,22,23,24,25,26,27,28,29,30] _ rfl (by kernel_rfl) ?_
  simp (maxSteps:=999999) only [ey,Nat.reduceBEq,reduceEqDiff,reduceLT,reduceCtorEq,reduceAdd,reduceLeDiff,hb,hx1,ht1,c1,c2,ca,hlF]
  have:=hK _ hU1 hF1
  rw [undo_eq LF hv,below_ge c2] at this
  exact this
 obtain ⟨m,nm,P,S,v,rfl,hcm,hgd⟩:=fun_at hL c1 c2
 have hix:=idx22 hFv hcm
 have hq : undoB LF [.int .i64 m,va] = ((La.length : Int) == P):=by rw [undo_eq LF hv,below_in c1 c2,Int.toNat_natCast,hgd];rfl
 rw [hq] at hK
 refine drawStep [] [0,1,2,3,4,5,6,7,8,9,10,11,12,13,14,15,16,17,18,19,20,21,22,23,24,25,26,27,28,29,30] _ rfl (by kernel_rfl) ?_
 simp (maxSteps:=999999) only [ey,Nat.reduceBEq,reduceEqDiff,reduceLT,reduceCtorEq,reduceAdd,reduceLeDiff,hb,hx1,ht1,c1,c2,ca,hlF,hlv,hix]
 exact hK _ hU1 hF1
set_option maxHeartbeats 4000000 in
theorem f243_ok {n : Nat} {vF vG vI vH vu : AV} {LF Lu : List (List AV)} (hFv : ∀ H,Holds H 4 vF LF) (hL : ∀ c ∈ LF,FunC c) (hu : ∀ H,Holds H 2 vu Lu) (hLu : ∀ c ∈ Lu,UndT n c) (hn : Lu.length < 2 ^ 60) (bx mb : Nat) (H : Heap) (hF : Free H) (hx : H.blk bx = some (.row 134 5 [[vF,vG,vI,vH,.map mb]] 0 0)) (K : AV → Heap → Prop) (hK : ∀ H',Up H H' → Free H' → K (.bool (undosB LF Lu)) H') : WF Tryz.prog 243 [.ptr bx 0 0 0,vu] H K:=by
 have hlu : ∀ G,evBuiltin Tryz.prog G .len #[90] [vu] = some (.int .i64 Lu.length,G):=fun G=>(hu G).lenAt und90 G
 refine WF_body Tryz.func243 (by kernel_rfl) rfl Tryz.ntmps243 (by rw [Tryz.results243]) (of_decide_eq_true (by kernel_rfl)) ?_
 simp (maxSteps:=999999) only [ey,Nat.reduceBEq,reduceEqDiff,reduceLT,reduceCtorEq,reduceAdd,reduceLeDiff,hF.at,hF.hp]
 generalize hH1 : HP H [Blk.row 131 1 [[.ptr bx 0 0 0]] 0 0] = H1
 have hb : H1.blk H.next = some (.row 131 1 [[.ptr bx 0 0 0]] 0 0):=by rw [← hH1,hp_blk0];rfl
 have hF1 : Free H1:=hH1 ▸ hF.hpF _
 have hU1 : Up H H1:=hH1 ▸ hF.hpU _
 by_cases c1 : (Lu.length : Int) ≤ 100
 ·simp (maxSteps:=999999) only [ey,Nat.reduceBEq,reduceEqDiff,reduceLT,reduceCtorEq,reduceAdd,reduceLeDiff,hlu,c1,decide_true]
  refine callStep (f314_ok hu hn (fun c hc=>(hLu c hc).len) (fun c=>!undoB LF c) 315 [] [.ptr H.next 0 0 0] H1 hF1 (fun c hc G hU hG K hK=>f315_ok hFv hL (hLu c hc) bx H.next mb G hG (hU _ _ (hU1 _ _ hx)) (hU _ _ hb) K hK) _ fun H2 hU2 hF2=>?_)
  simp (maxSteps:=999999) only [ey,Nat.reduceBEq,reduceEqDiff,reduceLT,reduceCtorEq,reduceAdd,reduceLeDiff]
  have:=hK _ (hU1.trans hU2) hF2
  have q : undosB LF Lu = !(Lu.any fun c=>!undoB LF c):=by
   unfold undosB
   rw [decide_eq_true (show Lu.length ≤ 100 by omega),Bool.true_and,List.not_any_eq_all_not]
   simp
  rw [q] at this
  exact this
 ·simp (maxSteps:=999999) only [ey,Nat.reduceBEq,reduceEqDiff,reduceLT,reduceCtorEq,reduceAdd,reduceLeDiff,hlu,c1,decide_false]
  have:=hK _ hU1 hF1
  have q : undosB LF Lu = false:=by
   unfold undosB
   rw [decide_eq_false (show ¬ Lu.length ≤ 100 by omega),Bool.false_and]
  rw [q] at this
  exact this
set_option maxHeartbeats 8000000 in
theorem f154_ok {n : Nat} {vF vG vI vH vu : AV} {LF Lu : List (List AV)} (hFv : ∀ H,Holds H 4 vF LF) (hL : ∀ c ∈ LF,FunC c) (cG : vG.isCell = true) (cI : vI.isCell = true) (cH : vH.isCell = true) (hu : ∀ H,Holds H 2 vu Lu) (hLu : ∀ c ∈ Lu,UndT n c) (hn : Lu.length < 2 ^ 60) (H : Heap) (hF : Free H) (K : AV → Heap → Prop) (hK : ∀ H',Up H H' → Free H' → K (.bool (undosB LF Lu)) H') : WF Tryz.prog 154 [.agg [vF,vG,vI,vH],vu] H K:=by
 have hlF : ∀ G,evBuiltin Tryz.prog G .len #[22] [vF] = some (.int .i64 LF.length,G):=fun G=>(hFv G).lenAt und22 G
 have hlu : ∀ G,evBuiltin Tryz.prog G .len #[90] [vu] = some (.int .i64 Lu.length,G):=fun G=>(hu G).lenAt und90 G
 have cF:=holds_cell (hFv H)
 refine WF_body Tryz.func154 (by kernel_rfl) rfl Tryz.ntmps154 (by rw [Tryz.results154]) (of_decide_eq_true (by kernel_rfl)) ?_
 simp (maxSteps:=999999) only [ey,Nat.reduceBEq,reduceEqDiff,reduceLT,reduceCtorEq,reduceAdd,reduceLeDiff,hF.at,hF.hp,cF,cG,cI,cH]
 generalize hH1 : HP H [Blk.row 27 4 [[vF,vG,vI,vH]] 0 0] = H1
 have hb : H1.blk H.next = some (.row 27 4 [[vF,vG,vI,vH]] 0 0):=by rw [← hH1,hp_blk0];rfl
 have hF1 : Free H1:=hH1 ▸ hF.hpF _
 have hU1 : Up H H1:=hH1 ▸ hF.hpU _
 refine loopStep' (fun env H'=>H' = H1 ∧ ∃ i : Nat,i ≤ Lu.length ∧ env.at (.tmp 5) = .int .i64 i ∧ env.at (.tmp 1) = vu ∧ env.at (.tmp 2) = .ptr H.next 0 0 0 ∧ Lu.all (undoB LF) = (Lu.drop i).all (undoB LF))
  (fun env H'=>match env.at (.tmp 5) with | .int _ i=>((Lu.length : Int) - i).toNat | _=>0) ?_ ?_
 ·exact ⟨rfl,0,Nat.zero_le _,by simp only [ey,Nat.reduceBEq,reduceEqDiff,reduceLT,reduceCtorEq,reduceAdd,reduceLeDiff];rfl,by simp only [ey,Nat.reduceBEq,reduceEqDiff,reduceLT,reduceCtorEq,reduceAdd,reduceLeDiff],by simp only [ey,Nat.reduceBEq,reduceEqDiff,reduceLT,reduceCtorEq,reduceAdd,reduceLeDiff],by simp⟩
 rintro env H' ⟨rfl,i,hi,e5,e1,e2,ha⟩
 by_cases hlt : i < Lu.length
 ·obtain ⟨c,hc⟩ : ∃ c,Lu[i]? = some c:=⟨_,List.getElem?_eq_getElem hlt⟩
  have hd : Lu.drop i = c :: Lu.drop (i + 1):=by
   rw [List.drop_eq_getElem_cons hlt]
   congr 1
   rw [List.getElem?_eq_getElem hlt] at hc
   exact Option.some.inj hc
  rw [hd,List.all_cons] at ha
  have hixu:=idx90 hu hc
  obtain ⟨f,va,La,rfl,hv,_,hnv⟩:=hLu c (List.mem_of_getElem? hc)
  have hlv : ∀ G,evBuiltin Tryz.prog G .len #[24] [va] = some (.int .i64 La.length,G):=fun G=>(hv G).lenAt und24 G
  have stop : undoB LF [.int .i64 f,va] = false → undosB LF Lu = false:=fun q=>by unfold undosB;rw [ha,q,Bool.false_and,Bool.and_false]
  simp (maxSteps:=999999) only [ey,Nat.reduceBEq,reduceEqDiff,reduceLT,reduceCtorEq,reduceAdd,reduceLeDiff,e5,e1,e2,hlu,lt_true hlt]
  by_cases c1 : f < 0
  ·refine drawStep [] [0,1,2,3,4,5,6,7,8,9,10,11,12,13,14,15,16,17,18,19,20,21,22,23,24,25,26,27,28,29,30,31,32,33,34,35] _ rfl (by kernel_rfl) ?_
   simp (maxSteps:=999999) only [ey,Nat.reduceBEq,reduceEqDiff,reduceLT,reduceCtorEq,reduceAdd,reduceLeDiff,e5,e1,e2,hixu,hb,c1]
   have:=hK _ hU1 hF1
   rw [stop (by rw [undo_eq LF hv,below_neg c1];rfl)] at this
   exact this
  by_cases c2 : f ≥ (LF.length : Int)
  ·refine drawStep [] [0,1,2,3,4,5,6,7,8,9,10,11,12,13,14,15,16,17,18,19,20,21,22,23,24,25,26,27,28,29,30,31,32,33,34,35] _ rfl (by kernel_rfl) ?_
   simp (maxSteps:=999999) only [ey,Nat.reduceBEq,reduceEqDiff,reduceLT,reduceCtorEq,reduceAdd,reduceLeDiff,e5,e1,e2,hixu,hb,c1,c2,hlF]
   have:=hK _ hU1 hF1
   rw [stop (by rw [undo_eq LF hv,below_ge c2];rfl)] at this
   exact this
  obtain ⟨m,nm,P,S,v,rfl,hcm,hgd⟩:=fun_at hL c1 c2
  have hix:=idx22 hFv hcm
  have hq : undoB LF [.int .i64 m,va] = ((La.length : Int) == P):=by rw [undo_eq LF hv,below_in c1 c2,Int.toNat_natCast,hgd];rfl
  refine drawStep [] [0,1,2,3,4,5,6,7,8,9,10,11,12,13,14,15,16,17,18,19,20,21,22,23,24,25,26,27,28,29,30,31,32,33,34,35] _ rfl (by kernel_rfl) ?_
  cases c3 : ((La.length : Int) == P) with
  | false=>
   simp (maxSteps:=999999) only [ey,Nat.reduceBEq,reduceEqDiff,reduceLT,reduceCtorEq,reduceAdd,reduceLeDiff,e5,e1,e2,hixu,hb,c1,c2,hlF,hlv,hix,show ((La.length : Int) != P) = true from by rw [bne,c3];rfl]
   have:=hK _ hU1 hF1
   rw [stop (by rw [hq,c3])] at this
   exact this
  | true=>
   simp (maxSteps:=999999) only [ey,Nat.reduceBEq,reduceEqDiff,reduceLT,reduceCtorEq,reduceAdd,reduceLeDiff,e5,e1,e2,hixu,hb,c1,c2,hlF,hlv,hix,show ((La.length : Int) != P) = false from by rw [bne,c3];rfl,wrap_succ (i:=i) (by omega)]
   refine ⟨⟨i + 1,hlt,rfl,?_⟩,by omega⟩
   rw [ha,hq,c3,Bool.true_and]
 ·obtain rfl : i = Lu.length:=by omega
  simp (maxSteps:=999999) only [ey,Nat.reduceBEq,reduceEqDiff,reduceLT,reduceCtorEq,reduceAdd,reduceLeDiff,e5,e1,e2,hlu,lt_false hlt]
  have:=hK _ hU1 hF1
  have q : undosB LF Lu = decide ((Lu.length : Int) ≤ 100):=by
   unfold undosB
   rw [ha,List.drop_length,List.all_nil,Bool.and_true]
   by_cases hh : Lu.length ≤ 100
   ·rw [decide_eq_true hh,decide_eq_true (by omega)]
   ·rw [decide_eq_false hh,decide_eq_false (by omega)]
  rw [q] at this
  exact this
noncomputable def hgtB (L : List (List AV)) (a : Int) : Int:=if a < 0 ∨ a ≥ (L.length : Int) then -1 else hat (htsL L) a.toNat
noncomputable def markB (LF L : List (List AV)) (nS : Int) (inner : Bool) (c : List AV) : Bool:=(nI c 3 == 0) &&
  (if nI c 0 = 1 then (hgtB L (nI c 1) == 0) && decide (nI c 2 ≥ 0) && decide (nI c 2 < nS) && (((itm (c.getD 4 .undef)).length : Int) == 0) && zeroV (c.drop 5) else
   if nI c 0 = 2 then ((nI c 1 == 0) && (nI c 2 == 0)) && zeroV (c.drop 5) && undosB LF (itm (c.getD 4 .undef)) else
   if nI c 0 = 3 then ((nI c 1 == 0) && (nI c 2 == 0)) && inner && undosB LF (itm (c.getD 4 .undef)) else false)
theorem mark_eq (LF L : List (List AV)) (nS : Int) (inner : Bool) {k t s h : Int} {vu a0 a1 a2 a3 a4 : AV} {Lu : List (List AV)} (hu : ∀ H,Holds H 2 vu Lu) : markB LF L nS inner [.int .i64 k,.int .i64 t,.int .i64 s,.int .i64 h,vu,a0,a1,a2,a3,a4] = ((h == 0) &&
  (if k = 1 then (hgtB L t == 0) && decide (s ≥ 0) && decide (s < nS) && ((Lu.length : Int) == 0) && zeroV [a0,a1,a2,a3,a4] else
   if k = 2 then ((t == 0) && (s == 0)) && zeroV [a0,a1,a2,a3,a4] && undosB LF Lu else
   if k = 3 then ((t == 0) && (s == 0)) && inner && undosB LF Lu else false)):=by rw [← itm_eq hu];rfl
def undoingB (Lm : List (List AV)) : Bool:=decide (0 < Lm.length) && (nI (Lm.getD (Lm.length - 1) []) 0 == 3)
def opnV (last : Bool) (Lm L : List (List AV)) (p nf nW : Int) (sel : Bool) (h : Int) : Int:=
 if last = false then (if undoingB Lm = true then 0 else if 1 ≤ p ∧ p ≤ (L.length : Int) ∧ opI (L.getD (p - 1).toNat []) = 17 ∧ aI (L.getD (p - 1).toNat []) = nf then h - 1 else -1) else
 if nW = 0 then h else
 if 1 ≤ p ∧ p ≤ (L.length : Int) ∧ (opI (L.getD (p - 1).toNat []) = 26 ∧ sel = false ∧ nW = 1 ∨ opI (L.getD (p - 1).toNat []) = 27 ∧ bI (L.getD (p - 1).toNat []) = 0 ∧ aI (L.getD (p - 1).toNat []) = nW ∧ sel = true) then h - 1 else -1
def waitsB (L : List (List AV)) (p nT nW : Int) (sel : Bool) (h : Int) : Bool:=
 if nW = 0 then (nT == h) && !sel else
 if p < 1 ∨ nT ≠ h - 1 then false else
 if sel = true then (opI (L.getD (p - 1).toNat []) == 27) && (bI (L.getD (p - 1).toNat []) == 0) && (aI (L.getD (p - 1).toNat []) == nW) else (opI (L.getD (p - 1).toNat []) == 26) && (nW == 1)
def outerB (Lm L : List (List AV)) (p nT nf h : Int) : Bool:=
 if undoingB Lm = true then nT == 0 else
 if p < 1 ∨ nT ≠ h - 1 then false else (opI (L.getD (p - 1).toNat []) == 17) && (aI (L.getD (p - 1).toNat []) == nf)
theorem opd_outer {Lm L : List (List AV)} {p nT nf nW h : Int} {sel : Bool} (hT : 0 ≤ nT) (hp : p ≤ (L.length : Int)) : (nT == opnV false Lm L p nf nW sel h) = outerB Lm L p nT nf h:=by
 unfold opnV outerB
 rw [if_pos rfl]
 by_cases c1 : undoingB Lm = true
 ·rw [if_pos c1,if_pos c1]
 rw [if_neg c1,if_neg c1]
 by_cases c2 : p < 1
 ·rw [if_neg (fun h=>by omega),if_pos (.inl c2)];simp;omega
 by_cases c3 : nT = h - 1
 ·rw [if_neg (show ¬ (p < 1 ∨ nT ≠ h - 1) by omega)]
  by_cases c4 : opI (L.getD (p - 1).toNat []) = 17 ∧ aI (L.getD (p - 1).toNat []) = nf
  ·rw [if_pos ⟨by omega,hp,c4⟩,c4.1,c4.2,c3];simp
  ·rw [if_neg (fun h=>c4 h.2.2)]
   rw [show (nT == -1) = false by simp;omega]
   symm
   simp only [Bool.and_eq_false_iff,beq_eq_false_iff_ne]
   omega
 ·rw [if_pos (show p < 1 ∨ nT ≠ h - 1 from .inr c3)]
  split <;> (simp;omega)
theorem opd_waits {Lm L : List (List AV)} {p nT nf nW h : Int} {sel : Bool} (hT : 0 ≤ nT) (hp : p ≤ (L.length : Int)) (hs : nW = 0 → sel = false) : (nT == opnV true Lm L p nf nW sel h) = waitsB L p nT nW sel h:=by
 unfold opnV waitsB
 rw [if_neg (by simp)]
 by_cases c1 : nW = 0
 ·rw [if_pos c1,if_pos c1,hs c1];simp
 rw [if_neg c1,if_neg c1]
 by_cases c2 : p < 1
 ·rw [if_neg (fun h=>by omega),if_pos (.inl c2)];simp;omega
 by_cases c3 : nT = h - 1
 ·rw [if_neg (show ¬ (p < 1 ∨ nT ≠ h - 1) by omega)]
  generalize opI (L.getD (p - 1).toNat []) = o
  generalize aI (L.getD (p - 1).toNat []) = a
  generalize bI (L.getD (p - 1).toNat []) = b
  cases sel
  ·rw [if_neg (show ¬ (false = true) by simp)]
   by_cases c4 : o = 26 ∧ nW = 1
   ·rw [if_pos ⟨by omega,hp,.inl ⟨c4.1,rfl,c4.2⟩⟩,c4.1,c4.2,c3];simp
   ·rw [if_neg (fun h=>by rcases h.2.2 with h | h;exact c4 ⟨h.1,h.2.2⟩;cases h.2.2.2)]
    rw [show (nT == -1) = false by simp;omega]
    symm
    simp only [Bool.and_eq_false_iff,beq_eq_false_iff_ne]
    omega
  ·rw [if_pos rfl]
   by_cases c4 : o = 27 ∧ b = 0 ∧ a = nW
   ·rw [if_pos ⟨by omega,hp,.inr ⟨c4.1,c4.2.1,c4.2.2,rfl⟩⟩,c4.1,c4.2.1,c4.2.2,c3];simp
   ·rw [if_neg (fun h=>by rcases h.2.2 with h | h;cases h.2.1;exact c4 ⟨h.1,h.2.1,h.2.2.1⟩)]
    rw [show (nT == -1) = false by simp;omega]
    symm
    simp only [Bool.and_eq_false_iff,beq_eq_false_iff_ne]
    omega
 ·rw [if_pos (show p < 1 ∨ nT ≠ h - 1 from .inr c3)]
  split <;> (simp;omega)
set_option maxHeartbeats 8000000 in
theorem f70_ok {n fn : Nat} {vF vG vI vH v vs vt vm : AV} {nm : List Nat} {P S p : Int} {LF L : List (List AV)} (hFv : ∀ H,Holds H 4 vF LF) (cG : vG.isCell = true) (cI : vI.isCell = true) (cH : vH.isCell = true) (hc : LF[fn]? = some [.str nm,.int .i64 P,.int .i64 S,v]) (hv : ∀ H,Holds H 9 v L) (hL : ∀ c ∈ L,InsT n c) (hL0 : L.length < 2 ^ 60) (cs : vs.isCell = true) (ct : vt.isCell = true) (cm : vm.isCell = true) (H : Heap) (hF : Free H) (K : AV → Heap → Prop) (hK1 : ∀ (j : Nat) c,p = (j : Int) + 1 → L[j]? = some c → ∀ H',Up H H' → Free H' → K (.tuple [.agg c,.bool true]) H') (hK2 : p < 1 ∨ p > (L.length : Int) → ∀ H',Up H H' → Free H' → K (.tuple [.agg [.int .i64 0,.int .i64 0,.int .i64 0,.str [],.int .i64 0,.int .i64 0,.str [],.nilslice,.nilslice],.bool false]) H') : WF Tryz.prog 70 [.agg [vF,vG,vI,vH],.agg [.int .i64 (fn : Int),.int .i64 p,vs,vt,vm]] H K:=by
 have hlF : ∀ G,evBuiltin Tryz.prog G .len #[22] [vF] = some (.int .i64 LF.length,G):=fun G=>(hFv G).lenAt und22 G
 have hlv : ∀ G,evBuiltin Tryz.prog G .len #[83] [v] = some (.int .i64 L.length,G):=fun G=>(hv G).lenAt und83 G
 have cF:=holds_cell (hFv H)
 have hix:=idx22 hFv hc
 have hfn : fn < LF.length:=(List.getElem?_eq_some_iff.1 hc).1
 have hn0 : ((fn : Int) < 0) = False:=eq_false (by omega)
 have hn1 : ((fn : Int) ≥ (LF.length : Int)) = False:=eq_false (by omega)
 refine WF_body Tryz.func70 (by kernel_rfl) rfl Tryz.ntmps70 (by rw [Tryz.results70]) (of_decide_eq_true (by kernel_rfl)) ?_
 simp (maxSteps:=999999) only [ey,Nat.reduceBEq,reduceEqDiff,reduceLT,reduceCtorEq,reduceAdd,reduceLeDiff,hF.at,hF.hp,cF,cG,cI,cH,cs,ct,cm]
 generalize hH1 : HP H [Blk.row 27 4 [[vF,vG,vI,vH]] 0 0,Blk.row 55 5 [[.int .i64 (fn : Int),.int .i64 p,vs,vt,vm]] 0 0,Blk.row 104 9 [[.int .i64 0,.int .i64 0,.int .i64 0,.str [],.int .i64 0,.int .i64 0,.str [],.nilslice,.nilslice]] 0 0] = H1
 have b0 : H1.blk H.next = some (.row 27 4 [[vF,vG,vI,vH]] 0 0):=by rw [← hH1,hp_blk0];rfl
 have b1 : H1.blk (H.next + 1) = some (.row 55 5 [[.int .i64 (fn : Int),.int .i64 p,vs,vt,vm]] 0 0):=by rw [← hH1,hp_blk];rfl
 have b2 : H1.blk (H.next + 2) = some (.row 104 9 [[.int .i64 0,.int .i64 0,.int .i64 0,.str [],.int .i64 0,.int .i64 0,.str [],.nilslice,.nilslice]] 0 0):=by rw [← hH1,hp_blk];rfl
 have hF1 : Free H1:=hH1 ▸ hF.hpF _
 have hU1 : Up H H1:=hH1 ▸ hF.hpU _
 have hUs : ∀ y,Up H (H1.set (H.next + 2) y):=fun y=>hU1.set (hF _ (by omega)) _
 have hFs : ∀ y,Free (H1.set (H.next + 2) y):=fun y=>hF1.set (hF1.lt b2) _
 refine drawStep [] [0,1,2,3,4,5,6,7,8,9,10,11,12,13,14,15,16,17,18,19,20,21,22,23,24,25,26,27,28] _ rfl (by kernel_rfl) ?_
 by_cases c1 : p < 1
 ·simp (maxSteps:=999999) only [ey,Nat.reduceBEq,reduceEqDiff,reduceLT,reduceCtorEq,reduceAdd,reduceLeDiff,b0,b1,b2,hlF,hn0,hn1,c1]
  exact hK2 (.inl c1) _ (hUs _) (hFs _)
 by_cases c2 : p > (L.length : Int)
 ·simp (maxSteps:=999999) only [ey,Nat.reduceBEq,reduceEqDiff,reduceLT,reduceCtorEq,reduceAdd,reduceLeDiff,b0,b1,b2,hlF,hlv,hix,hn0,hn1,c1,c2]
  exact hK2 (.inr c2) _ (hUs _) (hFs _)
 obtain ⟨j,rfl⟩ : ∃ j : Nat,p = (j : Int) + 1:=⟨(p - 1).toNat,by omega⟩
 obtain ⟨c,hcj⟩ : ∃ c,L[j]? = some c:=⟨_,List.getElem?_eq_getElem (show j < L.length by omega)⟩
 have hixc:=idx83 hv hcj
 have hcm:=hL c (List.mem_of_getElem? hcj)
 have hK1':=hK1 j c rfl hcj
 obtain ⟨op,a,b,t,V,rfl,hV⟩:=hcm
 obtain ⟨d0,d1,d2,d3,d4,rfl⟩:=five hV.len
 have hVc:=hV.cells
 simp only [List.all_cons,List.all_nil,Bool.and_true,Bool.and_eq_true] at hVc
 obtain ⟨i0,i1,i2,i3,i4⟩:=hVc
 simp only [List.cons_append,List.nil_append] at hcj hixc hK1'
 have w1 : IntKind.i64.wrap ((j : Int) + 1 - 1) = (j : Int):=by rw [show (j : Int) + 1 - 1 = (j : Int) by omega,IntWalk.i64_in _ (by omega)]
 simp (maxSteps:=999999) only [ey,Nat.reduceBEq,reduceEqDiff,reduceLT,reduceCtorEq,reduceAdd,reduceLeDiff,b0,b1,b2,hlF,hlv,hix,hn0,hn1,c1,c2]
 refine drawStep [] [0,1,2,3,4,5,6,7,8,9,10,11,12,13] _ rfl (by kernel_rfl) ?_
 simp (maxSteps:=999999) only [ey,Nat.reduceBEq,reduceEqDiff,reduceLT,reduceCtorEq,reduceAdd,reduceLeDiff,b0,b1,b2,hlF,hlv,hix,hn0,hn1,c1,c2,w1,hixc,i0,i1,i2,i3,i4]
 exact hK1' _ (hUs _) (hFs _)
end Go.Proofs.T
