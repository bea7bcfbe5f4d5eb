import Derived.Test.YtjlmgabhhodhfaaGreatDoorK1K3
import Derived.Test.YtjlmgabhhodhfaaGreatDoorK4aK4c
set_option linter.unusedVariables false
set_option linter.unusedSimpArgs false
namespace Go.Ev
open Go.RowKit
section
variable {P : Program}

theorem load_next (B : Nat → Option Blk) (m k : Nat) (a : AV) (n : Nat) : Heap.load ⟨B,m⟩ a n = Heap.load ⟨B,k⟩ a n:=by
 cases a <;> rfl

theorem results_next {env : Env} {B : Nat → Option Blk} (m k : Nat) : ∀ (rs : List ResultVar),evResultsL P env ⟨B,m⟩ rs = evResultsL P env ⟨B,k⟩ rs
 | []=>rfl
 | r :: rs=>by
  have h : evResult P env ⟨B,m⟩ r = evResult P env ⟨B,k⟩ r:=by
   cases r with
   | tmp t=>rfl
   | cell a t=>simp only [evResult,load_next B m k]
  simp only [evResultsL,h,results_next m k rs]

theorem EvS.renext {n : Nat} {ops : Array Oper} {l : List Nat} {env : Env} {H : Heap} {env' : Env} {H' : Heap} (h : EvS P n ops l env H env' H') (m : Nat) : EvS P n ops l env ⟨H.blk,m⟩ env' H':=
 .hint _ _ _ H.next _ _ _ _ h

mutual
theorem EvC.renext : ∀ {n : Nat} {c : Code} {env : Env} {H : Heap} {ex : Ex} {env' : Env} {H' : Heap},EvC P n c env H ex env' H' → ∀ m,∃ k,EvC P n c env ⟨H.blk,m⟩ ex env' ⟨H'.blk,k⟩
 | _,_,_,_,_,_,_,.skip n env H,m=>⟨m,.skip _ _ _⟩
 | _,_,_,_,_,_,_,.label n l env H,m=>⟨m,.label _ _ _ _⟩
 | _,_,_,_,_,_,_,.region n id ops env H env' H' h,m=>⟨H'.next,.region _ _ _ _ _ _ _ (h.renext m)⟩
 | _,_,_,_,_,_,_,.draw n id ops env H env' H' h,m=>⟨H'.next,.draw _ _ _ _ _ _ _ (fun t=>(h t).renext m)⟩
 | _,_,_,_,_,_,_,.seq n x y env H env1 H1 ex env2 H2 h h',m=>
  let ⟨k,h1⟩:=h.renext m;let ⟨k',h2⟩:=h'.renext k;⟨k',.seq _ _ _ _ _ _ _ _ _ _ h1 h2⟩
 | _,_,_,_,_,_,_,.seqOut n x y env H ex env1 H1 h hx,m=>let ⟨k,h1⟩:=h.renext m;⟨k,.seqOut _ _ _ _ _ _ _ _ h1 hx⟩
 | _,_,_,_,_,_,_,.cond n c x y t env H ex env1 H1 hc h,m=>let ⟨k,h1⟩:=h.renext m;⟨k,.cond _ _ _ _ t _ _ _ _ _ hc h1⟩
 | _,_,_,_,_,_,_,.block n id c env H ex env1 H1 h hx,m=>let ⟨k,h1⟩:=h.renext m;⟨k,.block _ _ _ _ _ _ _ _ h1 hx⟩
 | _,_,_,_,_,_,_,.blockOut n id c env H ex env1 H1 h hx,m=>let ⟨k,h1⟩:=h.renext m;⟨k,.blockOut _ _ _ _ _ _ _ _ h1 hx⟩
 | _,_,_,_,_,_,_,.loop n c env H ex env' H' h,m=>let ⟨k,h1⟩:=h.renext m;⟨k,.loop _ _ _ _ _ _ _ h1⟩
 | _,_,_,_,_,_,_,.exit n id env H,m=>⟨m,.exit _ _ _ _⟩
 | _,_,_,_,_,_,_,.ret n env H,m=>⟨m,.ret _ _ _⟩
 | _,_,_,_,_,_,_,.scope n c env H ex env1 H1 h,m=>let ⟨k,h1⟩:=h.renext m;⟨k,.scope _ _ _ _ _ _ _ h1⟩
theorem EvL.renext : ∀ {n : Nat} {c : Code} {env : Env} {H : Heap} {ex : Ex} {env' : Env} {H' : Heap},EvL P n c env H ex env' H' → ∀ m,∃ k,EvL P n c env ⟨H.blk,m⟩ ex env' ⟨H'.blk,k⟩
 | _,_,_,_,_,_,_,.again n c env H env1 H1 ex env2 H2 h h',m=>
  let ⟨k,h1⟩:=h.renext m;let ⟨k',h2⟩:=h'.renext k;⟨k',.again _ _ _ _ _ _ _ _ _ h1 h2⟩
 | _,_,_,_,_,_,_,.out n c env H ex env1 H1 h hx,m=>let ⟨k,h1⟩:=h.renext m;⟨k,.out _ _ _ _ _ _ _ h1 hx⟩
end

theorem EvP.renext : ∀ {n : Nat} {l : List Code} {env : Env} {H : Heap} {ex : Ex} {env' : Env} {H' : Heap},EvP P n l env H ex env' H' → ∀ m,∃ k,EvP P n l env ⟨H.blk,m⟩ ex env' ⟨H'.blk,k⟩
 | _,_,_,_,_,_,_,.nil n env H,m=>⟨m,.nil _ _ _⟩
 | _,_,_,_,_,_,_,.cons n c l env H env1 H1 ex env2 H2 h h',m=>
  let ⟨k,h1⟩:=h.renext m;let ⟨k',h2⟩:=EvP.renext h' k;⟨k',.cons _ _ _ _ _ _ _ _ _ _ h1 h2⟩
 | _,_,_,_,_,_,_,.out n c l env H env1 H1 ex h hx,m=>let ⟨k,h1⟩:=h.renext m;⟨k,.out _ _ _ _ _ _ _ _ h1 hx⟩

theorem EvD.renext {f : FuncId} {args : List AV} {H : Heap} {H' : Heap} (h : EvD P f args H H') (m : Nat) : ∃ k,EvD P f args ⟨H.blk,m⟩ ⟨H'.blk,k⟩:=by
 obtain ⟨_,fn,c,id,ops,d,e,l,_,_,ex,env,_,r,hf,hn,hb,ha,hl,hd,hdn,hen,h,he,hr⟩:=h
 obtain ⟨k,h1⟩:=h.renext m
 refine ⟨k,.mk f fn c id ops d e l args _ ex env _ r hf hn hb ha hl hd hdn hen h1 he ?_⟩
 rw [← hr]
 unfold evResults
 rw [results_next k H'.next]

theorem EvF.renext {f : FuncId} {args : List AV} {H : Heap} {r : AV} {H' : Heap} (h : EvF P f args H r H') (m : Nat) : ∃ k,EvF P f args ⟨H.blk,m⟩ r ⟨H'.blk,k⟩:=by
 cases h with
 | mk _ fn c _ _ ex env _ _ hf hn hb ha h he hr=>
  obtain ⟨k,h1⟩:=h.renext m
  refine ⟨k,.mk f fn c args _ ex env _ r hf hn hb ha h1 he ?_⟩
  rw [← hr]
  unfold evResults
  rw [results_next k H'.next]
 | mkD _ fn c l1 l2 id ops d g first cap _ _ env1 H1 ex env2 H2 _ _ hf hn hb ha hl hd hdn h1 h2 he h3 hr=>
  obtain ⟨k1,e1⟩:=h1.renext m
  obtain ⟨k2,e2⟩:=h2.renext k1
  obtain ⟨k3,e3⟩:=h3.renext k2
  refine ⟨k3,.mkD f fn c l1 l2 id ops d g first cap args _ env1 _ ex env2 _ _ r hf hn hb ha hl hd hdn e1 e2 he e3 ?_⟩
  rw [← hr]
  unfold evResults
  rw [results_next k3 H'.next]

def beside (M : Nat) (G H : Heap) (k : Nat) : Heap:=⟨fun b=>if M ≤ b ∧ b < k then G.blk b else H.blk b,H.next⟩

theorem EvF.frames {f : FuncId} {args : List AV} {H : Heap} {r : AV} {H' : Heap} (h : EvF P f args H r H') {M : Nat} (hM : ∀ b,M ≤ b → H'.blk b = none) (G : Heap) :
  ∀ k,EvF P f args (beside M G H k) r (beside M G H' k)
 | 0=>by
  have e : ∀ X : Heap,beside M G X 0 = X:=fun X=>Heap.ext' (fun i=>by simp [beside]) rfl
  rw [e,e];exact h
 | k + 1=>by
  have ih:=h.frames hM G k
  have hd:=h.dom
  by_cases hk : M ≤ k
  ·have e : ∀ X : Heap,∀ x,G.blk k = some x → beside M G X (k + 1) = (beside M G X k).set k x:=fun X x hx=>Heap.ext' (fun i=>by
    simp only [beside,Heap.set]
    by_cases hi : i = k
    ·subst hi;rw [if_pos ⟨hk,by omega⟩,if_pos rfl,hx]
    ·rw [if_neg hi]
     by_cases hi2 : M ≤ i ∧ i < k
     ·rw [if_pos hi2,if_pos ⟨hi2.1,by omega⟩]
     ·rw [if_neg hi2,if_neg (by omega)]) rfl
   have e' : ∀ X : Heap,X.blk k = none → G.blk k = none → beside M G X (k + 1) = beside M G X k:=fun X hX hG=>Heap.ext' (fun i=>by
    simp only [beside]
    by_cases hi : i = k
    ·subst hi;rw [if_pos ⟨hk,by omega⟩,if_neg (by omega),hG,hX]
    ·by_cases hi2 : M ≤ i ∧ i < k
     ·rw [if_pos hi2,if_pos ⟨hi2.1,by omega⟩]
     ·rw [if_neg hi2,if_neg (by omega)]) rfl
   cases hx : G.blk k with
   | none=>rw [e' H (none_of_dom hd (hM k hk)) hx,e' H' (hM k hk) hx];exact ih
   | some x=>rw [e H x hx,e H' x hx];exact ih.frame x (by simp only [beside];rw [if_neg (by omega)];exact hM k hk)
  ·have e : ∀ X : Heap,beside M G X (k + 1) = beside M G X k:=fun X=>Heap.ext' (fun i=>by
    simp only [beside]
    rw [if_neg (by omega),if_neg (by omega)]) rfl
   rw [e,e];exact ih

def H00 (M : Nat) : Heap:=⟨fun _=>none,M⟩
theorem free_H00 : Free (H00 M0):=⟨fun _ _=>rfl,fun _ _=>rfl,Nat.le_refl _⟩
theorem wrel_start' (W : World) (M : Nat) : WRel (memOf W) W E0 (H00 M) W where
 below:=Below.refl _ _
 mem:=fun b o v h=>⟨World.block_lt_of_cell? (a:=⟨b,o,none⟩) W h,h⟩
 dom:=fun b g L h=>by cases h
 mdom:=fun b m h=>by cases h
 row:=fun b ty esz els gen wgen h=>by cases h
 map:=fun b es cl h=>by cases h
 sep:=fun b g L b' g' L' h=>by cases h
 msep:=fun b m b' h=>by cases h
 memsep:=fun b g L o v h=>by cases h

theorem law_calls' {P : Program} (hm : P.follows .mixedOrders = true) (M : Nat) {f : FuncId} {as : List AV} {vs : List Value} {W : World} (hgl : GlOk (memOf W)) (hr : RepL (memOf W) E0 as vs) (h : WF P f as (H00 M) fun r _=>r = .bool true) :
  Calls P f vs.toArray W fun e W'=>e = .returned (.bool true) ∧ Below W.heap.size W W':=by
 obtain ⟨r,H',h1,h2⟩:=h
 subst h2
 refine ((EvF.sound (C:=memOf W) (w0:=W) hm hgl h1).2 (wrel_start' W M) hr).mono fun e W' ⟨E',v,he,_,hw,hv⟩=>?_
 rw [rep_bool hv] at he
 exact ⟨he,hw.below⟩
end
end Go.Ev
set_option linter.unusedVariables false
set_option linter.unusedSimpArgs false
namespace Go.Ev

inductive D4 where
 | no
 | ok (E : KE) (K : KH) (F : List (Nat × Foot))
inductive DR where
 | bad
 | mk (i : Nat) (o : Oper) (fl : Bool) (y : Ready)
noncomputable def drOf (P : Program) (n : Nat) (ops : Array Oper) (prs : List (Nat × Nat)) (i : Nat) : DR:=oElim .bad (fun o=>.mk i o (inPrs i prs) (readyOf P n ops o)) ops[i]?
noncomputable def qD (q : Q4) : (AV → KH → D4) → D4:=@Q4.rec (fun _=>(AV → KH → D4) → D4) (fun _=>.no) (fun r K k=>k r K) q
noncomputable def oneD (P : Program) (cf : CF) (E : KE) (K : KH) (k : KE → KH → D4) : Ready → D4:=@Ready.rec (fun _=>D4) (fun d g i=>qD (runG g E K (runI i P cf E K)) (fun r K1=>k (setE E r d) K1))
noncomputable def fD : Option (AV × KH × Foot) → (AV → KH → Foot → D4) → D4:=@Option.rec (AV × KH × Foot) (fun _=>(AV → KH → Foot → D4) → D4) (fun _=>.no) (fun p k=>k p.1 p.2.1 p.2.2)
noncomputable def kSD4 (P : Program) (cf : CF) (n : Nat) (ops : Array Oper) : List DR → KE → KH → List (Nat × Foot) → D4:=
 @List.rec DR (fun _=>KE → KH → List (Nat × Foot) → D4) .ok (fun x _ ih E K F=>@DR.rec (fun _=>D4) .no (fun i o fl y=>(@Bool.rec (fun _=>_) (oneD P cf E K (fun E1 K1=>ih E1 K1 F) y) ((@Bool.rec (fun _=>_) (.no) (fD (kFlag P (cfo cf) ops o E K) (fun r K1 ft=>ih (setE E r (oElim Option.none (fun d=>some (pathOf d)) o.dst)) K1 ((i,ft) :: F))) (dst4 n o.dst))) (fl))) x)

theorem qD_ok {q : Q4} {k : AV → KH → D4} {E1 : KE} {K1 : KH} {F1 : List (Nat × Foot)} (h : qD q k = .ok E1 K1 F1) : ∃ r K,q = .ok r K ∧ k r K = .ok E1 K1 F1:=by
 cases q with
 | no=>exact nomatch (show D4.no = D4.ok E1 K1 F1 from h)
 | ok r K=>exact ⟨r,K,rfl,h⟩
theorem oneD_ok {P : Program} {cf : CF} {n : Nat} {ops : Array Oper} {o : Oper} {E : KE} {K : KH} {k : KE → KH → D4} {E1 : KE} {K1 : KH} {F1 : List (Nat × Foot)} (h : oneD P cf E K k (readyOf P n ops o) = .ok E1 K1 F1) :
  dstOk n o.dst = true ∧ ∃ r K',kOne P (cfo cf) ops o E K = some (r,K') ∧ k (E.set o.dst r) K' = .ok E1 K1 F1:=by
 unfold readyOf at h
 cases hd : dst4 n o.dst with
 | false=>rw [hd] at h;exact nomatch (show D4.no = D4.ok E1 K1 F1 from h)
 | true=>
  rw [hd] at h
  obtain ⟨h1,h2⟩:=dst4_ok hd
  have h : qD (runG (gdOf ops o.guard) E K (runI (cpOp P o o.op) P cf E K)) (fun r K1=>k (setE E r (oElim Option.none (fun d=>some (pathOf d)) o.dst)) K1) = .ok E1 K1 F1:=h
  obtain ⟨r,K',h3,h⟩:=qD_ok h
  rw [setE_eq h2] at h
  exact ⟨h1,r,K',runG_ok h3,h⟩
theorem fD_ok {x : Option (AV × KH × Foot)} {k : AV → KH → Foot → D4} {E1 : KE} {K1 : KH} {F1 : List (Nat × Foot)} (h : fD x k = .ok E1 K1 F1) : ∃ r K ft,x = some (r,K,ft) ∧ k r K ft = .ok E1 K1 F1:=by
 cases x with
 | none=>exact nomatch (show D4.no = D4.ok E1 K1 F1 from h)
 | some p=>obtain ⟨r,K,ft⟩:=p;exact ⟨r,K,ft,rfl,h⟩
theorem kSD4_ok {P : Program} {cf : CF} {n : Nat} {ops : Array Oper} {prs : List (Nat × Nat)} : ∀ (is : List Nat) {E : KE} {K : KH} {F : List (Nat × Foot)} {E1 : KE} {K1 : KH} {F1 : List (Nat × Foot)},kSD4 P cf n ops (map4 (drOf P n ops prs) is) E K F = .ok E1 K1 F1 → kSD P (cfo cf) n ops prs is E K F = some (E1,K1,F1)
 | [],E,K,F,E1,K1,F1,h=>by cases h;rfl
 | i :: is,E,K,F,E1,K1,F1,h=>by
  have h : @DR.rec (fun _=>D4) .no (fun i o fl y=>@Bool.rec (fun _=>D4) (oneD P cf E K (fun E1 K1=>kSD4 P cf n ops (map4 (drOf P n ops prs) is) E1 K1 F) y) (@Bool.rec (fun _=>D4) .no (fD (kFlag P (cfo cf) ops o E K) (fun r K1 ft=>kSD4 P cf n ops (map4 (drOf P n ops prs) is) (setE E r (oElim Option.none (fun d=>some (pathOf d)) o.dst)) K1 ((i,ft) :: F))) (dst4 n o.dst)) fl) (drOf P n ops prs i) = .ok E1 K1 F1:=h
  unfold drOf at h
  cases ho : ops[i]? with
  | none=>rw [ho] at h;exact nomatch (show D4.no = D4.ok E1 K1 F1 from h)
  | some o=>
   rw [ho] at h
   have h : @Bool.rec (fun _=>D4) (oneD P cf E K (fun E1 K1=>kSD4 P cf n ops (map4 (drOf P n ops prs) is) E1 K1 F) (readyOf P n ops o)) (@Bool.rec (fun _=>D4) .no (fD (kFlag P (cfo cf) ops o E K) (fun r K1 ft=>kSD4 P cf n ops (map4 (drOf P n ops prs) is) (setE E r (oElim Option.none (fun d=>some (pathOf d)) o.dst)) K1 ((i,ft) :: F))) (dst4 n o.dst)) (inPrs i prs) = .ok E1 K1 F1:=h
   cases hf : inPrs i prs with
   | true=>
    rw [hf] at h
    cases hd : dst4 n o.dst with
    | false=>rw [hd] at h;exact nomatch (show D4.no = D4.ok E1 K1 F1 from h)
    | true=>
     rw [hd] at h
     obtain ⟨h1,h2⟩:=dst4_ok hd
     obtain ⟨r,K',ft,h3,h⟩:=fD_ok h
     rw [setE_eq h2] at h
     have:=kSD4_ok is h
     simp only [kSD,ho,h1,hf,cond_true,h3]
     exact this
   | false=>
    rw [hf] at h
    obtain ⟨h1,r,K',h3,h⟩:=oneD_ok h
    have:=kSD4_ok is h
    simp only [kSD,ho,h1,hf,cond_true,cond_false,h3]
    exact this

inductive X4 where
 | no
 | ok (x : Ex) (E : KE) (K : KH)
abbrev C4:=KE → KH → X4
abbrev Tab:=Nat → Option (List (Nat × Nat) × List Nat)
noncomputable def sX : S4 → X4:=@S4.rec (fun _=>X4) .no (fun E K=>.ok .normal E K)
noncomputable def dX (prs : List (Nat × Nat)) : D4 → X4:=@D4.rec (fun _=>X4) .no (fun E K F=>(@Bool.rec (fun _=>_) (.no) (.ok .normal E K) (prs.all (fun p=>sepF (footOf F p.1) (footOf F p.2)))))
noncomputable def exN (k : C4) (ex : Ex) (E : KE) (K : KH) : X4:=@Ex.rec (fun _=>X4) (k E K) (fun j=>.ok (.exit j) E K) (.ok .ret E K) ex
noncomputable def exB (id : Nat) (ex : Ex) (E : KE) (K : KH) : X4:=@Ex.rec (fun _=>X4) (.ok .normal E K) (fun j=>.ok ((@Bool.rec (fun _=>_) (.exit j) (.normal) (Nat.beq j id))) E K) (.ok .ret E K) ex
noncomputable def xE (k : Ex → KE → KH → X4) : X4 → X4:=@X4.rec (fun _=>X4) .no k
noncomputable def kL4 (c : C4) : Nat → C4:=@Nat.rec (fun _=>C4) (fun _ _=>.no) (fun _ ih E K=>xE (exN ih) (c E K))
noncomputable def regX (P : Program) (cf : CF) (D : Tab) (n : Nat) (id : Nat) (ops : Array Oper) (d : Bool) : C4:=fun E K=>
 @Bool.rec (fun _=>X4) (sX (kS4 P cf (map4 (readyOf P n ops) ops.toList) E K)) (oElim .no (fun p=>dX p.1 (kSD4 P cf n ops (map4 (drOf P n ops p.1) p.2) E K [])) (D id)) d
noncomputable def condX (c : Src) (x y : C4) : C4:=fun E K=>(fun q : Q4=>X4.no) .no
noncomputable def onBoolX : AV → X4 → X4 → X4:=@AV.rec (fun _=>X4 → X4 → X4) (fun _=>Unit) (fun _=>Unit) (fun _ _=>.no) (fun b x y=>(@Bool.rec (fun _=>_) (y) (x) (b))) (fun _ _ _ _=>.no) (fun _ _ _=>.no) (fun _ _=>.no) (fun _ _ _ _ _ _=>.no) (fun _ _ _ _ _=>.no) (fun _ _=>.no) (fun _ _=>.no) (fun _ _ _ _ _ _ _ _=>.no) (fun _ _ _ _ _=>.no) (fun _ _ _ _=>.no) (fun _ _ _ _=>.no) (fun _ _=>.no) (fun _ _ _ _ _=>.no) (fun _ _=>.no) (fun _ _ _ _ _ _ _=>.no) (fun _ _=>.no) (fun _ _ _=>.no) () (fun _ _ _ _=>()) () (fun _ _ _ _=>())
theorem onBoolX_ok {a : AV} {x y : X4} {ex : Ex} {E : KE} {K : KH} (h : onBoolX a x y = .ok ex E K) : (a = .bool true ∧ x = .ok ex E K) ∨ (a = .bool false ∧ y = .ok ex E K):=by
 cases a with
 | bool b=>cases b with
  | true=>exact .inl ⟨rfl,h⟩
  | false=>exact .inr ⟨rfl,h⟩
 | _=>exact nomatch (show X4.no = X4.ok ex E K from h)
noncomputable def kC4 (P : Program) (cf : CF) (D : Tab) (n : Nat) : Code → C4:=
  @Code.rec (fun _=>C4) (fun E K=>.ok .normal E K)
   (regX P cf D n)
   (fun _ _ x y E K=>xE (exN y) (x E K))
   (fun c _ _ x y E K=>onBoolX (rd E (srcOf c)) (x E K) (y E K))
   (fun id _ c E K=>xE (exB id) (c E K))
   (fun _ c E K=>kL4 c 10000 E K)
   (fun _ _ _ _ _ _ _ _=>.no) (fun id E K=>.ok (.exit id) E K) (fun _ c E K=>c E K) (fun _ E K=>.ok .normal E K) (fun _ _ _=>.no) (fun E K=>.ok .ret E K) (fun _ _ _=>.no)
noncomputable def chkC (P : Program) (D : Tab) : Code → Bool:=
  @Code.rec (fun _=>Bool) true
   (fun id ops d=>(@Bool.rec (fun _=>_) (true) (oElim true (fun p=>drawOkM P ops p.1 p.2) (D id)) (d)))
   (fun _ _ x y=>(@Bool.rec (fun _=>_) (false) (y) (x))) (fun _ _ _ x y=>(@Bool.rec (fun _=>_) (false) (y) (x))) (fun _ _ c=>c) (fun _ c=>c)
   (fun _ _ _ _ _ _=>true) (fun _=>true) (fun _ c=>c) (fun _=>true) (fun _=>true) true (fun _=>true)

theorem xE_ok {k : Ex → KE → KH → X4} {q : X4} {ex : Ex} {E1 : KE} {K1 : KH} (h : xE k q = .ok ex E1 K1) : ∃ e E K,q = .ok e E K ∧ k e E K = .ok ex E1 K1:=by
 cases q with
 | no=>exact nomatch (show X4.no = X4.ok ex E1 K1 from h)
 | ok e E K=>exact ⟨e,E,K,rfl,h⟩
def unT (D : Tab) : Nat → List (Nat × Nat) × List Nat:=fun id=>(D id).getD ([],[])
theorem kL4_ok {c : C4} {c' : KE → KH → Option (Ex × KE × KH)} (hc : ∀ {E K ex E1 K1},c E K = .ok ex E1 K1 → c' E K = some (ex,E1,K1)) : ∀ (n : Nat) {E : KE} {K : KH} {ex : Ex} {E1 : KE} {K1 : KH},kL4 c n E K = .ok ex E1 K1 → kL c' n E K = some (ex,E1,K1)
 | 0,E,K,ex,E1,K1,h=>nomatch (show X4.no = X4.ok ex E1 K1 from h)
 | n + 1,E,K,ex,E1,K1,h=>by
  have h : xE (exN (kL4 c n)) (c E K) = .ok ex E1 K1:=h
  obtain ⟨e,E',K',h1,h⟩:=xE_ok h
  have h1:=hc h1
  cases e with
  | normal=>
   have h : kL4 c n E' K' = .ok ex E1 K1:=h
   simp only [kL,h1]
   exact kL4_ok hc n h
  | exit j=>cases h;simp only [kL,h1]
  | ret=>cases h;simp only [kL,h1]
theorem and_split {a b : Bool} (h : @Bool.rec (fun _=>Bool) false b a = true) : a = true ∧ b = true:=by
 cases a with
 | true=>exact ⟨rfl,h⟩
 | false=>cases h
theorem kC4_ok {P : Program} {cf : CF} {D : Tab} {n : Nat} : ∀ {c : Code} {E : KE} {K : KH} {ex : Ex} {E1 : KE} {K1 : KH},chkC P D c = true → kC4 P cf D n c E K = .ok ex E1 K1 → kC P (cfo cf) (unT D) n c E K = some (ex,E1,K1):=by
 intro c
 induction c with
 | skip=>intro E K ex E1 K1 _ h;cases h;rfl
 | label l=>intro E K ex E1 K1 _ h;cases h;rfl
 | exit id=>intro E K ex E1 K1 _ h;cases h;rfl
 | ret=>intro E K ex E1 K1 _ h;cases h;rfl
 | region id ops d=>
  intro E K ex E1 K1 hc h
  have h : regX P cf D n id ops d E K = .ok ex E1 K1:=h
  unfold regX at h
  cases d with
  | false=>
   have h : sX (kS4 P cf (map4 (readyOf P n ops) ops.toList) E K) = .ok ex E1 K1:=h
   cases hs : kS4 P cf (map4 (readyOf P n ops) ops.toList) E K with
   | no=>rw [hs] at h;exact nomatch (show X4.no = X4.ok ex E1 K1 from h)
   | ok E' K'=>
    rw [hs] at h
    cases h
    simp only [kC,kS4_ok _ _ (range_ops ops) hs]
  | true=>
   have h : oElim .no (fun p=>dX p.1 (kSD4 P cf n ops (map4 (drOf P n ops p.1) p.2) E K [])) (D id) = .ok ex E1 K1:=h
   have hc : oElim true (fun p=>drawOkM P ops p.1 p.2) (D id) = true:=hc
   cases hD : D id with
   | none=>rw [hD] at h;exact nomatch (show X4.no = X4.ok ex E1 K1 from h)
   | some p=>
    rw [hD] at h hc
    have h : dX p.1 (kSD4 P cf n ops (map4 (drOf P n ops p.1) p.2) E K []) = .ok ex E1 K1:=h
    have hc : drawOkM P ops p.1 p.2 = true:=hc
    cases hs : kSD4 P cf n ops (map4 (drOf P n ops p.1) p.2) E K [] with
    | no=>rw [hs] at h;exact nomatch (show X4.no = X4.ok ex E1 K1 from h)
    | ok E' K' F=>
     rw [hs] at h
     have h : @Bool.rec (fun _=>X4) .no (.ok .normal E' K') (p.1.all (fun q=>sepF (footOf F q.1) (footOf F q.2))) = .ok ex E1 K1:=h
     cases ha : p.1.all (fun q=>sepF (footOf F q.1) (footOf F q.2)) with
     | false=>rw [ha] at h;exact nomatch (show X4.no = X4.ok ex E1 K1 from h)
     | true=>
      rw [ha] at h
      cases h
      simp only [kC,unT,hD,Option.getD_some,hc,cond_true,kSD4_ok _ hs,ha]
 | seq x y ihx ihy=>
  intro E K ex E1 K1 hc h
  obtain ⟨hcx,hcy⟩:=and_split (a:=chkC P D x) (b:=chkC P D y) hc
  have h : xE (exN (kC4 P cf D n y)) (kC4 P cf D n x E K) = .ok ex E1 K1:=h
  obtain ⟨e,E',K',h1,h⟩:=xE_ok h
  have h1:=ihx hcx h1
  cases e with
  | normal=>
   have h : kC4 P cf D n y E' K' = .ok ex E1 K1:=h
   simp only [kC,h1]
   exact ihy hcy h
  | exit j=>cases h;simp only [kC,h1]
  | ret=>cases h;simp only [kC,h1]
 | cond c x y ihx ihy=>
  intro E K ex E1 K1 hc h
  obtain ⟨hcx,hcy⟩:=and_split (a:=chkC P D x) (b:=chkC P D y) hc
  have h : onBoolX (rd E (srcOf c)) (kC4 P cf D n x E K) (kC4 P cf D n y E K) = .ok ex E1 K1:=h
  rw [rd_eq] at h
  rcases onBoolX_ok h with ⟨hv,h⟩ | ⟨hv,h⟩
  ·simp only [kC,hv];exact ihx hcx h
  ·simp only [kC,hv];exact ihy hcy h
 | block id c ih=>
  intro E K ex E1 K1 hc h
  have h : xE (exB id) (kC4 P cf D n c E K) = .ok ex E1 K1:=h
  obtain ⟨e,E',K',h1,h⟩:=xE_ok h
  have h1:=ih hc h1
  cases e with
  | normal=>cases h;simp only [kC,h1]
  | exit j=>
   have h : X4.ok (@Bool.rec (fun _=>Ex) (.exit j) .normal (Nat.beq j id)) E' K' = .ok ex E1 K1:=h
   simp only [kC,h1]
   cases hj : Nat.beq j id with
   | true=>rw [hj] at h;cases h;rfl
   | false=>rw [hj] at h;cases h;rfl
  | ret=>cases h;simp only [kC,h1]
 | loop c ih=>
  intro E K ex E1 K1 hc h
  have h : kL4 (kC4 P cf D n c) 10000 E K = .ok ex E1 K1:=h
  simp only [kC]
  exact kL4_ok (fun h=>ih hc h) 10000 h
 | scope c ih=>
  intro E K ex E1 K1 hc h
  simp only [kC]
  exact ih hc h
 | _=>intro E K ex E1 K1 hc h;exact nomatch (show X4.no = X4.ok ex E1 K1 from h)

section
variable (P : Program)
noncomputable def resV (rv : ResultVar) (E : KE) (K : KH) (k : AV → Q4) : Q4:=
 @ResultVar.rec (fun _=>Q4) (fun t=>k (orU (getP (pathOf t) E))) (fun a t=>oElim .no (fun b=>(@Bool.rec (fun _=>_) (ld1 K k (orU (getP (pathOf a) E))) (oElim .no (fun n=>ld K n (fun cs=>k (.agg cs)) (orU (getP (pathOf a) E))) (szOf P t)) (b))) (aggOf P t)) rv
noncomputable def res4 : List ResultVar → KE → KH → (List AV → Q4) → Q4:=@List.rec ResultVar (fun _=>KE → KH → (List AV → Q4) → Q4) (fun _ _ k=>k []) (fun rv _ ih E K k=>resV P rv E K (fun v=>ih E K (fun vs=>k (v :: vs))))
noncomputable def resQ (K : KH) (vs : List AV) : Q4:=@List.rec AV (fun _=>Q4) (.ok (.tuple []) K) (fun v l _=>@List.rec AV (fun _=>Q4) (.ok v K) (fun w m _=>.ok (.tuple (v :: w :: m)) K) l) vs
noncomputable def kRes (rs : List ResultVar) (E : KE) (K : KH) : Q4:=res4 P rs E K (resQ K)
end
section
variable {P : Program}
theorem resV_ok {rv : ResultVar} {E : KE} {K : KH} {k : AV → Q4} {r : AV} {K1 : KH} (h : resV P rv E K k = .ok r K1) : ∃ v,evResult P E.env K.heap rv = some v ∧ k v = .ok r K1:=by
 cases rv with
 | tmp t=>
  have h : k (orU (getP (pathOf t) E)) = .ok r K1:=h
  rw [rdT] at h
  exact ⟨_,rfl,h⟩
 | cell a t=>
  have h : oElim .no (fun b=>@Bool.rec (fun _=>Q4) (ld1 K k (orU (getP (pathOf a) E))) (oElim .no (fun n=>ld K n (fun cs=>k (.agg cs)) (orU (getP (pathOf a) E))) (szOf P t)) b) (aggOf P t) = .ok r K1:=h
  rw [rdT] at h
  obtain ⟨b,hb,h⟩:=oElim_no h
  cases b with
  | true=>
   obtain ⟨n,hn,h⟩:=oElim_no h
   obtain ⟨cs,h1,h⟩:=ld_ok h
   refine ⟨.agg cs,?_,h⟩
   simp only [evResult,hb,hn,h1]
   rfl
  | false=>
   obtain ⟨v,h1,h⟩:=ld1_ok h
   refine ⟨v,?_,h⟩
   simp only [evResult,hb,h1]
theorem res4_ok : ∀ {rs : List ResultVar} {E : KE} {K : KH} {k : List AV → Q4} {r : AV} {K1 : KH},res4 P rs E K k = .ok r K1 → ∃ vs,evResultsL P E.env K.heap rs = some vs ∧ k vs = .ok r K1
 | [],E,K,k,r,K1,h=>⟨[],rfl,h⟩
 | rv :: rs,E,K,k,r,K1,h=>by
  have h : resV P rv E K (fun v=>res4 P rs E K (fun vs=>k (v :: vs))) = .ok r K1:=h
  obtain ⟨v,h1,h⟩:=resV_ok h
  obtain ⟨vs,h2,h⟩:=res4_ok h
  exact ⟨v :: vs,by simp only [evResultsL,h1,h2],h⟩
theorem kRes_ok {rs : List ResultVar} {E : KE} {K : KH} {r : AV} {K1 : KH} (h : kRes P rs E K = .ok r K1) : evResults P rs E.env K.heap = some r ∧ K1 = K:=by
 obtain ⟨vs,h1,h⟩:=res4_ok h
 unfold evResults
 rw [h1]
 match vs,h with
 | [],h=>cases h;exact ⟨rfl,rfl⟩
 | [v],h=>cases h;exact ⟨rfl,rfl⟩
 | v :: w :: m,h=>cases h;exact ⟨rfl,rfl⟩
end

noncomputable def args4 : List AV → Nat → KE → KE:=@List.rec AV (fun _=>Nat → KE → KE) (fun _ E=>E) (fun a _ ih k E=>ih (Nat.succ k) (putP a (pathOf k) E))
theorem args4_eq : ∀ (l : List AV) (k : Nat) (E : KE),k + l.length ≤ 4000 → args4 l k E = ofArgsK l k E
 | [],k,E,h=>rfl
 | a :: l,k,E,h=>by
  show args4 l (k + 1) (putP a (pathOf k) E) = ofArgsK l (k + 1) (Tr.put a 12 E k)
  simp only [List.length_cons] at h
  rw [putP_eq a k E 12 (Nat.lt_of_le_of_lt (by omega : k + 1 ≤ 4001) (by decide))]
  exact args4_eq l (k + 1) _ (by omega)
noncomputable def xF (f : KE → KH → Q4) : X4 → Q4:=@X4.rec (fun _=>Q4) .no (fun ex E K=>@Ex.rec (fun _=>Q4) (f E K) (fun _=>.no) (f E K) ex)
noncomputable def okFn (fn : Func) : Bool:=(@Bool.rec (fun _=>_) (Nat.ble fn.ntmps 3999) (false) (fn.name == "runtime.NumGoroutine"))
noncomputable def kCs (P : Program) (cf : CF) (D : Tab) (n : Nat) : List Code → C4:=@List.rec Code (fun _=>C4) (fun E K=>.ok .normal E K) (fun c _ ih E K=>xE (exN ih) (kC4 P cf D n c E K))
noncomputable def chkCs (P : Program) (D : Tab) : List Code → Bool:=@List.rec Code (fun _=>Bool) true (fun c _ ih=>(@Bool.rec (fun _=>_) (false) (ih) (chkC P D c)))
theorem kCs_ok {P : Program} {cf : CF} (hcf : CfOk P (cfo cf)) {D : Tab} {n : Nat} (hn : n < 4000) : ∀ {l : List Code} {E : KE} {K : KH} {ex : Ex} {E1 : KE} {K1 : KH},K.Ok → chkCs P D l = true → kCs P cf D n l E K = .ok ex E1 K1 → EvP P n l E.env K.heap ex E1.env K1.heap ∧ Sd K K1
 | [],E,K,ex,E1,K1,hK,_,h=>by cases h;exact ⟨.nil _ _ _,Sd.refl hK⟩
 | c :: l,E,K,ex,E1,K1,hK,hc,h=>by
  obtain ⟨hc1,hc2⟩:=and_split (a:=chkC P D c) (b:=chkCs P D l) hc
  have h : xE (exN (kCs P cf D n l)) (kC4 P cf D n c E K) = .ok ex E1 K1:=h
  obtain ⟨e,E',K',h1,h⟩:=xE_ok h
  obtain ⟨a1,a2⟩:=kC_ok hcf hn hK (kC4_ok hc1 h1)
  cases e with
  | normal=>
   obtain ⟨b1,b2⟩:=kCs_ok hcf hn a2.ok hc2 (show kCs P cf D n l E' K' = .ok ex E1 K1 from h)
   exact ⟨.cons _ _ _ _ _ _ _ _ _ _ a1 b1,a2.trans b2⟩
  | exit j=>cases h;exact ⟨.out _ _ _ _ _ _ _ _ a1 (by simp),a2⟩
  | ret=>cases h;exact ⟨.out _ _ _ _ _ _ _ _ a1 (by simp),a2⟩

theorem chkCs_app {P : Program} {D : Tab} : ∀ {l m : List Code},chkCs P D l = true → chkCs P D m = true → chkCs P D (l ++ m) = true
 | [],m,_,h=>h
 | c :: l,m,h,h'=>by
  obtain ⟨h1,h2⟩:=and_split (a:=chkC P D c) (b:=chkCs P D l) h
  show @Bool.rec (fun _=>Bool) false (chkCs P D (l ++ m)) (chkC P D c) = true
  rw [h1];exact chkCs_app h2 h'
theorem chkCs_one {P : Program} {D : Tab} {c : Code} (h : chkC P D c = true) : chkCs P D [c] = true:=by
 show @Bool.rec (fun _=>Bool) false true (chkC P D c) = true
 rw [h]
theorem chk_flat {P : Program} {D : Tab} : ∀ {c : Code},chkC P D c = true → chkCs P D (flat c) = true:=by
 intro c
 induction c with
 | seq x y ihx ihy=>
  intro h
  obtain ⟨h1,h2⟩:=and_split (a:=chkC P D x) (b:=chkC P D y) h
  exact chkCs_app (ihx h1) (ihy h2)
 | _=>intro h;exact chkCs_one h
theorem chkCs_parts {P : Program} {D : Tab} : ∀ {l m : List Code},chkCs P D (l ++ m) = true → chkCs P D l = true ∧ chkCs P D m = true
 | [],m,h=>⟨rfl,h⟩
 | c :: l,m,h=>by
  obtain ⟨h1,h2⟩:=and_split (a:=chkC P D c) (b:=chkCs P D (l ++ m)) h
  obtain ⟨h3,h4⟩:=chkCs_parts h2
  refine ⟨?_,h4⟩
  show @Bool.rec (fun _=>Bool) false (chkCs P D l) (chkC P D c) = true
  rw [h1];exact h3
def isTmpC (d : Tmp) : Callee → Bool
 | .value (.tmp t)=>t == d
 | _=>false
def isRcv : Callee → Bool
 | .builtin .recover=>true
 | _=>false
def isDf (ops : Array Oper) : Option (Tmp × FuncId × Array Operand × Array Operand):=
 match ops.toList with
 | [o1,o2]=>
  match o1.op with
  | .makeFunc (.func g) first cap=>
   match o1.dst with
   | some d=>
    match o2.op with
    | .defer c=>if (o1.guard.isNone && o2.guard.isNone && o2.dst.isNone && isTmpC d c.callee && c.args.isEmpty) = true then some (d,g,first,cap) else none
    | _=>none
   | none=>none
  | _=>none
 | _=>none
theorem isDf_ok {ops : Array Oper} {s : Tmp × FuncId × Array Operand × Array Operand} (h : isDf ops = some s) : IsDefer ops s.1 s.2.1 s.2.2.1 s.2.2.2:=by
 unfold isDf at h
 split at h
 ·rename_i o1 o2 hl
  split at h
  ·rename_i g f c h1
   split at h
   ·rename_i d h2
    split at h
    ·rename_i k h3
     split at h
     ·rename_i hc
      simp only [Bool.and_eq_true,Option.isNone_iff_eq_none] at hc
      obtain ⟨⟨⟨⟨a1,a2⟩,a3⟩,a4⟩,a5⟩:=hc
      cases h
      have hs : ops = #[o1,o2]:=by apply Array.ext';simpa using hl
      subst hs
      refine ⟨rfl,⟨o1,rfl,a1,h2,h1⟩,⟨o2,k.argTypes,rfl,a2,a3,?_⟩⟩
      rw [h3]
      obtain ⟨cal,ar,tys⟩:=k
      have e1 : cal = .value (.tmp d):=by
       unfold isTmpC at a4
       split at a4
       ·rename_i t hx
        have hx : cal = .value (.tmp t):=hx
        rw [hx,beq_iff_eq.1 a4]
       ·cases a4
      have e2 : ar = #[]:=by simpa using a5
      rw [e1,e2]
     ·cases h
    ·cases h
   ·cases h
  ·cases h
 ·cases h
def isRc (ops : Array Oper) : Option (Tmp × Tmp):=
 match ops.toList with
 | [o1,o2]=>
  match o1.op with
  | .call c=>
   match o1.dst with
   | some d=>
    match o2.dst with
    | some e=>
     match o2.op with
     | .assign (.tmp t)=>if (o1.guard.isNone && o2.guard.isNone && isRcv c.callee && c.args.isEmpty && t == d) = true then some (d,e) else none
     | _=>none
    | none=>none
   | none=>none
  | _=>none
 | _=>none
theorem isRc_ok {ops : Array Oper} {s : Tmp × Tmp} (h : isRc ops = some s) : IsRecover ops s.1 s.2:=by
 unfold isRc at h
 split at h
 ·rename_i o1 o2 hl
  split at h
  ·rename_i k h1
   split at h
   ·rename_i d h2
    split at h
    ·rename_i e h2'
     split at h
     ·rename_i t h3
      split at h
      ·rename_i hc
       simp only [Bool.and_eq_true,Option.isNone_iff_eq_none,beq_iff_eq] at hc
       obtain ⟨⟨⟨⟨a1,a2⟩,a4⟩,a5⟩,rfl⟩:=hc
       cases h
       have hs : ops = #[o1,o2]:=by apply Array.ext';simpa using hl
       subst hs
       refine ⟨rfl,⟨o1,k.argTypes,rfl,a1,h2,?_⟩,⟨o2,rfl,a2,h2',h3⟩⟩
       rw [h1]
       obtain ⟨cal,ar,tys⟩:=k
       have e1 : cal = .builtin .recover:=by
        unfold isRcv at a4
        split at a4
        ·rename_i hx;exact hx
        ·cases a4
       have e2 : ar = #[]:=by simpa using a5
       rw [e1,e2]
      ·cases h
     ·cases h
    ·cases h
   ·cases h
  ·cases h
 ·cases h
def dfC : Code → Option (Tmp × FuncId × Array Operand × Array Operand)
 | .region _ ops false=>isDf ops
 | _=>none
def splitDf : List Code → Option (List Code × (Tmp × FuncId × Array Operand × Array Operand) × List Code)
 | []=>none
 | c :: l=>match dfC c with
  | some t=>some ([],t,l)
  | none=>match splitDf l with
   | some (l1,t,l2)=>some (c :: l1,t,l2)
   | none=>none
theorem dfC_ok {c : Code} {s : Tmp × FuncId × Array Operand × Array Operand} (h : dfC c = some s) : ∃ id ops,c = .region id ops false ∧ IsDefer ops s.1 s.2.1 s.2.2.1 s.2.2.2:=by
 unfold dfC at h
 split at h
 ·rename_i id ops;exact ⟨id,ops,rfl,isDf_ok h⟩
 ·cases h
theorem splitDf_ok : ∀ {l : List Code} {s : List Code × (Tmp × FuncId × Array Operand × Array Operand) × List Code},splitDf l = some s → ∃ id ops,l = s.1 ++ .region id ops false :: s.2.2 ∧ IsDefer ops s.2.1.1 s.2.1.2.1 s.2.1.2.2.1 s.2.1.2.2.2
 | [],s,h=>by cases h
 | c :: l,s,h=>by
  rw [splitDf] at h
  split at h
  ·rename_i t ht
   cases h
   obtain ⟨id,ops,rfl,hd⟩:=dfC_ok ht
   exact ⟨id,ops,rfl,hd⟩
  ·split at h
   ·rename_i l1 t l2 hs
    cases h
    obtain ⟨id,ops,e,hd⟩:=splitDf_ok hs
    exact ⟨id,ops,by rw [e];rfl,hd⟩
   ·cases h
def headRc : List Code → Option (Tmp × Tmp × List Code)
 | .region _ ops false :: l=>match isRc ops with
  | some s=>some (s.1,s.2,l)
  | none=>none
 | _=>none
theorem headRc_ok {l : List Code} {s : Tmp × Tmp × List Code} (h : headRc l = some s) : ∃ id ops,l = .region id ops false :: s.2.2 ∧ IsRecover ops s.1 s.2.1:=by
 unfold headRc at h
 split at h
 ·rename_i id ops l'
  split at h
  ·rename_i t ht
   cases h
   exact ⟨id,ops,rfl,isRc_ok ht⟩
  ·cases h
 ·cases h
noncomputable def normX (k : KE → KH → Q4) : X4 → Q4:=@X4.rec (fun _=>Q4) .no (fun ex E K=>@Ex.rec (fun _=>Q4) (k E K) (fun _=>.no) .no ex)
noncomputable def argsO (E : KE) (l : Array Operand) : List AV:=map4 (fun o=>rd E (srcOf o)) l.toList
noncomputable def qK (k : KH → Q4) : Q4 → Q4:=@Q4.rec (fun _=>Q4) .no (fun _ K=>k K)
noncomputable def orQ (y : Q4) : Q4 → Q4:=@Q4.rec (fun _=>Q4) y (fun r K=>.ok r K)
theorem argsO_eq (E : KE) (l : Array Operand) : argsO E l = l.toList.map E.env.at:=by
 unfold argsO
 rw [map4_eq]
 exact List.map_congr_left fun o _=>rd_eq E o
theorem put4_env {E : KE} {n : Nat} (hn : n < 4000) {d : Tmp} (h : dst4 n (some d) = true) (v : AV) : KE.env (putP v (pathOf d) E) = E.env.put (some d) v:=by
 obtain ⟨h1,h2⟩:=dst4_ok h
 rw [show putP v (pathOf d) E = E.set (some d) v from setE_eq (d:=some d) h2,KE.env_set E v hn h1]
section
variable (P : Program) (D : FuncId → Tab) (cf : CF)
noncomputable def kD4 (g : FuncId) (args : List AV) (K : KH) : Q4:=
 oElim .no (fun fn=>oElim .no (fun c=>oElim .no (fun s=>(@Bool.rec (fun _=>_) (.no) ((@Bool.rec (fun _=>_) (.no) ((@Bool.rec (fun _=>_) (.no) ((@Bool.rec (fun _=>_) (.no) (xF (kRes P fn.results.toList) (kCs P cf (D g) fn.ntmps s.2.2 (putP .nilIface (pathOf s.2.1) (putP .nilIface (pathOf s.1) (args4 args 0 .nil))) K)) (dst4 fn.ntmps (some s.2.1)))) (dst4 fn.ntmps (some s.1)))) (Nat.ble (len4 args) fn.ntmps))) (okFn fn))) (headRc (flat c))) fn.body) P.funcs[g]?
noncomputable def kG4 (f : FuncId) (fn : Func) (c : Code) (args : List AV) (K : KH) : Q4:=
 oElim .no (fun s=>(@Bool.rec (fun _=>_) (.no) (normX (fun E1 K1=>xF (fun E2 K2=>qK (fun K3=>kRes P fn.results.toList E2 K3) (kD4 P D cf s.2.1.2.1 (app4 (argsO E1 s.2.1.2.2.2) (argsO E1 s.2.1.2.2.1)) K2)) (kCs P cf (D f) fn.ntmps s.2.2 (putP (.func (.func s.2.1.2.1) (argsO E1 s.2.1.2.2.1) (argsO E1 s.2.1.2.2.2)) (pathOf s.2.1.1) E1) K1)) (kCs P cf (D f) fn.ntmps s.1 (args4 args 0 .nil) K)) (dst4 fn.ntmps (some s.2.1.1)))) (splitDf (flat c))
end
noncomputable def kF4 (P : Program) (D : FuncId → Tab) : Nat → CF:=
 @Nat.rec (fun _=>CF) (fun _ _ _=>.no) (fun _ ih f args K=>oElim .no (fun fn=>oElim .no (fun c=>(@Bool.rec (fun _=>_) (.no) ((@Bool.rec (fun _=>_) (.no) (orQ (kG4 P D ih f fn c args K) (xF (kRes P fn.results.toList) (kC4 P ih (D f) fn.ntmps c (args4 args 0 .nil) K))) (Nat.ble (len4 args) fn.ntmps))) (okFn fn))) fn.body) P.funcs[f]?)

def TabOk (P : Program) (D : FuncId → Tab) : Prop:=∀ f fn c,P.funcs[f]? = some fn → fn.body = some c → chkC P (D f) c = true
theorem okFn_ok {fn : Func} (h : okFn fn = true) : (fn.name == "runtime.NumGoroutine") = false ∧ fn.ntmps ≤ 3999:=by
 unfold okFn at h
 cases hn : (fn.name == "runtime.NumGoroutine") with
 | true=>rw [hn] at h;cases h
 | false=>rw [hn] at h;exact ⟨rfl,Nat.le_of_ble_eq_true h⟩
theorem xF_ok {k : KE → KH → Q4} {q : X4} {r : AV} {K1 : KH} (h : xF k q = .ok r K1) : ∃ ex E K,q = .ok ex E K ∧ (ex = .normal ∨ ex = .ret) ∧ k E K = .ok r K1:=by
 cases q with
 | no=>exact noOk h
 | ok ex E K=>
  cases ex with
  | exit j=>exact noOk h
  | normal=>exact ⟨_,E,K,rfl,.inl rfl,h⟩
  | ret=>exact ⟨_,E,K,rfl,.inr rfl,h⟩
theorem normX_ok {k : KE → KH → Q4} {q : X4} {r : AV} {K1 : KH} (h : normX k q = .ok r K1) : ∃ E K,q = .ok .normal E K ∧ k E K = .ok r K1:=by
 cases q with
 | no=>exact noOk h
 | ok ex E K=>
  cases ex with
  | exit j=>exact noOk h
  | normal=>exact ⟨E,K,rfl,h⟩
  | ret=>exact noOk h
theorem qK_ok {k : KH → Q4} {q : Q4} {r : AV} {K1 : KH} (h : qK k q = .ok r K1) : ∃ r' K,q = .ok r' K ∧ k K = .ok r K1:=by
 cases q with
 | no=>exact noOk h
 | ok r' K=>exact ⟨r',K,rfl,h⟩
theorem orQ_ok {y q : Q4} {r : AV} {K1 : KH} (h : orQ y q = .ok r K1) : q = .ok r K1 ∨ y = .ok r K1:=by
 cases q with
 | no=>exact .inr h
 | ok r' K=>exact .inl h
theorem args_env {args : List AV} (h : args.length ≤ 3999) : KE.env (args4 args 0 .nil) = Env.ofArgs args:=by
 rw [args4_eq args 0 .nil (by omega)]
 funext t
 rw [ofArgsK_env args 0 .nil (by omega) (fun t _=>rfl)]
 simp [Env.ofArgs]
theorem kD4_ok {P : Program} {D : FuncId → Tab} (hD : TabOk P D) {cf : CF} (hcf : CfOk P (cfo cf)) {g : FuncId} {args : List AV} {K : KH} {r : AV} {K1 : KH} (hK : K.Ok) (h : kD4 P D cf g args K = .ok r K1) : EvD P g args K.heap K1.heap ∧ Sd K K1:=by
 unfold kD4 at h
 obtain ⟨fn,hfn,h⟩:=oElim_no h
 obtain ⟨c,hc,h⟩:=oElim_no h
 obtain ⟨s,hs,h⟩:=oElim_no h
 obtain ⟨h1,h⟩:=bqN h
 obtain ⟨h2,h⟩:=bqN h
 obtain ⟨h3,h⟩:=bqN h
 obtain ⟨h4,h⟩:=bqN h
 obtain ⟨hnm,hl2⟩:=okFn_ok h1
 have hl:=Nat.le_of_ble_eq_true h2
 rw [len4_eq] at hl
 obtain ⟨id,ops,hfl,hrc⟩:=headRc_ok hs
 have hch:=chk_flat (hD g fn c hfn hc)
 rw [hfl] at hch
 obtain ⟨_,hch⟩:=and_split (a:=chkC P (D g) (.region id ops false)) (b:=chkCs P (D g) s.2.2) hch
 obtain ⟨ex,E,K',hx,he,h⟩:=xF_ok h
 obtain ⟨a1,a2⟩:=kCs_ok hcf (by omega) hK hch hx
 rw [put4_env (by omega) h4,put4_env (by omega) h3,args_env (by omega)] at a1
 obtain ⟨hr,rfl⟩:=kRes_ok h
 exact ⟨.mk g fn c id ops s.1 s.2.1 s.2.2 args _ ex E.env _ r hfn hnm hc hl hfl hrc (dst4_ok h3).1 (dst4_ok h4).1 a1 he hr,a2⟩
theorem kG4_ok {P : Program} {D : FuncId → Tab} (hD : TabOk P D) {cf : CF} (hcf : CfOk P (cfo cf)) {f : FuncId} {fn : Func} {c : Code} (hfn : P.funcs[f]? = some fn) (hc : fn.body = some c) (hnm : (fn.name == "runtime.NumGoroutine") = false) (hl2 : fn.ntmps ≤ 3999) {args : List AV} (hl : args.length ≤ fn.ntmps) {K : KH} {r : AV} {K1 : KH} (hK : K.Ok) (h : kG4 P D cf f fn c args K = .ok r K1) : EvF P f args K.heap r K1.heap ∧ Sd K K1:=by
 unfold kG4 at h
 obtain ⟨s,hs,h⟩:=oElim_no h
 obtain ⟨h3,h⟩:=bqN h
 obtain ⟨id,ops,hfl,hdf⟩:=splitDf_ok hs
 have hch:=chk_flat (hD f fn c hfn hc)
 rw [hfl] at hch
 obtain ⟨hc1,hch⟩:=chkCs_parts hch
 obtain ⟨_,hc2⟩:=and_split (a:=chkC P (D f) (.region id ops false)) (b:=chkCs P (D f) s.2.2) hch
 obtain ⟨E1,Ka,hx,h⟩:=normX_ok h
 obtain ⟨a1,a2⟩:=kCs_ok hcf (by omega) hK hc1 hx
 obtain ⟨ex,E2,Kb,hy,he,h⟩:=xF_ok h
 obtain ⟨b1,b2⟩:=kCs_ok hcf (by omega) a2.ok hc2 hy
 obtain ⟨r',Kc,hz,h⟩:=qK_ok h
 obtain ⟨d1,d2⟩:=kD4_ok hD hcf b2.ok hz
 rw [app4_eq] at d1
 rw [put4_env (by omega) h3] at b1
 rw [args_env (by omega)] at a1
 rw [argsO_eq,argsO_eq] at b1 d1
 obtain ⟨hr,rfl⟩:=kRes_ok h
 exact ⟨.mkD f fn c s.1 s.2.2 id ops s.2.1.1 s.2.1.2.1 s.2.1.2.2.1 s.2.1.2.2.2 args _ E1.env _ ex E2.env _ _ r hfn hnm hc hl hfl hdf (dst4_ok h3).1 a1 b1 he d1 hr,(a2.trans b2).trans d2⟩
theorem kF4_ok {P : Program} {D : FuncId → Tab} (hD : TabOk P D) : ∀ d,CfOk P (cfo (kF4 P D d))
 | 0=>fun g args K r K1 hK h=>by
  have h:=cfo_some h
  exact noOk h
 | d + 1=>fun f args K r K1 hK h=>by
  have h:=cfo_some h
  have h : oElim .no (fun fn=>oElim .no (fun c=>@Bool.rec (fun _=>Q4) .no (@Bool.rec (fun _=>Q4) .no (orQ (kG4 P D (kF4 P D d) f fn c args K) (xF (kRes P fn.results.toList) (kC4 P (kF4 P D d) (D f) fn.ntmps c (args4 args 0 .nil) K))) (Nat.ble (len4 args) fn.ntmps)) (okFn fn)) fn.body) P.funcs[f]? = .ok r K1:=h
  obtain ⟨fn,hfn,h⟩:=oElim_no h
  obtain ⟨c,hc,h⟩:=oElim_no h
  obtain ⟨h1,h⟩:=bqN h
  obtain ⟨h2,h⟩:=bqN h
  obtain ⟨hnm,hl2⟩:=okFn_ok h1
  have hl:=Nat.le_of_ble_eq_true h2
  rw [len4_eq] at hl
  have henv : (ofArgsK args 0 .nil).env = Env.ofArgs args:=by
   funext t
   rw [ofArgsK_env args 0 .nil (by omega) (fun t _=>rfl)]
   simp [Env.ofArgs]
  rcases orQ_ok h with h | h
  case inr=>exact kG4_ok hD (kF4_ok hD d) hfn hc hnm hl2 hl hK h
  rw [args4_eq args 0 .nil (by omega)] at h
  cases hx : kC4 P (kF4 P D d) (D f) fn.ntmps c (ofArgsK args 0 .nil) K with
  | no=>rw [hx] at h;exact noOk h
  | ok ex E K'=>
   rw [hx] at h
   obtain ⟨a1,a2⟩:=kC_ok (kF4_ok hD d) (by omega) hK (kC4_ok (hD f fn c hfn hc) hx)
   rw [henv] at a1
   cases ex with
   | exit j=>exact noOk h
   | normal=>
    obtain ⟨hr,rfl⟩:=kRes_ok (show kRes P fn.results.toList E K' = .ok r K1 from h)
    exact ⟨.mk f fn c args _ _ E.env _ r hfn hnm hc hl a1 (.inl rfl) hr,a2⟩
   | ret=>
    obtain ⟨hr,rfl⟩:=kRes_ok (show kRes P fn.results.toList E K' = .ok r K1 from h)
    exact ⟨.mk f fn c args _ _ E.env _ r hfn hnm hc hl a1 (.inr rfl) hr,a2⟩

abbrev TabL:=List (Nat × Nat × List (Nat × Nat) × List Nat)
noncomputable def tab4 (l : TabL) (f id : Nat) : Option (List (Nat × Nat) × List Nat):=@List.rec (Nat × Nat × List (Nat × Nat) × List Nat) (fun _=>Option (List (Nat × Nat) × List Nat)) Option.none (fun e _ ih=>(@Bool.rec (fun _=>_) (ih) ((@Bool.rec (fun _=>_) (ih) (some e.2.2) (Nat.beq e.2.1 id))) (Nat.beq e.1 f))) l
noncomputable def chkF (P : Program) (l : TabL) (f : Nat) : Bool:=oElim true (fun fn : Func=>oElim true (fun c=>chkC P (tab4 l f) c) fn.body) P.funcs[f]?
noncomputable def chkT (P : Program) (l : TabL) : TabL → Bool:=@List.rec (Nat × Nat × List (Nat × Nat) × List Nat) (fun _=>Bool) true (fun e _ ih=>(@Bool.rec (fun _=>_) (false) (ih) (chkF P l e.1)))
theorem chkC_none {P : Program} {D : Tab} (h : ∀ id,D id = none) : ∀ c,chkC P D c = true:=by
 intro c
 induction c with
 | region id ops d=>
  show @Bool.rec (fun _=>Bool) true (oElim true (fun p=>drawOkM P ops p.1 p.2) (D id)) d = true
  rw [h id]
  cases d <;> rfl
 | seq x y ihx ihy=>show @Bool.rec (fun _=>Bool) false (chkC P D y) (chkC P D x) = true;rw [ihx,ihy]
 | cond c x y ihx ihy=>show @Bool.rec (fun _=>Bool) false (chkC P D y) (chkC P D x) = true;rw [ihx,ihy]
 | block id c ih=>exact ih
 | loop c ih=>exact ih
 | scope c ih=>exact ih
 | _=>rfl
theorem tab4_none {f : Nat} : ∀ {l : TabL},(∀ e ∈ l,e.1 ≠ f) → ∀ id,tab4 l f id = none
 | [],_,id=>rfl
 | e :: l,h,id=>by
  show @Bool.rec (fun _=>Option (List (Nat × Nat) × List Nat)) (tab4 l f id) _ (Nat.beq e.1 f) = none
  have he : Nat.beq e.1 f = false:=by rw [beqN];exact decide_eq_false (h e List.mem_cons_self)
  rw [he]
  exact tab4_none (fun e he=>h e (List.mem_cons_of_mem _ he)) id
theorem chkT_all {P : Program} {l : TabL} : ∀ {m : TabL},chkT P l m = true → ∀ e ∈ m,chkF P l e.1 = true
 | [],_,e,he=>by cases he
 | x :: m,h,e,he=>by
  obtain ⟨h1,h2⟩:=and_split (a:=chkF P l x.1) (b:=chkT P l m) h
  rcases List.mem_cons.1 he with rfl | he
  ·exact h1
  ·exact chkT_all h2 e he
theorem tab_ok {P : Program} {l : TabL} (h : chkT P l l = true) : TabOk P (tab4 l):=fun f fn c hf hc=>by
 by_cases hm : ∃ e ∈ l,e.1 = f
 ·obtain ⟨e,he,rfl⟩:=hm
  have:=chkT_all h e he
  unfold chkF at this
  rw [hf] at this
  have this : oElim true (fun c=>chkC P (tab4 l e.1) c) fn.body = true:=this
  rw [hc] at this
  exact this
 ·exact chkC_none (tab4_none fun e he q=>hm ⟨e,he,q⟩) c

noncomputable def okN4 (M : Nat) (q : Q4) : Bool:=@Q4.rec (fun _=>Bool) false (fun r K=>@AV.rec (fun _=>Bool) (fun _=>Unit) (fun _=>Unit) (false) (fun b=>(@Bool.rec (fun _=>_) (false) (Nat.ble K.next M) (b))) (fun _ _=>false) (fun _=>false) (false) (fun _ _ _ _=>false) (fun _ _ _=>false) (false) (false) (fun _ _ _ _ _ _=>false) (fun _ _ _=>false) (fun _ _=>false) (fun _ _=>false) (false) (fun _ _ _=>false) (false) (fun _ _ _ _ _=>false) (false) (fun _=>false) () (fun _ _ _ _=>()) () (fun _ _ _ _=>()) r) q
theorem okN4_ok {M : Nat} {q : Q4} (h : okN4 M q = true) : ∃ K,q = .ok (.bool true) K ∧ K.next ≤ M:=by
 cases q with
 | no=>cases h
 | ok r K=>
  cases r with
  | bool b=>
   cases b with
   | true=>exact ⟨K,rfl,Nat.le_of_ble_eq_true h⟩
   | false=>cases h
  | _=>cases h

theorem closed_of {P : Program} {M : Nat} (hM0 : Nat.ble M M0 = true) {f : FuncId} {r : AV} {H1 : Heap} (hF : EvF P f [] ⟨fun _=>none,0⟩ r H1) (hM : ∀ b,M ≤ b → H1.blk b = none) {G : Heap} (hG : Free G) : WF P f [] G fun r' G1=>r' = r ∧ Up G G1:=by
 have hM1:=Nat.le_of_ble_eq_true hM0
 have h1:=hF.frames (M:=M0) (fun b hb=>hM b (Nat.le_trans hM1 hb)) G G.next
 have e : beside M0 G ⟨fun _=>none,0⟩ G.next = ⟨G.blk,0⟩:=Heap.ext' (fun i=>by
  simp only [beside]
  by_cases hi : M0 ≤ i ∧ i < G.next
  ·rw [if_pos hi]
  ·rw [if_neg hi]
   by_cases h1 : M0 ≤ i
   ·exact (hG i (by omega)).symm
   ·exact (hG.low i (by omega)).symm) rfl
 rw [e] at h1
 obtain ⟨k,h2⟩:=h1.renext G.next
 refine ⟨_,_,h2,rfl,fun b x hb=>?_⟩
 simp only [beside]
 rw [if_pos (hG.lt hb)]
 exact hb
end Go.Ev
set_option linter.unusedVariables false
set_option linter.unusedSimpArgs false
namespace Go.Ev


mutual
def eqAV : AV → AV → Bool
 | .undef,.undef=>true
 | .bool b,.bool b'=>b == b'
 | .int k n,.int k' n'=>decide (k = k') && decide (n = n')
 | .str s,.str s'=>s == s'
 | .nilptr,.nilptr=>true
 | .ptr b i o g,.ptr b' i' o' g'=>Nat.beq b b' && Nat.beq i i' && Nat.beq o o' && Nat.beq g g'
 | .iptr cs o,.iptr cs' o'=>eqAVs cs cs' && Nat.beq o o'
 | .nilslice,.nilslice=>true
 | .eslice,.eslice=>true
 | .slice b o l c ex g,.slice b' o' l' c' ex' g'=>Nat.beq b b' && Nat.beq o o' && Nat.beq l l' && Nat.beq c c' && ex == ex' && Nat.beq g g'
 | .lst n es,.lst n' es'=>Nat.beq n n' && eqAVss es es'
 | .agg cs,.agg cs'=>eqAVs cs cs'
 | .tuple cs,.tuple cs'=>eqAVs cs cs'
 | .nilIface,.nilIface=>true
 | .iface t v,.iface t' v'=>Nat.beq t t' && eqAV v v'
 | .nilFunc,.nilFunc=>true
 | .func f u w,.func f' u' w'=>decide (f = f') && eqAVs u u' && eqAVs w w'
 | .nilMap,.nilMap=>true
 | .map b,.map b'=>Nat.beq b b'
 | _,_=>false
def eqAVs : List AV → List AV → Bool
 | [],[]=>true
 | a :: l,b :: m=>eqAV a b && eqAVs l m
 | _,_=>false
def eqAVss : List (List AV) → List (List AV) → Bool
 | [],[]=>true
 | a :: l,b :: m=>eqAVs a b && eqAVss l m
 | _,_=>false
end
theorem nbeq {a b : Nat} (h : Nat.beq a b = true) : a = b:=Nat.eq_of_beq_eq_true h
mutual
theorem eqAV_ok : ∀ (a b : AV),eqAV a b = true → a = b:=by
 intro a b h
 cases a <;> cases b <;> simp only [eqAV,Bool.and_eq_true,decide_eq_true_eq,beq_iff_eq,reduceCtorEq,Bool.false_eq_true] at h
 all_goals first
  | rfl
  | (subst h;rfl)
  | (obtain ⟨rfl,rfl⟩:=h;rfl)
  | (rw [nbeq h])
  | (obtain ⟨⟨⟨h1,h2⟩,h3⟩,h4⟩:=h;rw [nbeq h1,nbeq h2,nbeq h3,nbeq h4])
  | (obtain ⟨⟨⟨⟨⟨h1,h2⟩,h3⟩,h4⟩,rfl⟩,h6⟩:=h;rw [nbeq h1,nbeq h2,nbeq h3,nbeq h4,nbeq h6])
  | (rw [eqAVs_ok _ _ h])
  | (obtain ⟨h1,h2⟩:=h;rw [eqAVs_ok _ _ h1,nbeq h2])
  | (obtain ⟨h1,h2⟩:=h;rw [nbeq h1,eqAVss_ok _ _ h2])
  | (obtain ⟨h1,h2⟩:=h;rw [nbeq h1,eqAV_ok _ _ h2])
  | (obtain ⟨⟨rfl,h1⟩,h2⟩:=h;rw [eqAVs_ok _ _ h1,eqAVs_ok _ _ h2])
theorem eqAVs_ok : ∀ (a b : List AV),eqAVs a b = true → a = b
 | [],[],_=>rfl
 | [],_ :: _,h=>by simp [eqAVs] at h
 | _ :: _,[],h=>by simp [eqAVs] at h
 | a :: l,b :: m,h=>by
  simp only [eqAVs,Bool.and_eq_true] at h
  rw [eqAV_ok a b h.1,eqAVs_ok l m h.2]
theorem eqAVss_ok : ∀ (a b : List (List AV)),eqAVss a b = true → a = b
 | [],[],_=>rfl
 | [],_ :: _,h=>by simp [eqAVss] at h
 | _ :: _,[],h=>by simp [eqAVss] at h
 | a :: l,b :: m,h=>by
  simp only [eqAVss,Bool.and_eq_true] at h
  rw [eqAVs_ok a b h.1,eqAVss_ok l m h.2]
end
def eqEs : List (AV × AV × Nat) → List (AV × AV × Nat) → Bool
 | [],[]=>true
 | (a,b,n) :: l,(a',b',n') :: m=>eqAV a a' && eqAV b b' && Nat.beq n n' && eqEs l m
 | _,_=>false
theorem eqEs_ok : ∀ (a b : List (AV × AV × Nat)),eqEs a b = true → a = b
 | [],[],_=>rfl
 | [],_ :: _,h=>by simp [eqEs] at h
 | _ :: _,[],h=>by simp [eqEs] at h
 | (a,b,n) :: l,(a',b',n') :: m,h=>by
  simp only [eqEs,Bool.and_eq_true] at h
  rw [eqAV_ok _ _ h.1.1.1,eqAV_ok _ _ h.1.1.2,nbeq h.1.2,eqEs_ok l m h.2]
def eqBlk : Blk → Blk → Bool
 | .row t z e g w,.row t' z' e' g' w'=>Nat.beq t t' && Nat.beq z z' && eqAVss e e' && Nat.beq g g' && Nat.beq w w'
 | .map es c,.map es' c'=>eqEs es es' && Nat.beq c c'
 | _,_=>false
theorem eqBlk_ok {a b : Blk} (h : eqBlk a b = true) : a = b:=by
 cases a <;> cases b <;> simp only [eqBlk,Bool.and_eq_true,Bool.false_eq_true] at h
 ·obtain ⟨⟨⟨⟨h1,h2⟩,h3⟩,h4⟩,h5⟩:=h
  rw [nbeq h1,nbeq h2,eqAVss_ok _ _ h3,nbeq h4,nbeq h5]
 ·rw [eqEs_ok _ _ h.1,nbeq h.2]
def eqTrA : Tr AV → Tr AV → Bool
 | .nil,.nil=>true
 | .node l v r,.node l' v' r'=>(match v,v' with | none,none=>true | some a,some b=>eqAV a b | _,_=>false) && eqTrA l l' && eqTrA r r'
 | _,_=>false
theorem eqTrA_ok : ∀ (a b : Tr AV),eqTrA a b = true → a = b
 | .nil,.nil,_=>rfl
 | .nil,.node _ _ _,h=>by simp [eqTrA] at h
 | .node _ _ _,.nil,h=>by simp [eqTrA] at h
 | .node l v r,.node l' v' r',h=>by
  simp only [eqTrA,Bool.and_eq_true] at h
  rw [eqTrA_ok l l' h.1.2,eqTrA_ok r r' h.2]
  cases v <;> cases v' <;> simp only [Bool.false_eq_true,false_and] at h
  ·rfl
  ·rw [eqAV_ok _ _ h.1.1]

abbrev RL:=List (Nat × Blk)
noncomputable def mkT (R : RL) : Tr Blk:=@List.rec (Nat × Blk) (fun _=>Tr Blk) .nil (fun e _ ih=>putP e.2 (pathOf e.1) ih) R
noncomputable def mkK (N : Nat) (R : RL) : KH:=⟨mkT R,N,N,[]⟩
noncomputable def mkE (R : List (Nat × AV)) : KE:=@List.rec (Nat × AV) (fun _=>KE) .nil (fun e _ ih=>putP e.2 (pathOf e.1) ih) R
theorem get_putP {α : Type} (x : α) (t : Tr α) (n m : Nat) : (putP x (pathOf n) t).get m = if m = n then some x else t.get m:=by
 have h : n + 1 < 2 ^ (n + 1):=Nat.lt_two_pow_self
 rw [putP_eq x n t (n + 1) h,Tr.get_put x _ t n m h]
theorem mkT_get : ∀ {R : RL} {b : Nat} {x : Blk},(mkT R).get b = some x → (b,x) ∈ R
 | [],b,x,h=>by cases h
 | e :: R,b,x,h=>by
  rw [show mkT (e :: R) = putP e.2 (pathOf e.1) (mkT R) from rfl,get_putP] at h
  by_cases hb : b = e.1
  ·rw [if_pos hb] at h
   cases h
   subst hb
   exact List.mem_cons_self
  ·rw [if_neg hb] at h
   exact List.mem_cons_of_mem _ (mkT_get h)
theorem mkT_some : ∀ {R : RL} {b : Nat},b ∈ R.map (·.1) → ∃ x,(mkT R).get b = some x
 | [],b,h=>by simp at h
 | e :: R,b,h=>by
  rw [show mkT (e :: R) = putP e.2 (pathOf e.1) (mkT R) from rfl,get_putP]
  by_cases hb : b = e.1
  ·exact ⟨_,by rw [if_pos hb]⟩
  ·rw [if_neg hb]
   simp only [List.map_cons,List.mem_cons] at h
   exact mkT_some (h.resolve_left hb)
def below (N : Nat) : RL → Bool
 | []=>true
 | e :: R=>Nat.blt e.1 N && below N R
theorem below_ok {N : Nat} : ∀ {R : RL},below N R = true → ∀ e ∈ R,e.1 < N
 | [],_,e,he=>by cases he
 | x :: R,h,e,he=>by
  simp only [below,Bool.and_eq_true,bltN,decide_eq_true_eq] at h
  rcases List.mem_cons.1 he with rfl | he
  ·exact h.1
  ·exact below_ok h.2 e he
theorem mkK_ok {N : Nat} {R : RL} (h : below N R = true) : (mkK N R).Ok:=⟨fun b hb=>by
 cases hg : (mkT R).get b with
 | none=>exact hg
 | some x=>
  have:=below_ok h _ (mkT_get hg)
  exact absurd this (Nat.not_lt.2 hb),Nat.le_refl _⟩

def over (k : Nat) (G H1 X : Heap) : Heap:=⟨fun b=>if b < k ∧ (H1.blk b).isNone = true then G.blk b else X.blk b,X.next⟩
theorem EvC.over {P : Program} {n : Nat} {c : Code} {env : Env} {H0 : Heap} {ex : Ex} {env' : Env} {H1 : Heap} (h : EvC P n c env H0 ex env' H1) {F : Heap} (hF : Dom H1 F) (G : Heap) : ∀ k,EvC P n c env (over k G F H0) ex env' (over k G F H1)
 | 0=>by
  have e : ∀ X : Heap,Go.Ev.over 0 G F X = X:=fun X=>Heap.ext' (fun i=>by simp [Go.Ev.over]) rfl
  rw [e,e];exact h
 | k + 1=>by
  have ih:=h.over hF G k
  have hd:=h.dom
  cases h1 : F.blk k with
  | some y=>
   have e : ∀ X : Heap,Go.Ev.over (k + 1) G F X = Go.Ev.over k G F X:=fun X=>Heap.ext' (fun i=>by
    simp only [Go.Ev.over]
    by_cases hi : i = k
    ·subst hi;rw [h1];simp
    ·by_cases hi2 : i < k ∧ (F.blk i).isNone = true
     ·rw [if_pos hi2,if_pos ⟨by omega,hi2.2⟩]
     ·rw [if_neg hi2,if_neg (fun q=>hi2 ⟨by omega,q.2⟩)]) rfl
   rw [e,e];exact ih
  | none=>
   have h11 : H1.blk k = none:=none_of_dom hF h1
   have h0 : H0.blk k = none:=none_of_dom hd h11
   cases hx : G.blk k with
   | none=>
    have e : ∀ X : Heap,X.blk k = none → Go.Ev.over (k + 1) G F X = Go.Ev.over k G F X:=fun X hX=>Heap.ext' (fun i=>by
     simp only [Go.Ev.over]
     by_cases hi : i = k
     ·subst hi;rw [h1,hx,hX];simp
     ·by_cases hi2 : i < k ∧ (F.blk i).isNone = true
      ·rw [if_pos hi2,if_pos ⟨by omega,hi2.2⟩]
      ·rw [if_neg hi2,if_neg (fun q=>hi2 ⟨by omega,q.2⟩)]) rfl
    rw [e H0 h0,e H1 h11];exact ih
   | some x=>
    have e : ∀ X : Heap,Go.Ev.over (k + 1) G F X = (Go.Ev.over k G F X).set k x:=fun X=>Heap.ext' (fun i=>by
     simp only [Go.Ev.over,Heap.set]
     by_cases hi : i = k
     ·subst hi;rw [h1,hx];simp
     ·rw [if_neg hi]
      by_cases hi2 : i < k ∧ (F.blk i).isNone = true
      ·rw [if_pos hi2,if_pos ⟨by omega,hi2.2⟩]
      ·rw [if_neg hi2,if_neg (fun q=>hi2 ⟨by omega,q.2⟩)]) rfl
    rw [e,e]
    exact ih.frame x (by simp only [Go.Ev.over];rw [if_neg (by omega)];exact h11)

structure At (N : Nat) (R : RL) (H : Heap) : Prop where
 next : H.next = N
 free : ∀ b,N ≤ b → H.blk b = none
 has : ∀ b x,(mkT R).get b = some x → H.blk b = some x

noncomputable def hasAll (K : KH) : RL → Bool:=@List.rec (Nat × Blk) (fun _=>Bool) true (fun e _ ih=>(@Bool.rec (fun _=>_) (false) (ih) (oElim false (fun x=>eqBlk x e.2) (getP (pathOf e.1) K.blk))))
noncomputable def inR (R : RL) (b : Nat) : Bool:=@List.rec (Nat × Blk) (fun _=>Bool) false (fun e _ ih=>(@Bool.rec (fun _=>_) (ih) (true) (Nat.beq e.1 b))) R
noncomputable def logIn (R : RL) : List Nat → Bool:=@List.rec Nat (fun _=>Bool) true (fun b _ ih=>(@Bool.rec (fun _=>_) (false) (ih) (inR R b)))
theorem hasAll_ok {K : KH} : ∀ {R : RL},hasAll K R = true → ∀ e ∈ R,K.blk.get e.1 = some e.2
 | [],_,e,he=>by cases he
 | x :: R,h,e,he=>by
  obtain ⟨h1,h2⟩:=and_split (a:=oElim false (fun y=>eqBlk y x.2) (getP (pathOf x.1) K.blk)) (b:=hasAll K R) h
  rcases List.mem_cons.1 he with rfl | he
  ·rw [getP_eq] at h1
   cases hg : K.blk.get e.1 with
   | none=>rw [hg] at h1;cases h1
   | some y=>rw [hg] at h1;rw [eqBlk_ok (show eqBlk y e.2 = true from h1)]
  ·exact hasAll_ok h2 e he
theorem inR_ok {b : Nat} : ∀ {R : RL},inR R b = true → b ∈ R.map (·.1)
 | [],h=>by cases h
 | e :: R,h=>by
  have h : @Bool.rec (fun _=>Bool) (inR R b) true (Nat.beq e.1 b) = true:=h
  rw [beqN] at h
  by_cases he : e.1 = b
  ·simp [he]
  ·rw [decide_eq_false he] at h
   simp only [List.map_cons,List.mem_cons]
   exact .inr (inR_ok h)
theorem logIn_ok {R : RL} : ∀ {l : List Nat},logIn R l = true → ∀ b ∈ l,b ∈ R.map (·.1)
 | [],_,b,hb=>by cases hb
 | c :: l,h,b,hb=>by
  obtain ⟨h1,h2⟩:=and_split (a:=inR R c) (b:=logIn R l) h
  rcases List.mem_cons.1 hb with rfl | hb
  ·exact inR_ok h1
  ·exact logIn_ok h2 b hb

theorem EvP.app {P : Program} {n : Nat} : ∀ {l : List Code} {env : Env} {H : Heap} {env1 : Env} {H1 : Heap},EvP P n l env H .normal env1 H1 → ∀ {m : List Code} {ex : Ex} {env2 : Env} {H2 : Heap},EvP P n m env1 H1 ex env2 H2 → EvP P n (l ++ m) env H ex env2 H2
 | [],_,_,_,_,h,_,_,_,_,hm=>by cases h;exact hm
 | c :: l,_,_,_,_,h,_,_,_,_,hm=>by
  cases h with
  | cons _ _ _ _ _ env1 H1 _ _ _ h h'=>exact .cons _ _ _ _ _ _ _ _ _ _ h (EvP.app h' hm)
  | out _ _ _ _ _ _ _ _ h hx=>exact absurd rfl hx
theorem EvP.split {P : Program} {n : Nat} : ∀ {l m : List Code} {env : Env} {H : Heap} {ex : Ex} {env2 : Env} {H2 : Heap},EvP P n (l ++ m) env H ex env2 H2 → (∃ env1 H1,EvP P n l env H .normal env1 H1 ∧ EvP P n m env1 H1 ex env2 H2) ∨ (EvP P n l env H ex env2 H2 ∧ ex ≠ .normal)
 | [],m,env,H,ex,env2,H2,h=>.inl ⟨_,_,.nil _ _ _,h⟩
 | c :: l,m,env,H,ex,env2,H2,h=>by
  cases h with
  | cons _ _ _ _ _ env1 H1 _ _ _ h h'=>
   rcases EvP.split h' with ⟨e,G,h1,h2⟩ | ⟨h1,h2⟩
   ·exact .inl ⟨e,G,.cons _ _ _ _ _ _ _ _ _ _ h h1,h2⟩
   ·exact .inr ⟨.cons _ _ _ _ _ _ _ _ _ _ h h1,h2⟩
  | out _ _ _ _ _ _ _ _ h hx=>exact .inr ⟨.out _ _ _ _ _ _ _ _ h hx,hx⟩
theorem EvP.one {P : Program} {n : Nat} {c : Code} {env : Env} {H : Heap} {ex : Ex} {env1 : Env} {H1 : Heap} (h : EvP P n [c] env H ex env1 H1) : EvC P n c env H ex env1 H1:=by
 cases h with
 | cons _ _ _ _ _ _ _ _ _ _ h h'=>cases h';exact h
 | out _ _ _ _ _ _ _ _ h hx=>exact h
theorem EvP.code {P : Program} {n : Nat} : ∀ {c : Code} {env : Env} {H : Heap} {ex : Ex} {env1 : Env} {H1 : Heap},EvP P n (flat c) env H ex env1 H1 → EvC P n c env H ex env1 H1:=by
 intro c
 induction c with
 | seq x y ihx ihy=>
  intro env H ex env1 H1 h
  rw [show flat (.seq x y) = flat x ++ flat y from rfl] at h
  rcases h.split with ⟨e,G,h1,h2⟩ | ⟨h1,h2⟩
  ·exact .seq _ _ _ _ _ _ _ _ _ _ (ihx h1) (ihy h2)
  ·exact .seqOut _ _ _ _ _ _ _ _ (ihx h1) h2
 | _=>intro env H ex env1 H1 h;exact h.one
theorem EvP.over {P : Program} {n : Nat} : ∀ {l : List Code} {env : Env} {H0 : Heap} {ex : Ex} {env' : Env} {H1 : Heap},EvP P n l env H0 ex env' H1 → ∀ {F : Heap},Dom H1 F → ∀ (G : Heap) (k : Nat),EvP P n l env (over k G F H0) ex env' (over k G F H1)
 | [],_,_,_,_,_,h,_,hF,G,k=>by cases h;exact .nil _ _ _
 | c :: l,_,_,_,_,_,h,_,hF,G,k=>by
  cases h with
  | cons _ _ _ _ _ env1 H1 _ _ _ h h'=>exact .cons _ _ _ _ _ _ _ _ _ _ (h.over (h'.dom.trans hF) G k) (EvP.over h' hF G k)
  | out _ _ _ _ _ _ _ _ h hx=>exact .out _ _ _ _ _ _ _ _ (h.over hF G k) hx

theorem piece_at {P : Program} {D : FuncId → Tab} (hD : TabOk P D) {d n : Nat} (hn : n < 4000) {D0 : Tab} {l : List Code} (hc : chkCs P D0 l = true) {N : Nat} {R : RL} {E : KE} (hb : below N R = true) {ex : Ex} {E1 : KE} {K1 : KH}
  (h : kCs P (kF4 P D d) D0 n l E (mkK N R) = .ok ex E1 K1) (hlog : logIn R K1.log = true) {H : Heap} (hH : At N R H) :
  ∃ H1,EvP P n l E.env H ex E1.env H1 ∧ H1.next = K1.next ∧ (∀ b,K1.next ≤ b → H1.blk b = none) ∧ Up K1.heap H1:=by
 obtain ⟨h1,hS⟩:=kCs_ok (kF4_ok hD d) hn (mkK_ok hb) hc h
 have h2:=h1.over (Dom.refl _) H N
 have e : over N H K1.heap (mkK N R).heap = H:=Heap.ext' (fun i=>by
  simp only [over]
  by_cases hi : i < N ∧ (K1.heap.blk i).isNone = true
  ·rw [if_pos hi]
  ·rw [if_neg hi]
   show (mkT R).get i = H.blk i
   cases hg : (mkT R).get i with
   | some x=>exact (hH.has i x hg).symm
   | none=>
    by_cases hN : N ≤ i
    ·exact (hH.free i hN).symm
    ·exfalso
     refine hi ⟨by omega,?_⟩
     have hl : i ∉ K1.log:=fun q=>by
      obtain ⟨x,hx⟩:=mkT_some (logIn_ok hlog i q)
      rw [hg] at hx;cases hx
     have:=hS.same i (show i < N by omega) hl
     show (K1.blk.get i).isNone = true
     rw [this]
     show ((mkT R).get i).isNone = true
     rw [hg];rfl) hH.next.symm
 rw [e] at h2
 refine ⟨_,h2,rfl,fun b hb=>?_,fun b x hx=>?_⟩
 ·simp only [over]
  rw [if_neg (fun q=>absurd q.1 (Nat.not_lt.2 (Nat.le_trans hS.next hb)))]
  exact hS.ok.none b hb
 ·simp only [over]
  rw [if_neg (fun q=>by rw [hx] at q;cases q.2)]
  exact hx

noncomputable def isNorm (ex : Ex) : Bool:=@Ex.rec (fun _=>Bool) true (fun _=>false) false ex
noncomputable def pieceOk (R : RL) (N1 : Nat) (R1 : RL) (E1 : List (Nat × AV)) (q : X4) : Bool:=
 @X4.rec (fun _=>Bool) false (fun ex E K=>(@Bool.rec (fun _=>_) (false) ((@Bool.rec (fun _=>_) (false) ((@Bool.rec (fun _=>_) (false) ((@Bool.rec (fun _=>_) (false) (hasAll K R1) (logIn R K.log))) (Nat.beq K.next N1))) (eqTrA E (mkE E1)))) (isNorm ex))) q
theorem piece_ok {P : Program} {D : FuncId → Tab} (hD : TabOk P D) {d n : Nat} (hn : n < 4000) {D0 : Tab} {l : List Code} (hc : chkCs P D0 l = true) {N : Nat} {R : RL} {E : List (Nat × AV)} (hb : below N R = true) {N1 : Nat} {R1 : RL} {E1 : List (Nat × AV)}
  (h : pieceOk R N1 R1 E1 (kCs P (kF4 P D d) D0 n l (mkE E) (mkK N R)) = true) {H : Heap} (hH : At N R H) :
  ∃ H1,EvP P n l (mkE E).env H .normal (mkE E1).env H1 ∧ At N1 R1 H1:=by
 cases hq : kCs P (kF4 P D d) D0 n l (mkE E) (mkK N R) with
 | no=>rw [hq] at h;cases h
 | ok ex E' K'=>
  rw [hq] at h
  obtain ⟨h1,h⟩:=and_split (a:=isNorm ex) h
  obtain ⟨h2,h⟩:=and_split (a:=eqTrA E' (mkE E1)) h
  obtain ⟨h3,h⟩:=and_split (a:=Nat.beq K'.next N1) h
  obtain ⟨h4,h5⟩:=and_split (a:=logIn R K'.log) h
  have hex : ex = .normal:=by cases ex <;> first | rfl | cases h1
  subst hex
  obtain rfl:=eqTrA_ok _ _ h2
  have h3:=nbeq h3
  obtain ⟨H1,a1,a2,a3,a4⟩:=piece_at hD hn hc hb hq h4 hH
  exact ⟨H1,a1,a2.trans h3,fun b hb=>a3 b (by rw [h3];exact hb),fun b x hx=>a4 b x (hasAll_ok h5 _ (mkT_get hx))⟩

theorem results_up {P : Program} {env : Env} {H G : Heap} (hu : Up H G) : ∀ {rs : List ResultVar} {vs : List AV},evResultsL P env H rs = some vs → evResultsL P env G rs = some vs
 | [],vs,h=>h
 | r :: rs,vs,h=>by
  simp only [evResultsL] at h ⊢
  cases h1 : evResult P env H r with
  | none=>rw [h1] at h;cases h
  | some v=>
   cases h2 : evResultsL P env H rs with
   | none=>rw [h1,h2] at h;cases h
   | some us=>
    rw [h1,h2] at h
    rw [results_up hu h2]
    have : evResult P env G r = some v:=by
     cases r with
     | tmp t=>exact h1
     | cell a t=>
      simp only [evResult] at h1 ⊢
      split at h1
      ·obtain ⟨cs,hc,e⟩:=map_some_eq h1
       rename_i hag hs
       rw [load_up hc hu]
       exact congrArg some e
      ·split at h1
       ·rename_i w hw
        rw [load_up hw hu]
        exact h1
       ·cases h1
      ·cases h1
    rw [this]
    exact h
noncomputable def lastOk (P : Program) (rs : List ResultVar) (R : RL) (M : Nat) (q : X4) : Bool:=
 @X4.rec (fun _=>Bool) false (fun ex E K=>(@Bool.rec (fun _=>_) (false) (okN4 M (@Ex.rec (fun _=>Q4) (kRes P rs E K) (fun _=>.no) (kRes P rs E K) ex)) (logIn R K.log))) q
theorem last_ok {P : Program} {D : FuncId → Tab} (hD : TabOk P D) {d n : Nat} (hn : n < 4000) {D0 : Tab} {l : List Code} (hc : chkCs P D0 l = true) {N : Nat} {R : RL} {E : List (Nat × AV)} (hb : below N R = true) {rs : List ResultVar} {M : Nat}
  (h : lastOk P rs R M (kCs P (kF4 P D d) D0 n l (mkE E) (mkK N R)) = true) {H : Heap} (hH : At N R H) :
  ∃ H1 ex env1,EvP P n l (mkE E).env H ex env1 H1 ∧ (ex = .normal ∨ ex = .ret) ∧ evResults P rs env1 H1 = some (.bool true) ∧ ∀ b,M ≤ b → H1.blk b = none:=by
 cases hq : kCs P (kF4 P D d) D0 n l (mkE E) (mkK N R) with
 | no=>rw [hq] at h;cases h
 | ok ex E' K'=>
  rw [hq] at h
  obtain ⟨h1,h⟩:=and_split (a:=logIn R K'.log) h
  obtain ⟨H1,a1,a2,a3,a4⟩:=piece_at hD hn hc hb hq h1 hH
  obtain ⟨K2,h2,h3⟩:=okN4_ok h
  have key : kRes P rs E' K' = .ok (.bool true) K2 → ∃ H1 ex' env1,EvP P n l (mkE E).env H ex' env1 H1 ∧ ex' = ex ∧ evResults P rs env1 H1 = some (.bool true) ∧ ∀ b,M ≤ b → H1.blk b = none:=fun hk=>by
   obtain ⟨b1,rfl⟩:=kRes_ok hk
   refine ⟨H1,ex,_,a1,rfl,?_,fun b hb=>a3 b (Nat.le_trans h3 hb)⟩
   unfold evResults at b1 ⊢
   cases hr : evResultsL P E'.env K2.heap rs with
   | none=>rw [hr] at b1;cases b1
   | some vs=>rw [hr] at b1;rw [results_up a4 hr];exact b1
  cases ex with
  | exit j=>exact noOk h2
  | normal=>obtain ⟨H1,ex',env1,c1,c2,c3⟩:=key h2;exact ⟨H1,ex',env1,c1,.inl c2,c3⟩
  | ret=>obtain ⟨H1,ex',env1,c1,c2,c3⟩:=key h2;exact ⟨H1,ex',env1,c1,.inr c2,c3⟩

theorem chkCs_mem {P : Program} {D : Tab} : ∀ {l : List Code},chkCs P D l = true → ∀ c ∈ l,chkC P D c = true
 | [],_,c,hc=>by cases hc
 | x :: l,h,c,hc=>by
  obtain ⟨h1,h2⟩:=and_split (a:=chkC P D x) (b:=chkCs P D l) h
  rcases List.mem_cons.1 hc with rfl | hc
  ·exact h1
  ·exact chkCs_mem h2 c hc
theorem chkCs_of {P : Program} {D : Tab} : ∀ {l : List Code},(∀ c ∈ l,chkC P D c = true) → chkCs P D l = true
 | [],_=>rfl
 | x :: l,h=>by
  show @Bool.rec (fun _=>Bool) false (chkCs P D l) (chkC P D x) = true
  rw [h x List.mem_cons_self]
  exact chkCs_of fun c hc=>h c (List.mem_cons_of_mem _ hc)
theorem chk_drop {P : Program} {D : Tab} {l : List Code} (h : chkCs P D l = true) (a : Nat) : chkCs P D (drop4 l a) = true:=by
 rw [drop4_eq];exact chkCs_of fun c hc=>chkCs_mem h c (List.mem_of_mem_drop hc)
theorem chk_take {P : Program} {D : Tab} {l : List Code} (h : chkCs P D l = true) (a k : Nat) : chkCs P D (take4 (drop4 l a) k) = true:=by
 rw [take4_eq];exact chkCs_of fun c hc=>chkCs_mem (chk_drop h a) c (List.mem_of_mem_take hc)
theorem EvP.join {P : Program} {n : Nat} {l : List Code} {a k : Nat} {env : Env} {H : Heap} {env1 : Env} {H1 : Heap} (h : EvP P n (take4 (drop4 l a) k) env H .normal env1 H1) {ex : Ex} {env2 : Env} {H2 : Heap} (hm : EvP P n (drop4 l (a + k)) env1 H1 ex env2 H2) : EvP P n (drop4 l a) env H ex env2 H2:=by
 have:=h.app hm
 rw [take4_eq,drop4_eq,drop4_eq,← List.drop_drop,List.take_append_drop] at this
 rw [drop4_eq];exact this
theorem at_start : At 0 [] ⟨fun _=>none,0⟩:=⟨rfl,fun _ _=>rfl,fun b x h=>by cases h⟩
theorem evf_of {P : Program} {f : FuncId} {fn : Func} {c : Code} (hf : P.funcs[f]? = some fn) (hn : (fn.name == "runtime.NumGoroutine") = false) (hb : fn.body = some c) {l : List Code} (hl : flat c = l) {ex : Ex} {env1 : Env} {H1 : Heap}
  (h : EvP P fn.ntmps l (mkE []).env ⟨fun _=>none,0⟩ ex env1 H1) (hx : ex = .normal ∨ ex = .ret) {r : AV} (hr : evResults P fn.results.toList env1 H1 = some r) : EvF P f [] ⟨fun _=>none,0⟩ r H1:=by
 subst hl
 have he : (mkE []).env = Env.ofArgs []:=by funext t;rfl
 rw [he] at h
 exact .mk f fn c [] _ ex env1 H1 r hf hn hb (Nat.zero_le _) h.code hx hr
end Go.Ev
