import Derived.Test.YtjlmgabhhodhfaaGreatDoorX4X10
import Derived.Test.YtjlmgabhhodhfaaGreatDoorX18
set_option linter.unusedVariables false
set_option linter.unusedSimpArgs false
namespace Go.Proofs.T
inductive Reach (chk : Nat → Int → Bool) (mv : Nat → Int → List (Nat × Int)) : Nat → Int → Prop
 | start : Reach chk mv 0 0
 | step (p : Nat) (h : Int) (q : Nat) (k : Int) (hp : Reach chk mv p h) (hc : chk p h = true) (hm : (q,k) ∈ mv p h) : Reach chk mv q k
def Fine (n : Nat) (chk : Nat → Int → Bool) (mv : Nat → Int → List (Nat × Int)) : Prop:=
 ∀ p h,Reach chk mv p h → p < n ∧ chk p h = true ∧ ∀ k,Reach chk mv p k → k = h
def hat (l : List Int) (p : Nat) : Int:=l.getD p (-1)
def Hts (n : Nat) (chk : Nat → Int → Bool) (mv : Nat → Int → List (Nat × Int)) (l : List Int) : Prop:=
 l.length = n ∧ ∀ p,(0 ≤ hat l p ∧ Reach chk mv p (hat l p)) ∨ (hat l p = -1 ∧ ∀ h,¬ Reach chk mv p h)

theorem hat_set {l : List Int} {p : Nat} {x : Int} (h : p < l.length) (q : Nat) : hat (l.set p x) q = if q = p then x else hat l q:=by
 unfold hat
 rw [List.getD_eq_getElem?_getD,List.getD_eq_getElem?_getD,List.getElem?_set]
 by_cases e : p = q
 ·subst e;simp [h]
 ·rw [if_neg e,if_neg (fun e'=>e e'.symm)]
theorem hat_lt {l : List Int} {p : Nat} (h : 0 ≤ hat l p) : p < l.length:=by
 apply Classical.byContradiction
 intro hn
 unfold hat at h
 rw [List.getD_eq_getElem?_getD,List.getElem?_eq_none (by omega)] at h
 simp at h
theorem hat_rep (n p : Nat) : hat (List.replicate n (-1)) p = -1:=by
 unfold hat
 rw [List.getD_eq_getElem?_getD,List.getElem?_replicate]
 split <;> rfl

section
variable {n : Nat} {chk : Nat → Int → Bool} {mv : Nat → Int → List (Nat × Int)}

theorem Fine.uniq (hF : Fine n chk mv) {p : Nat} {h k : Int} (h1 : Reach chk mv p h) (h2 : Reach chk mv p k) : h = k:=(hF p k h2).2.2 h h1
theorem Hts.uniq (hF : Fine n chk mv) {l m : List Int} (h1 : Hts n chk mv l) (h2 : Hts n chk mv m) : l = m:=by
 have e : ∀ p,hat l p = hat m p:=fun p=>by
  rcases h1.2 p with ⟨_,a⟩ | ⟨a,b⟩
  ·rcases h2.2 p with ⟨_,c⟩ | ⟨c,d⟩
   ·exact hF.uniq a c
   ·exact absurd a (d _)
  ·rcases h2.2 p with ⟨_,c⟩ | ⟨c,d⟩
   ·exact absurd c (b _)
   ·rw [a,c]
 refine List.ext_getElem (by rw [h1.1,h2.1]) fun i a b=>?_
 have:=e i
 unfold hat at this
 rw [List.getD_eq_getElem?_getD,List.getD_eq_getElem?_getD,List.getElem?_eq_getElem a,List.getElem?_eq_getElem b] at this
 exact this

def unv (l : List Int) : Nat:=l.countP fun x=>decide (x < 0)
theorem unv_set {l : List Int} {p : Nat} {x : Int} (hp : p < l.length) (h : hat l p < 0) (hx : 0 ≤ x) : unv (l.set p x) + 1 = unv l:=by
 have e : l[p] < 0:=by
  unfold hat at h
  rw [List.getD_eq_getElem?_getD,List.getElem?_eq_getElem hp] at h
  exact h
 have hpos : 0 < unv l:=List.countP_pos_iff.2 ⟨l[p],List.getElem_mem hp,by simpa using e⟩
 unfold unv at hpos ⊢
 rw [List.countP_set hp]
 have : ¬ x < 0:=by omega
 simp only [e,this,decide_true,decide_false,if_true,Bool.false_eq_true,if_false]
 omega
theorem unv_le : ∀ (l m : List Int),l.length = m.length → (∀ p,0 ≤ hat l p → hat m p = hat l p) → unv m ≤ unv l
 | [],[],_,_=>Nat.le_refl _
 | a :: l,b :: m,hl,h=>by
  have ih:=unv_le l m (by simpa using hl) (fun p hp=>h (p + 1) hp)
  have h0:=h 0
  unfold unv at ih ⊢
  rw [List.countP_cons,List.countP_cons]
  have e1 : hat (a :: l) 0 = a:=rfl
  have e2 : hat (b :: m) 0 = b:=rfl
  rw [e1,e2] at h0
  by_cases ha : 0 ≤ a
  ·have:=h0 ha
   subst this
   omega
  ·have : a < 0:=by omega
   simp only [this,decide_true,if_true]
   split <;> omega

def Inv1 (n : Nat) (chk : Nat → Int → Bool) (mv : Nat → Int → List (Nat × Int)) (l : List Int) (todo : List Nat) (x : Option Nat) : Prop:=
 l.length = n ∧ (∀ p,hat l p = -1 ∨ (0 ≤ hat l p ∧ Reach chk mv p (hat l p))) ∧ (∀ p ∈ todo,0 ≤ hat l p) ∧ hat l 0 = 0 ∧
 ∀ p,0 ≤ hat l p → p ∉ todo → some p ≠ x → chk p (hat l p) = true ∧ ∀ m ∈ mv p (hat l p),hat l m.1 = m.2
def Inn1 (n : Nat) (chk : Nat → Int → Bool) (mv : Nat → Int → List (Nat × Int)) (l : List Int) (todo : List Nat) (p : Nat) (h : Int) (i : Nat) : Prop:=
 Inv1 n chk mv l todo (some p) ∧ hat l p = h ∧ 0 ≤ h ∧ chk p h = true ∧ ∀ m ∈ (mv p h).take i,hat l m.1 = m.2

theorem inv1_start (h0 : 0 < n) : Inv1 n chk mv ((List.replicate n (-1)).set 0 0) [0] none:=by
 have hl : 0 < (List.replicate n (-1 : Int)).length:=by simpa using h0
 have e : ∀ q,hat ((List.replicate n (-1)).set 0 0) q = if q = 0 then 0 else -1:=fun q=>by rw [hat_set hl,hat_rep]
 refine ⟨by simp,fun p=>?_,fun p hp=>?_,by rw [e];rfl,fun p hp hn _=>?_⟩
 ·rw [e]
  by_cases hp : p = 0
  ·subst hp;exact .inr ⟨by simp,.start⟩
  ·rw [if_neg hp];exact .inl rfl
 ·rw [List.mem_singleton] at hp;subst hp;rw [e];simp
 ·rw [e] at hp
  split at hp
  ·rename_i h;subst h;exact absurd List.mem_cons_self hn
  ·omega
theorem inv1_reach {l : List Int} {todo : List Nat} {p : Nat} (h : Inv1 n chk mv l (todo ++ [p]) none) : 0 ≤ hat l p ∧ Reach chk mv p (hat l p) ∧ p < n:=by
 have h1:=h.2.2.1 p (by simp)
 refine ⟨h1,?_,by rw [← h.1];exact hat_lt h1⟩
 rcases h.2.1 p with h2 | h2
 ·omega
 ·exact h2.2
theorem inv1_bad {l : List Int} {todo : List Nat} {p : Nat} (h : Inv1 n chk mv l (todo ++ [p]) none) (hc : chk p (hat l p) = false) : ¬ Fine n chk mv:=fun hF=>by
 have:=(hF p _ (inv1_reach h).2.1).2.1
 rw [hc] at this;cases this
theorem inv1_pop {l : List Int} {todo : List Nat} {p : Nat} (h : Inv1 n chk mv l (todo ++ [p]) none) (hc : chk p (hat l p) = true) : Inn1 n chk mv l todo p (hat l p) 0:=by
 refine ⟨⟨h.1,h.2.1,fun q hq=>h.2.2.1 q (by simp [hq]),h.2.2.2.1,fun q hq hn hx=>h.2.2.2.2 q hq ?_ (by simp)⟩,rfl,(inv1_reach h).1,hc,by simp⟩
 intro hm
 rcases List.mem_append.1 hm with hm | hm
 ·exact hn hm
 ·rw [List.mem_singleton] at hm;subst hm;exact hx rfl
theorem inn1_reach {l : List Int} {todo : List Nat} {p : Nat} {h : Int} {i : Nat} (hi : Inn1 n chk mv l todo p h i) {m : Nat × Int} (hm : (mv p h)[i]? = some m) : Reach chk mv m.1 m.2:=by
 obtain ⟨h1,h2,h3,h4,h5⟩:=hi
 refine .step p h m.1 m.2 ?_ h4 (List.mem_of_getElem? hm)
 rcases h1.2.1 p with h6 | h6
 ·omega
 ·rw [h2] at h6;exact h6.2
theorem inn1_out {l : List Int} {todo : List Nat} {p : Nat} {h : Int} {i : Nat} (hi : Inn1 n chk mv l todo p h i) {m : Nat × Int} (hm : (mv p h)[i]? = some m) (ho : n ≤ m.1) : ¬ Fine n chk mv:=fun hF=>by
 have:=(hF _ _ (inn1_reach hi hm)).1
 omega
theorem inn1_two {l : List Int} {todo : List Nat} {p : Nat} {h : Int} {i : Nat} (hi : Inn1 n chk mv l todo p h i) {m : Nat × Int} (hm : (mv p h)[i]? = some m) (h0 : 0 ≤ hat l m.1) (ho : hat l m.1 ≠ m.2) : ¬ Fine n chk mv:=fun hF=>by
 rcases hi.1.2.1 m.1 with h6 | h6
 ·omega
 ·exact ho (hF.uniq h6.2 (inn1_reach hi hm))
theorem take_mem {α : Type} {L : List α} {i : Nat} {m x : α} (hm : L[i]? = some m) : x ∈ L.take (i + 1) ↔ x ∈ L.take i ∨ x = m:=by
 rw [List.take_add_one,hm]
 simp
theorem inn1_same {l : List Int} {todo : List Nat} {p : Nat} {h : Int} {i : Nat} (hi : Inn1 n chk mv l todo p h i) {m : Nat × Int} (hm : (mv p h)[i]? = some m) (h0 : hat l m.1 = m.2) : Inn1 n chk mv l todo p h (i + 1):=by
 obtain ⟨h1,h2,h3,h4,h5⟩:=hi
 refine ⟨h1,h2,h3,h4,fun x hx=>?_⟩
 rcases (take_mem hm).1 hx with hx | rfl
 ·exact h5 x hx
 ·exact h0
theorem inn1_new (hnn : ∀ p h,chk p h = true → ∀ m ∈ mv p h,0 ≤ m.2) {l : List Int} {todo : List Nat} {p : Nat} {h : Int} {i : Nat} (hi : Inn1 n chk mv l todo p h i) {m : Nat × Int} (hm : (mv p h)[i]? = some m) (ho : m.1 < n) (h0 : hat l m.1 < 0) : Inn1 n chk mv (l.set m.1 m.2) (todo ++ [m.1]) p h (i + 1):=by
 have hr:=inn1_reach hi hm
 obtain ⟨⟨a1,a2,a3,a4,a5⟩,h2,h3,h4,h5⟩:=hi
 have hk : 0 ≤ m.2:=hnn p h h4 m (List.mem_of_getElem? hm)
 have e : ∀ q,hat (l.set m.1 m.2) q = if q = m.1 then m.2 else hat l q:=fun q=>hat_set (by omega) q
 have e2 : ∀ q,0 ≤ hat l q → hat (l.set m.1 m.2) q = hat l q:=fun q hq=>by
  rw [e,if_neg]
  intro hx;subst hx;omega
 refine ⟨⟨by simpa using a1,fun q=>?_,fun q hq=>?_,by rw [e2 0 (by omega),a4],fun q hq hn hx=>?_⟩,by rw [e2 p (by omega),h2],h3,h4,fun x hx=>?_⟩
 ·rw [e]
  by_cases hq : q = m.1
  ·subst hq;rw [if_pos rfl];exact .inr ⟨hk,hr⟩
  ·rw [if_neg hq];exact a2 q
 ·rcases List.mem_append.1 hq with hq | hq
  ·rw [e2 q (a3 q hq)];exact a3 q hq
  ·rw [List.mem_singleton] at hq;subst hq;rw [e,if_pos rfl];exact hk
 ·have hqm : q ≠ m.1:=fun hx=>hn (by simp [hx])
  have hql : hat (l.set m.1 m.2) q = hat l q:=by rw [e,if_neg hqm]
  rw [hql] at hq ⊢
  obtain ⟨b1,b2⟩:=a5 q hq (fun hx=>hn (by simp [hx])) hx
  refine ⟨b1,fun y hy=>?_⟩
  have hy2:=b2 y hy
  have hy3:=hnn q _ b1 y hy
  rw [e2 _ (by omega)];exact hy2
 ·rcases (take_mem hm).1 hx with hx | rfl
  ·have hx2:=h5 x hx
   have hx3:=hnn p h h4 x (List.mem_of_mem_take hx)
   rw [e2 _ (by omega)];exact hx2
  ·rw [e,if_pos rfl]
theorem inn1_end {l : List Int} {todo : List Nat} {p : Nat} {h : Int} {i : Nat} (hi : Inn1 n chk mv l todo p h i) (he : (mv p h).length ≤ i) : Inv1 n chk mv l todo none:=by
 obtain ⟨⟨a1,a2,a3,a4,a5⟩,h2,h3,h4,h5⟩:=hi
 refine ⟨a1,a2,a3,a4,fun q hq hn _=>?_⟩
 by_cases hqp : q = p
 ·subst hqp
  rw [h2]
  rw [List.take_of_length_le he] at h5
  exact ⟨h4,h5⟩
 ·exact a5 q hq hn (fun hx=>hqp (Option.some.inj hx))
theorem done_reach (hnn : ∀ p h,chk p h = true → ∀ m ∈ mv p h,0 ≤ m.2) {l : List Int} (h0 : hat l 0 = 0) (hs : ∀ p,0 ≤ hat l p → chk p (hat l p) = true ∧ ∀ m ∈ mv p (hat l p),hat l m.1 = m.2) {p : Nat} {h : Int} (hr : Reach chk mv p h) : hat l p = h ∧ 0 ≤ h:=by
 induction hr with
 | start=>exact ⟨h0,Int.le_refl 0⟩
 | step p h q k hp hc hm ih=>
  obtain ⟨ih1,ih2⟩:=ih
  have:=(hs p (by omega)).2
  rw [ih1] at this
  exact ⟨this _ hm,hnn p h hc _ hm⟩
theorem done_fine (hnn : ∀ p h,chk p h = true → ∀ m ∈ mv p h,0 ≤ m.2) {l : List Int} (hl : l.length = n) (h0 : hat l 0 = 0) (hs : ∀ p,0 ≤ hat l p → chk p (hat l p) = true ∧ ∀ m ∈ mv p (hat l p),hat l m.1 = m.2) : Fine n chk mv:=fun p h hr=>by
 obtain ⟨h1,h2⟩:=done_reach hnn h0 hs hr
 refine ⟨by rw [← hl];exact hat_lt (by omega),?_,fun k hk=>?_⟩
 ·have:=(hs p (by omega)).1
  rw [h1] at this;exact this
 ·rw [← (done_reach hnn h0 hs hk).1,h1]
theorem inv1_done (hnn : ∀ p h,chk p h = true → ∀ m ∈ mv p h,0 ≤ m.2) {l : List Int} (h : Inv1 n chk mv l [] none) : Fine n chk mv:=by
 obtain ⟨a1,a2,a3,a4,a5⟩:=h
 exact done_fine hnn a1 a4 fun p hp=>a5 p hp (by simp) (by simp)

def Inv2 (n : Nat) (chk : Nat → Int → Bool) (mv : Nat → Int → List (Nat × Int)) (l : List Int) (todo : List (Nat × Int)) : Prop:=
 l.length = n ∧ (∀ p,hat l p = -1 ∨ 0 ≤ hat l p) ∧ (∀ m ∈ todo,Reach chk mv m.1 m.2) ∧
 (∀ p,0 ≤ hat l p → Reach chk mv p (hat l p) ∧ chk p (hat l p) = true ∧ ∀ m ∈ mv p (hat l p),m ∈ todo ∨ hat l m.1 = m.2) ∧
 ((0,0) ∈ todo ∨ hat l 0 = 0)
theorem inv2_start : Inv2 n chk mv (List.replicate n (-1)) [(0,0)]:=by
 refine ⟨by simp,fun p=>.inl (hat_rep n p),fun m hm=>?_,fun p hp=>?_,.inl (by simp)⟩
 ·rw [List.mem_singleton] at hm;subst hm;exact .start
 ·rw [hat_rep] at hp;omega
theorem inv2_reach {l : List Int} {todo : List (Nat × Int)} {p : Nat} {h : Int} (hi : Inv2 n chk mv l (todo ++ [(p,h)])) : Reach chk mv p h:=hi.2.2.1 (p,h) (by simp)
theorem inv2_out {l : List Int} {todo : List (Nat × Int)} {p : Nat} {h : Int} (hi : Inv2 n chk mv l (todo ++ [(p,h)])) (ho : n ≤ p) : ¬ Fine n chk mv:=fun hF=>by
 have:=(hF _ _ (inv2_reach hi)).1
 omega
theorem inv2_bad {l : List Int} {todo : List (Nat × Int)} {p : Nat} {h : Int} (hi : Inv2 n chk mv l (todo ++ [(p,h)])) (hc : chk p h = false) : ¬ Fine n chk mv:=fun hF=>by
 have:=(hF _ _ (inv2_reach hi)).2.1
 rw [hc] at this;cases this
theorem inv2_two {l : List Int} {todo : List (Nat × Int)} {p : Nat} {h : Int} (hi : Inv2 n chk mv l (todo ++ [(p,h)])) (h0 : 0 ≤ hat l p) (ho : hat l p ≠ h) : ¬ Fine n chk mv:=fun hF=>
 ho (hF.uniq (hi.2.2.2.1 p h0).1 (inv2_reach hi))
theorem inv2_same {l : List Int} {todo : List (Nat × Int)} {p : Nat} {h : Int} (hi : Inv2 n chk mv l (todo ++ [(p,h)])) (ho : hat l p = h) : Inv2 n chk mv l todo:=by
 obtain ⟨a1,a2,a3,a4,a5⟩:=hi
 refine ⟨a1,a2,fun m hm=>a3 m (by simp [hm]),fun q hq=>⟨(a4 q hq).1,(a4 q hq).2.1,fun m hm=>?_⟩,?_⟩
 ·rcases (a4 q hq).2.2 m hm with h1 | h1
  ·rcases List.mem_append.1 h1 with h1 | h1
   ·exact .inl h1
   ·rw [List.mem_singleton] at h1;subst h1;exact .inr ho
  ·exact .inr h1
 ·rcases a5 with h1 | h1
  ·rcases List.mem_append.1 h1 with h1 | h1
   ·exact .inl h1
   ·rw [List.mem_singleton] at h1
    injection h1 with e1 e2
    subst e1 e2
    exact .inr ho
  ·exact .inr h1
theorem inv2_new (hnn : ∀ p h,chk p h = true → ∀ m ∈ mv p h,0 ≤ m.2) {l : List Int} {todo : List (Nat × Int)} {p : Nat} {h : Int} (hi : Inv2 n chk mv l (todo ++ [(p,h)])) (hp : p < n) (h0 : hat l p < 0) (hh : 0 ≤ h) (hc : chk p h = true) : Inv2 n chk mv (l.set p h) (todo ++ mv p h):=by
 have hr:=inv2_reach hi
 obtain ⟨a1,a2,a3,a4,a5⟩:=hi
 have e : ∀ q,hat (l.set p h) q = if q = p then h else hat l q:=fun q=>hat_set (by omega) q
 have e2 : ∀ q,0 ≤ hat l q → hat (l.set p h) q = hat l q:=fun q hq=>by
  rw [e,if_neg]
  intro hx;subst hx;omega
 refine ⟨by simpa using a1,fun q=>?_,fun m hm=>?_,fun q hq=>?_,?_⟩
 ·rw [e]
  split
  ·exact .inr hh
  ·exact a2 q
 ·rcases List.mem_append.1 hm with hm | hm
  ·exact a3 m (by simp [hm])
  ·exact .step p h m.1 m.2 hr hc hm
 ·by_cases hqp : q = p
  ·subst hqp
   rw [e,if_pos rfl]
   exact ⟨hr,hc,fun m hm=>.inl (List.mem_append_right _ hm)⟩
  ·have hql : hat (l.set p h) q = hat l q:=by rw [e,if_neg hqp]
   rw [hql] at hq ⊢
   obtain ⟨b1,b2,b3⟩:=a4 q hq
   refine ⟨b1,b2,fun m hm=>?_⟩
   rcases b3 m hm with h1 | h1
   ·rcases List.mem_append.1 h1 with h1 | h1
    ·exact .inl (List.mem_append_left _ h1)
    ·rw [List.mem_singleton] at h1;subst h1;exact .inr (by rw [e,if_pos rfl])
   ·have:=hnn q _ b2 m hm
    exact .inr (by rw [e2 _ (by omega)];exact h1)
 ·rcases a5 with h1 | h1
  ·rcases List.mem_append.1 h1 with h1 | h1
   ·exact .inl (List.mem_append_left _ h1)
   ·rw [List.mem_singleton] at h1
    injection h1 with e1 e3
    subst e1 e3
    exact .inr (by rw [e,if_pos rfl])
  ·exact .inr (by rw [e2 0 (by omega)];exact h1)
theorem inv2_done (hnn : ∀ p h,chk p h = true → ∀ m ∈ mv p h,0 ≤ m.2) {l : List Int} (h : Inv2 n chk mv l []) : Fine n chk mv ∧ Hts n chk mv l:=by
 obtain ⟨a1,a2,a3,a4,a5⟩:=h
 have h0 : hat l 0 = 0:=by simpa using a5
 have hs : ∀ p,0 ≤ hat l p → chk p (hat l p) = true ∧ ∀ m ∈ mv p (hat l p),hat l m.1 = m.2:=fun p hp=>⟨(a4 p hp).2.1,fun m hm=>by simpa using (a4 p hp).2.2 m hm⟩
 refine ⟨done_fine hnn a1 h0 hs,a1,fun p=>?_⟩
 rcases a2 p with hp | hp
 ·refine .inr ⟨hp,fun k hk=>?_⟩
  have:=done_reach hnn h0 hs hk
  omega
 ·exact .inl ⟨hp,(a4 p hp).1⟩

def Pend (n : Nat) (chk : Nat → Int → Bool) (mv : Nat → Int → List (Nat × Int)) (l0 l : List Int) (S : List Nat) : Prop:=
 l.length = n ∧ l0.length = n ∧ (∀ p,hat l p = -1 ∨ (0 ≤ hat l p ∧ Reach chk mv p (hat l p))) ∧ (∀ p,0 ≤ hat l0 p → hat l p = hat l0 p) ∧
 ∀ p,hat l0 p < 0 → 0 ≤ hat l p → ∀ m ∈ mv p (hat l p),0 ≤ hat l m.1 ∨ m.1 ∈ S
def Snd (n : Nat) (chk : Nat → Int → Bool) (mv : Nat → Int → List (Nat × Int)) (l : List Int) : Prop:=
 l.length = n ∧ ∀ p,hat l p = -1 ∨ (0 ≤ hat l p ∧ Reach chk mv p (hat l p))
theorem Pend.snd {l0 l : List Int} {S : List Nat} (h : Pend n chk mv l0 l S) : Snd n chk mv l:=⟨h.1,h.2.2.1⟩
theorem pend_refl {l : List Int} (h : Snd n chk mv l) (S : List Nat) : Pend n chk mv l l S:=
 ⟨h.1,h.1,h.2,fun _ _=>rfl,fun p h1 h2=>by omega⟩
theorem pend_weak {l0 l : List Int} {S T : List Nat} (h : Pend n chk mv l0 l S) (hs : ∀ p ∈ S,p ∈ T) : Pend n chk mv l0 l T:=
 ⟨h.1,h.2.1,h.2.2.1,h.2.2.2.1,fun p h1 h2 m hm=>(h.2.2.2.2 p h1 h2 m hm).imp id (hs _)⟩
theorem pend_enter {l0 l : List Int} {p : Nat} {h : Int} (hi : Pend n chk mv l0 l [p]) (hp : p < n) (h0 : hat l p < 0) (hh : 0 ≤ h) (hr : Reach chk mv p h) : Pend n chk mv l0 (l.set p h) ((mv p h).map (·.1)):=by
 obtain ⟨a1,a0,a2,a3,a4⟩:=hi
 have e : ∀ q,hat (l.set p h) q = if q = p then h else hat l q:=fun q=>hat_set (by omega) q
 have e2 : ∀ q,0 ≤ hat l q → hat (l.set p h) q = hat l q:=fun q hq=>by
  rw [e,if_neg]
  intro hx;subst hx;omega
 refine ⟨by simpa using a1,a0,fun q=>?_,fun q hq=>?_,fun q hq hq2 m hm=>?_⟩
 ·rw [e]
  by_cases hqp : q = p
  ·subst hqp;rw [if_pos rfl];exact .inr ⟨hh,hr⟩
  ·rw [if_neg hqp];exact a2 q
 ·rw [e2 q (by rw [a3 q hq];exact hq)];exact a3 q hq
 ·by_cases hqp : q = p
  ·subst hqp
   rw [e,if_pos rfl] at hm
   exact .inr (List.mem_map_of_mem hm)
  ·rw [e,if_neg hqp] at hq2 hm
   rcases a4 q hq hq2 m hm with h1 | h1
   ·exact .inl (by rw [e2 _ h1];exact h1)
   ·rw [List.mem_singleton] at h1
    exact .inl (by rw [h1,e,if_pos rfl];exact hh)
theorem pend_call {l0 l m : List Int} {q : Nat} {S : List Nat} (h : Pend n chk mv l0 l (q :: S)) (hm : Pend n chk mv l m []) (hq : 0 ≤ hat m q) : Pend n chk mv l0 m S:=by
 obtain ⟨a1,a0,a2,a3,a4⟩:=h
 obtain ⟨b1,b0,b2,b3,b4⟩:=hm
 refine ⟨b1,a0,b2,fun p hp=>by rw [b3 p (by rw [a3 p hp];exact hp)];exact a3 p hp,fun p hp hp2 x hx=>?_⟩
 rcases a2 p with h1 | h1
 ·exact (b4 p (by omega) hp2 x hx).imp id (fun h=>by cases h)
 ·rw [b3 p h1.1] at hx
  rcases a4 p hp h1.1 x hx with h2 | h2
  ·exact .inl (by rw [b3 _ h2];exact h2)
  ·rcases List.mem_cons.1 h2 with h2 | h2
   ·exact .inl (by rw [h2];exact hq)
   ·exact .inr h2
theorem pend_exit {l0 l : List Int} {p : Nat} (h : Pend n chk mv l0 l [p]) (hp : 0 ≤ hat l p) : Pend n chk mv l0 l []:=
 ⟨h.1,h.2.1,h.2.2.1,h.2.2.2.1,fun q h1 h2 m hm=>by
  rcases h.2.2.2.2 q h1 h2 m hm with h3 | h3
  ·exact .inl h3
  ·rw [List.mem_singleton] at h3;exact .inl (by rw [h3];exact hp)⟩
theorem pend_unv {l0 l : List Int} {S : List Nat} (h : Pend n chk mv l0 l S) : unv l ≤ unv l0:=
 unv_le l0 l (by rw [h.1,h.2.1]) h.2.2.2.1
theorem snd_start : Snd n chk mv (List.replicate n (-1)):=⟨by simp,fun p=>.inl (hat_rep n p)⟩
theorem pend_done (hF : Fine n chk mv) {l : List Int} (h : Pend n chk mv (List.replicate n (-1)) l []) (h0 : 0 ≤ hat l 0) : Hts n chk mv l:=by
 obtain ⟨a1,a0,a2,a3,a4⟩:=h
 have key : ∀ p k,Reach chk mv p k → 0 ≤ hat l p ∧ hat l p = k:=by
  intro p k hr
  have fin : ∀ q j,Reach chk mv q j → 0 ≤ hat l q → 0 ≤ hat l q ∧ hat l q = j:=fun q j hq h=>by
   rcases a2 q with h1 | h1
   ·omega
   ·exact ⟨h,hF.uniq h1.2 hq⟩
  induction hr with
  | start=>exact fin _ _ .start h0
  | step p h q k hp hc hm ih=>
   refine fin _ _ (.step p h q k hp hc hm) ?_
   rw [← ih.2] at hm
   rcases a4 p (by rw [hat_rep];omega) ih.1 _ hm with h1 | h1
   ·exact h1
   ·cases h1
 refine ⟨a1,fun p=>?_⟩
 rcases a2 p with h1 | h1
 ·refine .inr ⟨h1,fun k hk=>?_⟩
  have:=key p k hk
  omega
 ·exact .inl h1
end
end Go.Proofs.T
set_option linter.unusedVariables false
set_option linter.unusedSimpArgs false
set_option maxRecDepth 100000
namespace Go.Proofs.T
open Go.Ev
theorem any_split {L : List (List AV)} {p q r : List AV → Bool} (h : ∀ c ∈ L,p c = (q c || r c)) : L.any p = (L.any q || L.any r):=by
 induction L with
 | nil=>rfl
 | cons a l ih=>
  simp only [List.any_cons]
  rw [h a List.mem_cons_self,ih (fun c hc=>h c (List.mem_cons_of_mem _ hc))]
  cases q a <;> cases r a <;> cases l.any q <;> cases l.any r <;> rfl
theorem formed_future : ∀ (n : Nat) (cs : List AV),VT n cs → formedV false n cs = (formedV true n cs && !futureV n cs)
 | 0,_,h=>h.elim
 | n + 1,cs,h=>by
  obtain ⟨k,ix,s,v,w,L,M,rfl,hv,hvn,hvc,hw,hwn,hwc⟩:=h
  have e : ∀ fu,formedV fu (n + 1) [.int .i64 k,.int .i64 ix,.str s,v,w] = (flatV fu k ix s L M && !(L.any fun c=>!formedV fu n c)):=fun fu=>by rw [← itm_eq hv,← itm_eq hw];rfl
  have e2 : futureV (n + 1) [.int .i64 k,.int .i64 ix,.str s,v,w] = (L.any (futureV n) || (k == 6)):=by rw [← itm_eq hv];rfl
  rw [e,e,e2]
  have h1 : (L.any fun c=>!formedV false n c) = ((L.any fun c=>!formedV true n c) || L.any (futureV n)):=any_split fun c hc=>by
   show (!formedV false n c) = ((!formedV true n c) || futureV n c)
   rw [formed_future n c (hvc c hc)]
   cases formedV true n c <;> cases futureV n c <;> rfl
  have h2 : flatV false k ix s L M = (flatV true k ix s L M && !(k == 6)):=by
   unfold flatV flatB
   by_cases k6 : k = 6
   ·subst k6;simp
   ·simp [k6]
  rw [h1,h2]
  cases flatV true k ix s L M <;> cases (k == 6) <;> cases (L.any fun c=>!formedV true n c) <;> cases L.any (futureV n) <;> rfl
def rightV (n : Nat) (cs : List AV) : Bool:=withinV n cs && formedV false n cs
def aI (cs : List AV) : Int:=match cs.getD 1 .undef with | .int _ k=>k | _=>0
def bI (cs : List AV) : Int:=match cs.getD 2 .undef with | .int _ k=>k | _=>0
def tI (cs : List AV) : List Nat:=match cs.getD 3 .undef with | .str s=>s | _=>[]
def useA (k : Int) : Bool:=[2,3,4,5,7,8,9,10,11,12,13,14,17,18,21,25,27].contains k
def useB (k : Int) : Bool:=[17,18,21,25,27,28].contains k
def useT (k : Int) : Bool:=[16,28].contains k
def useW (k : Int) : Bool:=[1,14].contains k
def usedV (c : List AV) : Bool:=(useA (opI c) || aI c == 0) && (useB (opI c) || bI c == 0) && (useT (opI c) || tI c == []) && (useW (opI c) || zeroV (c.drop 4))
def keyAt (L : List (List AV)) (i : Nat) : Bool:=(kindV (L.getD i []) == 3) && !((L.take i).any fun c=>txtV c == txtV (L.getD i []))
def keysDist (L : List (List AV)) : Bool:=(List.range L.length).all (keyAt L)
def keysV (n : Nat) (V : List AV) (m : Int) : Bool:=(kindV V == 4) && (((itm (V.getD 3 .undef)).length : Int) == m) && rightV n V && keysDist (itm (V.getD 3 .undef))
def callV (LF : List (List AV)) (fn a : Int) : Bool:=belowV fn LF.length && (a == prmF (LF.getD fn.toNat []))
def choiceV (L : List (List AV)) (p : Nat) (a b : Int) : Bool:=belowV a 17 && belowV b 2 && decide (a + b ≥ 1) && jumpsV L (p + 1) (a + b).toNat
def biV (t : List Nat) (b : Int) : Bool:=decide ((arityV t).2.2 > 0) && decide (b ≥ (arityV t).1) && decide (b ≤ (arityV t).2.1)
def opV (n : Nat) (LF : List (List AV)) (nG : Nat) (S : Int) (L : List (List AV)) (p : Nat) (c : List AV) : Bool:=
 if opI c = 1 then rightV n (c.drop 4) else
 if opI c = 2 ∨ opI c = 3 then belowV (aI c) S else
 if opI c = 4 ∨ opI c = 5 then belowV (aI c) nG else
 if opI c = 7 ∨ opI c = 8 ∨ opI c = 9 ∨ opI c = 10 then belowV (aI c) L.length else
 if opI c = 11 then (aI c == 13) || (aI c == 14) else
 if opI c = 12 then decide (aI c ≥ 15) && decide (aI c ≤ 25) else
 if opI c = 13 then decide (aI c ≥ 0) else
 if opI c = 14 then decide (aI c ≥ 0) && keysV n (c.drop 4) (aI c) else
 if opI c = 17 ∨ opI c = 18 ∨ opI c = 25 then callV LF (aI c) (bI c) else
 if opI c = 21 then belowV (aI c) L.length && belowV (bI c) S else
 if opI c = 27 then choiceV L p (aI c) (bI c) else
 if opI c = 28 then biV (tI c) (bI c) else true
def instrV (n : Nat) (LF : List (List AV)) (nG : Nat) (S : Int) (L : List (List AV)) (p : Nat) : Bool:=
 decide (opI (L.getD p []) ≥ 1) && decide (opI (L.getD p []) ≤ 28) && usedV (L.getD p []) && opV n LF nG S L p (L.getD p [])
def mvI (c : List AV) (p : Nat) (h : Int) : List (Nat × Int):=
 if opI c = 19 ∨ opI c = 20 then [] else
 if opI c = 7 then [((aI c).toNat,h)] else
 if opI c = 8 then [(p + 1,h - 1),((aI c).toNat,h - 1)] else
 if opI c = 9 ∨ opI c = 10 then [(p + 1,h - 1),((aI c).toNat,h)] else
 if opI c = 21 then [(p + 1,h),((aI c).toNat,h)] else
 if opI c = 27 then (List.range (aI c).toNat).map (fun j=>(p + 1 + j,h - aI c + 1)) ++ (if bI c = 1 then [(p + 1 + (aI c).toNat,h - aI c)] else []) else
 [(p + 1,h - (effV (opI c) (aI c) (bI c)).1 + (effV (opI c) (aI c) (bI c)).2)]
def minI (c : List AV) : Int:=(effV (opI c) (aI c) (bI c)).1
def chkI (c : List AV) (h : Int) : Bool:=decide (0 ≤ h) && decide (h ≤ 200) && decide (minI c ≤ h) && (!((opI c == 21) || (opI c == 23)) || h == 0)
def chkL (L : List (List AV)) (p : Nat) (h : Int) : Bool:=chkI (L.getD p []) h
def mvL (L : List (List AV)) (p : Nat) (h : Int) : List (Nat × Int):=mvI (L.getD p []) p h
def FineL (L : List (List AV)) : Prop:=Fine L.length (chkL L) (mvL L)
def HtsL (L : List (List AV)) (l : List Int) : Prop:=Hts L.length (chkL L) (mvL L) l
noncomputable def fineB (L : List (List AV)) : Bool:=@decide (FineL L) (Classical.propDecidable _)
theorem fineB_true {L : List (List AV)} (h : FineL L) : fineB L = true:=by unfold fineB;exact @decide_eq_true _ (Classical.propDecidable _) h
theorem fineB_false {L : List (List AV)} (h : ¬ FineL L) : fineB L = false:=by unfold fineB;exact @decide_eq_false _ (Classical.propDecidable _) h
theorem fineB_iff {L : List (List AV)} : fineB L = true ↔ FineL L:=by
 by_cases h : FineL L
 ·simp [fineB_true h,h]
 ·simp [fineB_false h,h]
theorem pos0_le (a : Int) : 0 ≤ pos0 a ∧ a ≤ pos0 a:=by unfold pos0;split <;> omega
theorem eff_plus (k a b : Int) : 0 ≤ (effV k a b).2 ∧ (effV k a b).2 ≤ 1:=by
 unfold effV
 repeat' split
 all_goals simp
theorem eff_min (k a b : Int) : 0 ≤ (effV k a b).1:=by
 have h1:=pos0_le a
 have h2:=pos0_le b
 unfold effV
 repeat' split
 all_goals simp
 all_goals omega
theorem mv_nn (c : List AV) (p : Nat) (h : Int) (hc : chkI c h = true) : ∀ m ∈ mvI c p h,0 ≤ m.2:=by
 intro m hm
 unfold chkI minI at hc
 simp only [Bool.and_eq_true,decide_eq_true_eq] at hc
 obtain ⟨⟨⟨h0,h1⟩,h2⟩,h3⟩:=hc
 have hp:=eff_plus (opI c) (aI c) (bI c)
 unfold mvI at hm
 by_cases k1 : opI c = 19 ∨ opI c = 20
 ·rw [if_pos k1] at hm;cases hm
 rw [if_neg k1] at hm
 by_cases k2 : opI c = 7
 ·rw [if_pos k2] at hm;simp only [List.mem_singleton] at hm;subst hm;exact h0
 rw [if_neg k2] at hm
 by_cases k3 : opI c = 8
 ·rw [if_pos k3] at hm
  rw [k3] at h2
  simp [effV] at h2
  simp only [List.mem_cons,List.not_mem_nil,or_false] at hm
  rcases hm with rfl | rfl <;> (show (0 : Int) ≤ h - 1;omega)
 rw [if_neg k3] at hm
 by_cases k4 : opI c = 9 ∨ opI c = 10
 ·rw [if_pos k4] at hm
  have h2 : (1 : Int) ≤ h:=by rcases k4 with k4 | k4 <;> (rw [k4] at h2;simpa [effV] using h2)
  simp only [List.mem_cons,List.not_mem_nil,or_false] at hm
  rcases hm with rfl | rfl
  ·show (0 : Int) ≤ h - 1;omega
  ·exact h0
 rw [if_neg k4] at hm
 by_cases k5 : opI c = 21
 ·rw [if_pos k5] at hm
  simp only [List.mem_cons,List.not_mem_nil,or_false] at hm
  rcases hm with rfl | rfl <;> exact h0
 rw [if_neg k5] at hm
 by_cases k6 : opI c = 27
 ·rw [if_pos k6] at hm
  rw [k6] at h2
  simp [effV] at h2
  have:=(pos0_le (aI c)).2
  rcases List.mem_append.1 hm with hm | hm
  ·obtain ⟨j,_,rfl⟩:=List.mem_map.1 hm
   show (0 : Int) ≤ h - aI c + 1;omega
  ·split at hm
   ·simp only [List.mem_singleton] at hm;subst hm;show (0 : Int) ≤ h - aI c;omega
   ·cases hm
 rw [if_neg k6] at hm
 simp only [List.mem_singleton] at hm
 subst hm
 show (0 : Int) ≤ h - _ + _
 omega
theorem mvL_nn (L : List (List AV)) : ∀ p h,chkL L p h = true → ∀ m ∈ mvL L p h,0 ≤ m.2:=fun p h hc=>mv_nn _ p h hc
def JmpOk (c : List AV) : Prop:=(opI c = 7 ∨ opI c = 8 ∨ opI c = 9 ∨ opI c = 10 ∨ opI c = 21 → 0 ≤ aI c ∧ aI c < 2 ^ 60) ∧ (opI c = 27 → 0 ≤ aI c ∧ aI c ≤ 16 ∧ 0 ≤ bI c ∧ bI c ≤ 1)
theorem jmp_of {n : Nat} {LF : List (List AV)} {nG : Nat} {S : Int} {L : List (List AV)} {p : Nat} (hL : L.length < 2 ^ 60) (h : instrV n LF nG S L p = true) : JmpOk (L.getD p []):=by
 unfold instrV at h
 simp only [Bool.and_eq_true] at h
 have h:=h.2
 unfold opV at h
 generalize L.getD p [] = c at h ⊢
 refine ⟨fun hk=>?_,fun hk=>?_⟩
 ·rcases hk with hk | hk | hk | hk | hk <;> (simp [hk,belowV] at h;omega)
 ·simp [hk,choiceV,belowV] at h
  omega
theorem reach_nn {L : List (List AV)} {p : Nat} {h : Int} (hr : Reach (chkL L) (mvL L) p h) : 0 ≤ h:=by
 cases hr with
 | start=>exact Int.le_refl 0
 | step p h q k hp hc hm=>exact mvL_nn L p h hc _ hm
noncomputable def htsL (L : List (List AV)) : List Int:=(List.range L.length).map fun p=>@dite _ (∃ k,Reach (chkL L) (mvL L) p k) (Classical.propDecidable _) (fun h=>Classical.choose h) (fun _=>-1)
theorem htsL_ok {L : List (List AV)} (hF : FineL L) : HtsL L (htsL L):=by
 refine ⟨by simp [htsL],fun p=>?_⟩
 by_cases hp : p < L.length
 ·have e : hat (htsL L) p = @dite _ (∃ k,Reach (chkL L) (mvL L) p k) (Classical.propDecidable _) (fun h=>Classical.choose h) (fun _=>-1):=by
   unfold hat htsL
   rw [List.getD_eq_getElem?_getD,List.getElem?_map,List.getElem?_range hp]
   rfl
  by_cases hr : ∃ k,Reach (chkL L) (mvL L) p k
  ·rw [dif_pos hr] at e
   have:=Classical.choose_spec hr
   rw [e]
   exact .inl ⟨reach_nn this,this⟩
  ·rw [dif_neg hr] at e
   exact .inr ⟨e,fun h hh=>hr ⟨h,hh⟩⟩
 ·refine .inr ⟨?_,fun h hh=>hp (hF p h hh).1⟩
  unfold hat htsL
  rw [List.getD_eq_getElem?_getD,List.getElem?_eq_none (by simp;omega)]
  rfl
theorem htsL_uniq {L : List (List AV)} (hF : FineL L) {l : List Int} (h : HtsL L l) : l = htsL L:=Hts.uniq hF h (htsL_ok hF)
def intCells (l : List Int) : List (List AV):=l.map fun x=>[.int .i64 x]
def mvCells (l : List (Nat × Int)) : List (List AV):=l.map fun m=>[.int .i64 m.1,.int .i64 m.2]
end Go.Proofs.T
