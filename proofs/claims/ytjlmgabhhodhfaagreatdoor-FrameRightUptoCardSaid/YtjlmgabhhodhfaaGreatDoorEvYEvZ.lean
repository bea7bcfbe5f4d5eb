import Derived.Test.YtjlmgabhhodhfaaGreatDoorEvUEvX
import Derived.Orders
set_option linter.unusedVariables false
set_option linter.unusedSimpArgs false
namespace Go.Ev
section
variable {P : Program}


theorem map_congr' {ρ ρ' : Operand → AV} {xs : List Operand} (h : ∀ x ∈ xs,ρ x = ρ' x) : xs.map ρ = xs.map ρ':=List.map_congr_left h

theorem evOp_congr {ρ ρ' : Operand → AV} (o : Oper) (H : Heap) (h : ∀ x ∈ o.op.operands,ρ x = ρ' x) : evOp P ρ o H = evOp P ρ' o H:=by
 obtain ⟨dst,op,type,pos,after,guard⟩:=o
 have pairs : ∀ ps : Array (Nat × Operand),(∀ x ∈ ps.map (·.2),ρ x = ρ' x) → (ps.toList.map fun p=>(p.1,ρ p.2)) = (ps.toList.map fun p=>(p.1,ρ' p.2)):=fun ps hp=>
  List.map_congr_left fun p hm=>by
   obtain ⟨i,x⟩:=p
   have:=hp x (Array.mem_map.2 ⟨(i,x),Array.mem_toList_iff.1 hm,rfl⟩)
   simp [this]
 cases op <;> simp only [Op.operands] at h <;> simp only [evOp]
 case build t ps=>rw [pairs ps fun x hx=>h x (by simpa using hx)]
 case buildSlice t n ps=>rw [pairs ps fun x hx=>h x (by simpa using hx)]
 case makeFunc fn first captured=>
  rw [map_congr' (xs:=first.toList) fun x hx=>h x (by simp_all),map_congr' (xs:=captured.toList) fun x hx=>h x (by simp_all)]
 case call c=>
  obtain ⟨callee,args,ts⟩:=c
  have hargs : args.toList.map ρ = args.toList.map ρ':=map_congr' fun x hx=>h x (by simp_all [Call.operands])
  cases callee <;> simp only [hargs]
 case slice t x lo hi mx=>cases lo <;> cases hi <;> cases mx <;> simp_all [optInt]
 case makeMap t r=>cases r <;> rfl
 all_goals (first | rfl | (simp_all;done))

theorem Env.at_congr {env env' : Env} {x : Operand} (h : ∀ t,x = .tmp t → env t = env' t) : env.at x = env'.at x:=by
 cases x with
 | tmp t=>exact h t rfl
 | const v=>rfl
 | global g=>rfl
 | func f=>rfl

theorem Env.put_comm (env : Env) {x y : Option Tmp} (v u : AV) (h : ∀ d,x = some d → y ≠ some d) : (env.put x v).put y u = (env.put y u).put x v:=by
 cases x with
 | none=>cases y <;> rfl
 | some d=>
  cases y with
  | none=>rfl
  | some e=>
   have hne : d ≠ e:=fun q=>h d rfl (by rw [q])
   funext t
   simp only [Env.put]
   by_cases h1 : t = e
   ·rw [if_pos h1,if_neg (fun q=>hne (q.symm.trans h1)),if_pos h1]
   ·rw [if_neg h1,if_neg h1]

def Agree (ops : Array Oper) (o : Oper) (env env' : Env) : Prop:=∀ t ∈ o.looksAt ops,env t = env' t

theorem Agree.at_ {ops : Array Oper} {o : Oper} {env env' : Env} (h : Agree ops o env env') : ∀ x ∈ o.op.operands,env.at x = env'.at x:=fun x hx=>
 Env.at_congr fun t ht=>h t (by subst ht;exact List.mem_append_left _ (List.mem_filterMap.2 ⟨.tmp t,by simpa using hx,rfl⟩))

theorem Agree.wanted {ops : Array Oper} {o : Oper} {env env' : Env} (h : Agree ops o env env') : wantedA ops env o = wantedA ops env' o:=by
 unfold wantedA
 split
 ·rfl
 ·rename_i j want hg
  split
  ·rename_i d hd
   have : env d = env' d:=h d (List.mem_append_right _ (by simp [hg,hd]))
   rw [this]
  ·rfl

theorem agree_put {ops : Array Oper} {o : Oper} {env : Env} {d : Option Tmp} {v : AV} (h : ∀ t,d = some t → t ∉ o.looksAt ops) : Agree ops o env (env.put d v):=fun t ht=>by
 cases d with
 | none=>rfl
 | some d=>
  have : t ≠ d:=fun e=>h d rfl (e ▸ ht)
  simp only [Env.put];rw [if_neg this]


abbrev Blks:=Nat → Option Blk
def UpB (B G : Blks) : Prop:=∀ b x,B b = some x → G b = some x
theorem UpB.refl (B : Blks) : UpB B B:=fun _ _ h=>h
def setB (B : Blks) (b : Nat) (x : Blk) : Blks:=fun i=>if i = b then some x else B i

inductive Did (P : Program) (ops : Array Oper) (o : Oper) (env : Env) : Blks → AV → Blks → Prop
 | skip (B : Blks) (hw : wantedA ops env o = some false) : Did P ops o env B (.tuple []) B
 | op (B : Blks) (m : Nat) (r : AV) (H1 : Heap) (hw : wantedA ops env o = some true) (hfree : B m = none ∨ H1.next = m) (he : evOp P env.at o ⟨B,m⟩ = some (r,H1)) : Did P ops o env B r H1.blk
 | call (B : Blks) (m : Nat) (f : Operand) (args : Array Operand) (ts : Array TypeId) (g : FuncId) (first cap : List AV) (r : AV) (H1 : Heap) (hw : wantedA ops env o = some true) (hop : o.op = .call { callee:=.value f,args:=args,argTypes:=ts })
   (hf : env.at f = .func (.func g) first cap) (hc : EvF P g (first ++ args.toList.map env.at ++ cap) ⟨B,m⟩ r H1) : Did P ops o env B r H1.blk

theorem Did.congr {ops : Array Oper} {o : Oper} {env env' : Env} (h : Agree ops o env env') {B : Blks} {r : AV} {B1 : Blks} (hd : Did P ops o env B r B1) : Did P ops o env' B r B1:=by
 cases hd with
 | skip hw=>exact .skip _ (h.wanted ▸ hw)
 | op m r H1 hw hfree he=>exact .op _ m r H1 (h.wanted ▸ hw) hfree (by rw [← evOp_congr o _ h.at_];exact he)
 | call m f args ts g first cap r H1 hw hop hf hc=>
  have hf' : env.at f = env'.at f:=h.at_ f (by simp [hop,Op.operands,Call.operands])
  have ha : args.toList.map env.at = args.toList.map env'.at:=map_congr' fun x hx=>h.at_ x (by simp_all [Op.operands,Call.operands])
  exact .call _ m f args ts g first cap r H1 (h.wanted ▸ hw) hop (hf' ▸ hf) (ha ▸ hc)

theorem Did.dom {ops : Array Oper} {o : Oper} {env : Env} {B : Blks} {r : AV} {B1 : Blks} (hd : Did P ops o env B r B1) {b : Nat} (hb : B1 b = none) : B b = none:=by
 cases hd with
 | skip hw=>exact hb
 | op m r H1 hw hfree he=>exact none_of_dom (local_dom (op_local he)) hb
 | call m f args ts g first cap r H1 hw hop hf hc=>exact none_of_dom (EvF.dom hc) hb

theorem Did.frame {ops : Array Oper} {o : Oper} {env : Env} {B : Blks} {r : AV} {B1 : Blks} (hd : Did P ops o env B r B1) {b : Nat} (x : Blk) (hb : B1 b = none) : Did P ops o env (setB B b x) r (setB B1 b x):=by
 cases hd with
 | skip hw=>exact .skip _ hw
 | op m r H1 hw hfree he=>
  have:=op_frame he hfree x hb
  exact .op (setB B b x) m r (H1.set b x) hw (this.2) this.1
 | call m f args ts g first cap r H1 hw hop hf hc=>exact .call (setB B b x) m f args ts g first cap r (H1.set b x) hw hop hf (EvF.frame hc x hb)

theorem Did.kind0 {ops : Array Oper} {o : Oper} {env : Env} {B : Blks} {r : AV} {B1 : Blks} (hk : opKind P o.op = 0) (hd : Did P ops o env B r B1) : B1 = B ∧ ∀ G,Did P ops o env G r G:=by
 cases hd with
 | skip hw=>exact ⟨rfl,fun G=>.skip _ hw⟩
 | op m r H1 hw hfree he=>
  obtain ⟨e,hG⟩:=Go.Ev.kind0 hk he
  subst e
  exact ⟨rfl,fun G=>.op G m r ⟨G,m⟩ hw (.inr rfl) (hG _)⟩
 | call m f args ts g first cap r H1 hw hop hf hc=>rw [hop] at hk;simp [opKind] at hk

theorem Did.kind1 {ops : Array Oper} {o : Oper} {env : Env} {B : Blks} {r : AV} {B1 : Blks} (hk : opKind P o.op = 1) (hd : Did P ops o env B r B1) : B1 = B ∧ ∀ G,UpB B G → Did P ops o env G r G:=by
 cases hd with
 | skip hw=>exact ⟨rfl,fun G _=>.skip _ hw⟩
 | op m r H1 hw hfree he=>
  obtain ⟨e,hG⟩:=Go.Ev.kind1 hk he
  subst e
  exact ⟨rfl,fun G hup=>.op G m r ⟨G,m⟩ hw (.inr rfl) (hG _ hup)⟩
 | call m f args ts g first cap r H1 hw hop hf hc=>rw [hop] at hk;simp [opKind] at hk

theorem Did.kind2 {ops : Array Oper} {o : Oper} {env : Env} {B : Blks} {r : AV} {B1 : Blks} (hk : opKind P o.op = 2) (hd : Did P ops o env B r B1) :
  (B1 = B ∧ ∀ G,Did P ops o env G r G) ∨ ∃ m x,B m = none ∧ B1 = setB B m x ∧ ∀ G,G m = none → Did P ops o env G r (setB G m x):=by
 cases hd with
 | skip hw=>exact .inl ⟨rfl,fun G=>.skip _ hw⟩
 | op m r H1 hw hfree he=>
  obtain ⟨x,e,hG⟩:=Go.Ev.kind2 hk he
  subst e
  have hf:=hfree.resolve_right (by simp [Heap.push])
  exact .inr ⟨m,x,hf,rfl,fun G hg=>.op G m r (Heap.push ⟨G,m⟩ x) hw (.inl hg) (hG _ rfl)⟩
 | call m f args ts g first cap r H1 hw hop hf hc=>rw [hop] at hk;simp [opKind] at hk

abbrev Kept:=Option ((Nat → Prop) × Bool)
def Kept.eq (Kp : Kept) : Bool:=match Kp with | some (_,true)=>true | _=>false

def UpO (Kp : Kept) (B G : Blks) : Prop:=
 match Kp with
 | none=>UpB B G
 | some (K,false)=>∀ b x,K b → B b = some x → G b = some x
 | some (K,true)=>∀ b,K b → B b = G b

theorem UpO.refl {Kp : Kept} (B : Blks) : UpO Kp B B:=by
 match Kp with
 | none=>exact UpB.refl B
 | some (K,false)=>exact fun _ _ _ h=>h
 | some (K,true)=>exact fun _ _=>rfl
theorem UpO.of_up {Kp : Kept} {B G : Blks} (h : UpB B G) (he : Kp.eq = false:=by rfl) : UpO Kp B G:=by
 match Kp,he with
 | none,_=>exact h
 | some (K,false),_=>exact fun b x _ hb=>h b x hb
theorem UpO.trans {Kp : Kept} {A B G : Blks} (h : UpO Kp A B) (h' : UpO Kp B G) : UpO Kp A G:=by
 match Kp with
 | none=>exact fun b x hb=>h' _ _ (h _ _ hb)
 | some (K,false)=>exact fun b x hk hb=>h' _ _ hk (h _ _ hk hb)
 | some (K,true)=>exact fun b hk=>(h b hk).trans (h' b hk)
theorem UpO.symm {Kp : Kept} {A B : Blks} (he : Kp.eq = true) (h : UpO Kp A B) : UpO Kp B A:=by
 match Kp,he with
 | some (K,true),_=>exact fun b hk=>(h b hk).symm

def FlOk (P : Program) (ops : Array Oper) (Kp : Kept) (o : Oper) (env : Env) (B : Blks) (r : AV) (B1 : Blks) : Prop:=
 UpO Kp B B1 ∧ (Kp.isSome = true → opKind P o.op = 1 → ∀ G,UpO Kp B G → Did P ops o env G r G)

theorem FlOk.congr {ops : Array Oper} {Kp : Kept} {o : Oper} {env env' : Env} (h : Agree ops o env env') {B : Blks} {r : AV} {B1 : Blks} (hf : FlOk P ops Kp o env B r B1) : FlOk P ops Kp o env' B r B1:=
 ⟨hf.1,fun hs hk G hG=>(hf.2 hs hk G hG).congr h⟩

def swapK (kk ee : Bool) (ki kj : Nat) (fi fj : Bool) : Bool:=ki == 0 || kj == 0 || (kj == 2 && (!ee || (!fj && (!fi || ki != 1)))) || (ki == 1 && (kj == 1 || (fj && (!kk || fi)))) || (ee && fi && fj && kj == 1)

theorem upB_set {B B1 : Blks} {m : Nat} {x : Blk} (h : UpB B B1) : UpB (setB B m x) (setB B1 m x):=fun b y hb=>by
 simp only [setB] at hb ⊢
 split
 ·rename_i e;rw [if_pos e] at hb;exact hb
 ·rename_i e;rw [if_neg e] at hb;exact h _ _ hb

theorem upB_new {B : Blks} {m : Nat} {x : Blk} (h : B m = none) : UpB B (setB B m x):=fun b y hb=>by
 simp only [setB]
 rw [if_neg (fun e=>by rw [e,h] at hb;cases hb)];exact hb

theorem upO_set {Kp : Kept} {B B1 : Blks} {m : Nat} {x : Blk} (h : UpO Kp B B1) : UpO Kp (setB B m x) (setB B1 m x):=by
 match Kp with
 | none=>exact upB_set h
 | some (K,false)=>
  intro b y hk hb
  simp only [setB] at hb ⊢
  split
  ·rename_i e;rw [if_pos e] at hb;exact hb
  ·rename_i e;rw [if_neg e] at hb;exact h _ _ hk hb
 | some (K,true)=>
  intro b hk
  simp only [setB]
  split
  ·rfl
  ·exact h b hk

theorem swap_heap {ops : Array Oper} {Kp : Kept} {oi oj : Oper} {env : Env} {B : Blks} {ri : AV} {B1 : Blks} {rj : AV} {B2 : Blks} {fi fj : Bool} (hs : swapK Kp.isSome Kp.eq (opKind P oi.op) (opKind P oj.op) fi fj = true)
  (hi : Did P ops oi env B ri B1) (hui : fi = true → FlOk P ops Kp oi env B ri B1) (hj : Did P ops oj env B1 rj B2) (huj : fj = true → FlOk P ops Kp oj env B1 rj B2) :
  ∃ B1',(Did P ops oj env B rj B1' ∧ (fj = true → FlOk P ops Kp oj env B rj B1')) ∧ (Did P ops oi env B1' ri B2 ∧ (fi = true → FlOk P ops Kp oi env B1' ri B2)):=by
 simp only [swapK,Bool.or_eq_true,Bool.and_eq_true,beq_iff_eq] at hs
 rcases hs with (((h | h) | ⟨h,hee⟩) | ⟨h,h'⟩) | ⟨⟨⟨hee,hfi⟩,hfj⟩,h⟩
 ·obtain ⟨rfl,hG⟩:=hi.kind0 h
  exact ⟨B2,⟨hj,huj⟩,hG _,fun _=>⟨UpO.refl _,fun _ hk=>by rw [h] at hk;cases hk⟩⟩
 ·obtain ⟨rfl,hG⟩:=hj.kind0 h
  exact ⟨B,⟨hG _,fun _=>⟨UpO.refl _,fun _ hk=>by rw [h] at hk;cases hk⟩⟩,hi,hui⟩
 ·rcases hj.kind2 h with ⟨rfl,hG⟩ | ⟨m,x,hm,rfl,hG⟩
  ·exact ⟨B,⟨hG _,fun _=>⟨UpO.refl _,fun _ hk=>by rw [h] at hk;cases hk⟩⟩,hi,hui⟩
  ·have hb:=hi.dom hm
   cases he : Kp.eq with
   | false=>
    exact ⟨setB B m x,⟨hG _ hb,fun _=>⟨UpO.of_up (upB_new hb) he,fun _ hk=>by rw [h] at hk;cases hk⟩⟩,hi.frame x hm,
     fun q=>⟨upO_set (hui q).1,fun hs hk G hG'=>(hui q).2 hs hk G ((UpO.of_up (upB_new hb) he).trans hG')⟩⟩
   | true=>
    rw [he] at hee
    simp only [Bool.not_true,Bool.false_eq_true,false_or,Bool.not_eq_true',Bool.and_eq_true,Bool.or_eq_true,bne_iff_ne,ne_eq] at hee
    obtain ⟨hfj,hor⟩:=hee
    exact ⟨setB B m x,⟨hG _ hb,fun q=>by rw [hfj] at q;cases q⟩,hi.frame x hm,
     fun q=>⟨upO_set (hui q).1,fun hs hk=>by
      rcases hor with e | e
      ·rw [e] at q;cases q
      ·exact absurd hk e⟩⟩
 ·obtain ⟨rfl,hG⟩:=hi.kind1 h
  rcases h' with h' | ⟨h',h''⟩
  ·obtain ⟨rfl,hG'⟩:=hj.kind1 h'
   exact ⟨B2,⟨hj,huj⟩,hi,hui⟩
  ·have hu:=(huj h').1
   refine ⟨B2,⟨hj,huj⟩,?_,fun q=>⟨UpO.refl _,fun hs hk G hG'=>(hui q).2 hs hk G (hu.trans hG')⟩⟩
   cases Kp with
   | none=>exact hG _ hu
   | some K=>
    have hfi : fi = true:=by simpa using h''
    exact (hui hfi).2 rfl h _ hu
 ·obtain ⟨rfl,hG⟩:=hj.kind1 h
  have hsome : Kp.isSome = true:=by
   match Kp,hee with
   | some (K,true),_=>rfl
  have hu:=(hui hfi).1
  have hback:=UpO.symm hee hu
  exact ⟨B,⟨(huj hfj).2 hsome h _ hback,fun q=>⟨UpO.refl _,fun hs hk G hG'=>(huj q).2 hs hk G (hback.trans hG')⟩⟩,hi,hui⟩


def St (P : Program) (Kp : Kept) (n : Nat) (ops : Array Oper) (fl : Nat → Bool) (i : Nat) (env : Env) (B : Blks) (env1 : Env) (B1 : Blks) : Prop:=
 ∃ o r,ops[i]? = some o ∧ dstOk n o.dst = true ∧ Did P ops o env B r B1 ∧ env1 = env.put o.dst r ∧ (fl i = true → FlOk P ops Kp o env B r B1)

def Run (P : Program) (Kp : Kept) (n : Nat) (ops : Array Oper) (fl : Nat → Bool) : List Nat → Env → Blks → Env → Blks → Prop
 | [],env,B,env',B'=>env' = env ∧ B' = B
 | i :: l,env,B,env',B'=>∃ env1 B1,St P Kp n ops fl i env B env1 B1 ∧ Run P Kp n ops fl l env1 B1 env' B'

theorem Run.evS {Kp : Kept} {n : Nat} {ops : Array Oper} {fl : Nat → Bool} : ∀ {l : List Nat} {env : Env} {B : Blks} {env' : Env} {B' : Blks},Run P Kp n ops fl l env B env' B' → ∀ m m',EvS P n ops l env ⟨B,m⟩ env' ⟨B',m'⟩
 | [],env,B,env',B',h,m,m'=>by
  obtain ⟨rfl,rfl⟩:=h
  exact .hint _ _ _ m' _ _ _ _ (.nil _ _ _ _)
 | i :: l,env,B,env',B',h,m,m'=>by
  obtain ⟨env1,B1,⟨o,r,ho,hd,hdid,rfl,_⟩,h⟩:=h
  cases hdid with
  | skip hw=>exact .skip _ _ _ _ o _ _ _ _ ho hw hd (Run.evS h m m')
  | op k r H1 hw hfree he=>
   refine .hint _ _ _ k _ _ _ _ (.op _ _ _ _ o _ _ r H1 _ _ ho hw hd hfree he ?_)
   exact Run.evS h H1.next m'
  | call k f args ts g first cap r H1 hw hop hf hc=>
   refine .hint _ _ _ k _ _ _ _ (.call _ _ _ _ o f args ts g first cap _ _ r H1 _ _ ho hw hd hop hf hc ?_)
   exact Run.evS h H1.next m'

def swapB (P : Program) (kk ee : Bool) (ops : Array Oper) (fl : Nat → Bool) (j i : Nat) : Bool:=
 match ops[j]?,ops[i]? with
 | some oj,some oi=>oj.apart ops oi && swapK kk ee (opKind P oj.op) (opKind P oi.op) (fl j) (fl i)
 | _,_=>false

theorem St.swap {Kp : Kept} {n : Nat} {ops : Array Oper} {fl : Nat → Bool} {i j : Nat} (hs : swapB P Kp.isSome Kp.eq ops fl j i = true) {env : Env} {B : Blks} {env1 : Env} {B1 : Blks} {env2 : Env} {B2 : Blks}
  (h1 : St P Kp n ops fl j env B env1 B1) (h2 : St P Kp n ops fl i env1 B1 env2 B2) : ∃ env1' B1',St P Kp n ops fl i env B env1' B1' ∧ St P Kp n ops fl j env1' B1' env2 B2:=by
 obtain ⟨oj,rj,hoj,hdj,hj,rfl,huj⟩:=h1
 obtain ⟨oi,ri,hoi,hdi,hi,rfl,hui⟩:=h2
 simp only [swapB,hoj,hoi,Bool.and_eq_true] at hs
 obtain ⟨hap,hk⟩:=hs
 obtain ⟨p1,p2,p3⟩:=Oper.apart_spec hap
 have hi' : Did P ops oi env B1 ri B2:=hi.congr (fun t ht=>(agree_put (env:=env) (v:=rj) p1 t ht).symm)
 obtain ⟨B1',⟨q1,q2⟩,q3,q4⟩:=swap_heap hk hj huj hi' (fun q=>(hui q).congr (fun t ht=>(agree_put (env:=env) (v:=rj) p1 t ht).symm))
 refine ⟨_,B1',⟨oi,ri,hoi,hdi,q1,rfl,q2⟩,oj,rj,hoj,hdj,q3.congr (agree_put p3),?_,fun q=>(q4 q).congr (agree_put p3)⟩
 exact Env.put_comm env rj ri p2

theorem Run.moveFront {Kp : Kept} {n : Nat} {ops : Array Oper} {fl : Nat → Bool} {i : Nat} {l2 : List Nat} : ∀ {l1 : List Nat},(∀ j ∈ l1,swapB P Kp.isSome Kp.eq ops fl j i = true) → ∀ {env : Env} {B : Blks} {env' : Env} {B' : Blks},
  Run P Kp n ops fl (l1 ++ i :: l2) env B env' B' → Run P Kp n ops fl (i :: (l1 ++ l2)) env B env' B'
 | [],_,env,B,env',B',h=>h
 | j :: l1,hs,env,B,env',B',h=>by
  obtain ⟨env1,B1,hj,h⟩:=h
  obtain ⟨env2,B2,hi,h⟩:=Run.moveFront (l1:=l1) (fun k hk=>hs k (List.mem_cons_of_mem _ hk)) h
  obtain ⟨env1',B1',hi',hj'⟩:=St.swap (hs j List.mem_cons_self) hj hi
  exact ⟨_,_,hi',_,_,hj',h⟩


def preds (ops : Array Oper) (i : Nat) : List Nat:=
 match ops[i]? with
 | some o=>(o.after.toList.filter (Region.binds .any)).map (·.on)
 | none=>[]

def beforeB (ops : Array Oper) : Nat → Nat → Nat → Bool
 | 0,_,_=>false
 | k + 1,j,i=>(preds ops i).any fun e=>e == j || beforeB ops k j e

def okPair (P : Program) (kk ee : Bool) (ops : Array Oper) (fl : Nat → Bool) (j i : Nat) : Bool:=
 i != j && !(preds ops j).contains i && (swapB P kk ee ops fl j i || beforeB ops ops.size j i)

def pairwiseB {α : Type} (f : α → α → Bool) : List α → Bool
 | []=>true
 | a :: l=>l.all (f a) && pairwiseB f l

theorem pairwiseB_spec {α : Type} {f : α → α → Bool} : ∀ {l : List α},pairwiseB f l = true → l.Pairwise fun a b=>f a b = true
 | [],_=>.nil
 | a :: l,h=>by
  simp only [pairwiseB,Bool.and_eq_true,List.all_eq_true] at h
  exact .cons h.1 (pairwiseB_spec h.2)

def drawOkE (P : Program) (kk ee : Bool) (ops : Array Oper) (fl : Nat → Bool) (base : List Nat) : Bool:=
 (List.range ops.size).all (fun i=>base.contains i && (preds ops i).all fun e=>e != i && decide (e < ops.size)) && base.all (fun i=>decide (i < ops.size)) && decide (base.length ≤ ops.size) && pairwiseB (okPair P kk ee ops fl) base

def drawOk (P : Program) (ops : Array Oper) (fl : Nat → Bool) (base : List Nat) : Bool:=drawOkE P false false ops fl base

def Closed (ops : Array Oper) (listed : Array Bool) : Prop:=∀ k,listed.getD k false = true → ∀ e ∈ preds ops k,listed.getD e false = true

theorem before_listed {ops : Array Oper} {listed : Array Bool} (hc : Closed ops listed) : ∀ (k : Nat) {j i : Nat},(∀ e ∈ preds ops i,listed.getD e false = true) → beforeB ops k j i = true → listed.getD j false = true
 | 0,j,i,hi,h=>by simp [beforeB] at h
 | k + 1,j,i,hi,h=>by
  simp only [beforeB,List.any_eq_true,Bool.or_eq_true,beq_iff_eq] at h
  obtain ⟨e,he,h⟩:=h
  rcases h with rfl | h
  ·exact hi _ he
  ·exact before_listed hc k (hc e (hi e he)) h

theorem ready_iff {ops : Array Oper} {listed : Array Bool} {i : Nat} : i ∈ Region.ready .any ops listed ↔ listed.getD i true = false ∧ i < ops.size ∧ ∀ e ∈ preds ops i,listed.getD e false = true:=by
 rw [mem_ready]
 constructor
 ·rintro ⟨h0,o,ho,h⟩
  refine ⟨h0,(Array.getElem?_eq_some_iff.1 ho).1,fun e he=>?_⟩
  simp only [preds,ho,List.mem_map,List.mem_filter] at he
  obtain ⟨d,⟨hd,hb⟩,rfl⟩:=he
  exact h d (by simpa using hd) hb
 ·rintro ⟨h0,hlt,h⟩
  refine ⟨h0,ops[i],Array.getElem?_eq_getElem hlt,fun e he hb=>h e.on ?_⟩
  simp only [preds,Array.getElem?_eq_getElem hlt,List.mem_map,List.mem_filter]
  exact ⟨e,⟨by simpa using he,hb⟩,rfl⟩

theorem go_run {Kp : Kept} {n : Nat} {ops : Array Oper} {fl : Nat → Bool} (hps : ∀ i,i < ops.size → ∀ e ∈ preds ops i,e ≠ i ∧ e < ops.size) : ∀ (fuel t : Nat) (listed : Array Bool) (rem : List Nat) {env : Env} {B : Blks} {env' : Env} {B' : Blks},
  listed.size = ops.size → rem.length ≤ fuel → (∀ i,i ∈ rem ↔ i < ops.size ∧ listed.getD i true = false) → rem.Pairwise (fun j i=>okPair P Kp.isSome Kp.eq ops fl j i = true) → Closed ops listed → Run P Kp n ops fl rem env B env' B' →
  Run P Kp n ops fl (Region.linearise.go .any ops fuel t listed []) env B env' B':=by
 intro fuel
 induction fuel with
 | zero=>
  intro t listed rem env B env' B' hsz hlen hmem hpw hcl h
  have : rem = []:=by cases rem with
   | nil=>rfl
   | cons a l=>simp at hlen
  subst this
  simpa [Region.linearise.go] using h
 | succ fuel ih=>
  intro t listed rem env B env' B' hsz hlen hmem hpw hcl h
  have hget : ∀ i,i < ops.size → (listed.getD i true = false ∨ listed.getD i false = true):=fun i hi=>by
   have hi' : i < listed.size:=by omega
   simp only [Array.getD_eq_getD_getElem?,Array.getElem?_eq_getElem hi',Option.getD_some]
   cases listed[i] <;> simp
  simp only [Region.linearise.go]
  change Run P Kp n ops fl (match (Region.ready .any ops listed)[t % (Region.ready .any ops listed).length]? with
   | some i=>Region.linearise.go .any ops fuel (t / (Region.ready .any ops listed).length) (listed.setIfInBounds i true) [i]
   | none=>[].reverse) env B env' B'
  cases hi : (Region.ready .any ops listed)[t % (Region.ready .any ops listed).length]? with
  | none=>
   have hnil : Region.ready .any ops listed = []:=by
    cases hr : Region.ready .any ops listed with
    | nil=>rfl
    | cons x xs=>
     rw [hr] at hi
     have hlt : t % (x :: xs).length < (x :: xs).length:=Nat.mod_lt _ (by simp)
     simp at hi
     simp at hlt
     omega
   have : rem = []:=by
    cases rem with
    | nil=>rfl
    | cons a l=>
     exfalso
     obtain ⟨ha1,ha2⟩:=(hmem a).1 List.mem_cons_self
     have : a ∈ Region.ready .any ops listed:=by
      rw [ready_iff]
      refine ⟨ha2,ha1,fun e he=>?_⟩
      obtain ⟨hne,hlt⟩:=hps a ha1 e he
      rcases hget e hlt with h1 | h1
      ·exfalso
       have hel : e ∈ a :: l:=(hmem e).2 ⟨hlt,h1⟩
       rcases List.mem_cons.1 hel with h2 | h2
       ·exact hne h2
       ·have:=(List.pairwise_cons.1 hpw).1 e h2
        simp only [okPair,Bool.and_eq_true,Bool.not_eq_true',List.contains_eq_mem,decide_eq_false_iff_not] at this
        exact this.1.2 he
      ·exact h1
     rw [hnil] at this
     cases this
   subst this
   simpa using h
  | some i=>
   simp only []
   rw [linearise_go_acc,List.reverse_singleton,List.singleton_append]
   have hr:=ready_iff.1 (List.mem_of_getElem? hi)
   obtain ⟨r1,r2,r3⟩:=hr
   obtain ⟨l1,l2,e⟩:=List.append_of_mem ((hmem i).2 ⟨r2,r1⟩)
   subst e
   obtain ⟨p1,p2,p3⟩:=List.pairwise_append.1 hpw
   obtain ⟨p4,p5⟩:=List.pairwise_cons.1 p2
   have hsw : ∀ j ∈ l1,swapB P Kp.isSome Kp.eq ops fl j i = true:=fun j hj=>by
    have:=p3 j hj i List.mem_cons_self
    simp only [okPair,Bool.and_eq_true,Bool.or_eq_true] at this
    rcases this.2 with h1 | h1
    ·exact h1
    ·have hlj:=before_listed hcl _ r3 h1
     have:=((hmem j).1 (by simp [hj])).2
     have hjs:=((hmem j).1 (by simp [hj])).1
     have hj' : j < listed.size:=by omega
     simp only [Array.getD_eq_getD_getElem?,Array.getElem?_eq_getElem hj',Option.getD_some] at hlj this
     rw [hlj] at this;cases this
   obtain ⟨env1,B1,hst,hrun⟩:=Run.moveFront hsw h
   have hni : ∀ k,k ∈ l1 ++ l2 → k ≠ i:=fun k hk hki=>by
    subst hki
    rcases List.mem_append.1 hk with hk | hk
    ·have:=p3 k hk k List.mem_cons_self
     simp [okPair] at this
    ·have:=p4 k hk
     simp [okPair] at this
   refine ⟨env1,B1,hst,ih _ _ (l1 ++ l2) (by simp [hsz]) ?_ (fun k=>?_) ?_ (fun k hk e he=>?_) hrun⟩
   ·simp at hlen ⊢;omega
   ·by_cases hki : k = i
    ·subst hki
     constructor
     ·intro hk;exact absurd rfl (hni k hk)
     ·rintro ⟨_,hk⟩
      have : k < listed.size:=by omega
      simp [this] at hk
    ·rw [getD_set_ne _ (Ne.symm hki)]
     rw [← hmem k]
     simp [hki]
   ·exact List.pairwise_append.2 ⟨p1,p5,fun a ha b hb=>p3 a ha b (List.mem_cons_of_mem _ hb)⟩
   ·by_cases hki : k = i
    ·subst hki;exact getD_set_true (r3 e he)
    ·rw [getD_set_ne _ (Ne.symm hki)] at hk
     exact getD_set_true (hcl k hk e he)

theorem draw_of_run {Kp : Kept} {n : Nat} {ops : Array Oper} {fl : Nat → Bool} {base : List Nat} (hok : drawOkE P Kp.isSome Kp.eq ops fl base = true) {env : Env} {H : Heap} {env' : Env} {H' : Heap} (h : Run P Kp n ops fl base env H.blk env' H'.blk) (t : Nat) :
  EvS P n ops (Region.linearise .any ops t) env H env' H':=by
 simp only [drawOkE,Bool.and_eq_true,List.all_eq_true,List.mem_range,List.contains_eq_mem,decide_eq_true_eq,bne_iff_ne] at hok
 obtain ⟨⟨⟨h1,h2⟩,hlen⟩,h3⟩:=hok
 have hpw:=pairwiseB_spec h3
 refine Run.evS (go_run (fun i hi e he=>(h1 i hi).2 e he) ops.size t _ base (by simp) hlen (fun i=>?_) hpw ?_ h) H.next H'.next
 ·constructor
  ·intro hi;exact ⟨h2 i hi,by simp [h2 i hi]⟩
  ·rintro ⟨hi,_⟩;exact (h1 i hi).1
 ·intro k hk
  exfalso
  by_cases hlt : k < ops.size
  ·simp [hlt] at hk
  ·simp [hlt] at hk

end
end Go.Ev
set_option linter.unusedVariables false
set_option linter.unusedSimpArgs false
namespace Go.Ev
open Go.RowKit
section
variable (P : Program)

def WF (f : FuncId) (args : List AV) (H : Heap) (K : AV → Heap → Prop) : Prop:=∃ r H',EvF P f args H r H' ∧ K r H'

theorem WF.mono {P : Program} {f : FuncId} {args : List AV} {H : Heap} {K K' : AV → Heap → Prop} (h : WF P f args H K) (hk : ∀ r H',K r H' → K' r H') : WF P f args H K':=
 let ⟨r,H',h1,h2⟩:=h;⟨r,H',h1,hk r H' h2⟩

def WCall (f : AV) (args : List AV) (H : Heap) (K : AV → Heap → Prop) : Prop:=
 match f with
 | .func (.func g) first cap=>WF P g (first ++ args ++ cap) H K
 | _=>False

def FlOp (Kp : Kept) (o : Oper) (env : Env) (H : Heap) (r : AV) (H1 : Heap) : Prop:=
 match Kp with
 | none=>UpB H.blk H1.blk
 | some K=>UpO (some K) H.blk H1.blk ∧ (opKind P o.op = 1 → ∀ (G : Blks) (m : Nat),UpO (some K) H.blk G → evOp P env.at o ⟨G,m⟩ = some (r,⟨G,m⟩))

def WS (Kp : Kept) (n : Nat) (ops : Array Oper) : List (Oper × Bool) → Env → Heap → (Env → Heap → Prop) → Prop
  | [],env,H,K=>K env H
  | (o,fl) :: l,env,H,K=>
    match wantedA ops env o,dstOk n o.dst with
    | some false,true=>WS Kp n ops l (env.put o.dst (.tuple [])) H K
    | some true,true=>
      (match o.op with
       | .call { callee:=.value f,args,.. }=>WCall P (env.at f) (args.toList.map env.at) H fun r H1=>(fl = true → UpO Kp H.blk H1.blk) ∧ WS Kp n ops l (env.put o.dst r) H1 K
       | _=>(match evOp P env.at o H with
         | some (r,H1)=>(H1.next = H.next ∨ H.blk H.next = none) ∧ (fl = true → FlOp P Kp o env H r H1) ∧ WS Kp n ops l (env.put o.dst r) H1 K
         | none=>False))
    | _,_=>False

def laid (ops : Array Oper) (fs base : List Nat) : List (Oper × Bool):=base.filterMap fun i=>(ops.toList[i]?).map (·,fs.contains i)

def plain (ops : Array Oper) : List (Oper × Bool):=ops.toList.map (·,false)

def WC (n : Nat) : Code → Env → Heap → (Ex → Env → Heap → Prop) → Prop
 | .skip,env,H,Q | .label _,env,H,Q=>Q .normal env H
 | .region _ ops false,env,H,Q=>WS P none n ops (plain ops) env H (Q .normal)
 | .region _ ops true,env,H,Q=>∃ (Kp : Kept) (fs base : List Nat),drawOkE P Kp.isSome Kp.eq ops fs.contains base = true ∧ WS P Kp n ops (laid ops fs base) env H (Q .normal)
 | .seq a b,env,H,Q=>WC n a env H fun ex env' H'=>match ex with | .normal=>WC n b env' H' Q | ex=>Q ex env' H'
 | .cond c a b,env,H,Q=>(match env.at c with | .bool t=>if t = true then WC n a env H Q else WC n b env H Q | _=>False)
 | .block id c,env,H,Q=>WC n c env H fun ex env' H'=>match ex with | .exit i=>if i = id then Q .normal env' H' else Q (.exit i) env' H' | ex=>Q ex env' H'
 | .loop c,env,H,Q=>∃ ex env' H',EvL P n c env H ex env' H' ∧ Q ex env' H'
 | .exit id,env,H,Q=>Q (.exit id) env H
 | .ret,env,H,Q=>Q .ret env H
 | .scope c,env,H,Q=>WC n c env H Q
 | _,_,_,_=>False

theorem flOp_ok {P : Program} {Kp : Kept} {ops : Array Oper} {o : Oper} {env : Env} {H : Heap} {r : AV} {H1 : Heap} (hw : wantedA ops env o = some true) (h : FlOp P Kp o env H r H1) : FlOk P ops Kp o env H.blk r H1.blk:=by
 cases Kp with
 | none=>exact ⟨h,fun hs=>by cases hs⟩
 | some K=>exact ⟨h.1,fun _ hk G hG=>.op G H.next r ⟨G,H.next⟩ hw (.inr rfl) (h.2 hk G H.next hG)⟩

theorem WS_run {Kp : Kept} {n : Nat} {ops : Array Oper} {fl : Nat → Bool} : ∀ (l : List (Oper × Bool)) (is : List Nat) (env : Env) (H : Heap) (K : Env → Heap → Prop),is.map (fun i=>(ops[i]?,fl i)) = l.map (fun p=>(some p.1,p.2)) → WS P Kp n ops l env H K →
  ∃ env' H',Run P Kp n ops fl is env H.blk env' H'.blk ∧ K env' H'
 | [],is,env,H,K,hi,h=>by
  cases is with
  | nil=>exact ⟨env,H,⟨rfl,rfl⟩,h⟩
  | cons i is=>simp at hi
 | (o,f) :: l,is,env,H,K,hi,h=>by
  cases is with
  | nil=>simp at hi
  | cons i is=>
   simp only [List.map_cons,List.cons.injEq,Prod.mk.injEq] at hi
   obtain ⟨⟨ho,hfl⟩,hi⟩:=hi
   simp only [WS] at h
   split at h
   ·rename_i hw hd
    obtain ⟨env',H',h1,h2⟩:=WS_run l is _ _ _ hi h
    exact ⟨env',H',⟨_,_,⟨o,_,ho,hd,.skip _ hw,rfl,fun _=>⟨UpO.refl _,fun _ _ G _=>.skip _ hw⟩⟩,h1⟩,h2⟩
   ·rename_i hw hd
    split at h
    ·rename_i f args ts hop
     unfold WCall at h
     split at h
     ·rename_i g first cap hf
      obtain ⟨r,H1,hF,hu,h⟩:=h
      obtain ⟨env',H',h1,h2⟩:=WS_run l is _ _ _ hi h
      exact ⟨env',H',⟨_,_,⟨o,r,ho,hd,.call _ H.next f args ts g first cap r H1 hw hop hf hF,rfl,fun q=>⟨hu (hfl ▸ q),fun _ hk=>by rw [hop] at hk;simp [opKind] at hk⟩⟩,h1⟩,h2⟩
     ·exact h.elim
    ·split at h
     ·rename_i r H1 hev
      obtain ⟨hfree,hu,h⟩:=h
      obtain ⟨env',H',h1,h2⟩:=WS_run l is _ _ _ hi h
      exact ⟨env',H',⟨_,_,⟨o,r,ho,hd,.op _ H.next r H1 hw hfree.symm hev,rfl,fun q=>flOp_ok hw (hu (hfl ▸ q))⟩,h1⟩,h2⟩
     ·exact h.elim
   ·exact h.elim

theorem plain_ops (ops : Array Oper) : (List.range ops.size).map (fun i=>(ops[i]?,false)) = (plain ops).map (fun p=>(some p.1,p.2)):=by
 apply List.ext_getElem?
 intro i
 simp only [List.getElem?_map,plain]
 by_cases h : i < ops.size
 ·simp [List.getElem?_range h,h]
 ·rw [List.getElem?_eq_none (by simp;omega),List.getElem?_eq_none (by simp;omega)];rfl

theorem laid_ops (ops : Array Oper) (fs : List Nat) : ∀ (base : List Nat),(∀ i ∈ base,i < ops.size) → base.map (fun i=>(ops[i]?,fs.contains i)) = (laid ops fs base).map (fun p=>(some p.1,p.2))
 | [],_=>rfl
 | i :: l,h=>by
  have hi : i < ops.size:=h i List.mem_cons_self
  have:=laid_ops ops fs l (fun k hk=>h k (List.mem_cons_of_mem _ hk))
  simp only [laid,List.contains_eq_mem] at this ⊢
  simpa [hi] using this

theorem WC_sound {n : Nat} : ∀ (c : Code) (env : Env) (H : Heap) (Q : Ex → Env → Heap → Prop),WC P n c env H Q → ∃ ex env' H',EvC P n c env H ex env' H' ∧ Q ex env' H'
 | .skip,env,H,Q,h=>⟨_,_,_,.skip _ _ _,h⟩
 | .label l,env,H,Q,h=>⟨_,_,_,.label _ _ _ _,h⟩
 | .region id ops false,env,H,Q,h=>by
  simp only [WC] at h
  obtain ⟨env',H',h1,h2⟩:=WS_run P (fl:=fun _=>false) _ _ _ _ _ (plain_ops ops) h
  exact ⟨_,_,_,.region _ _ _ _ _ _ _ (h1.evS _ _),h2⟩
 | .region id ops true,env,H,Q,h=>by
  simp only [WC] at h
  obtain ⟨Kp,fs,base,hok,h⟩:=h
  have hb : ∀ i ∈ base,i < ops.size:=by
   simp only [drawOkE,Bool.and_eq_true,List.all_eq_true,decide_eq_true_eq] at hok
   exact hok.1.1.2
  obtain ⟨env',H',h1,h2⟩:=WS_run P _ _ _ _ _ (laid_ops ops fs base hb) h
  exact ⟨_,_,_,.draw _ _ _ _ _ _ _ (draw_of_run hok h1),h2⟩
 | .seq a b,env,H,Q,h=>by
  simp only [WC] at h
  obtain ⟨ex,env',H',h1,h2⟩:=WC_sound a env H _ h
  cases ex with
  | normal=>
   obtain ⟨ex,env2,H2,h3,h4⟩:=WC_sound b env' H' Q h2
   exact ⟨_,_,_,.seq _ _ _ _ _ _ _ _ _ _ h1 h3,h4⟩
  | exit i=>exact ⟨_,_,_,.seqOut _ _ _ _ _ _ _ _ h1 (by simp),h2⟩
  | ret=>exact ⟨_,_,_,.seqOut _ _ _ _ _ _ _ _ h1 (by simp),h2⟩
 | .cond c a b,env,H,Q,h=>by
  simp only [WC] at h
  split at h
  ·rename_i t ht
   split at h
   ·rename_i e
    subst e
    obtain ⟨ex,env',H',h1,h2⟩:=WC_sound a env H Q h
    exact ⟨_,_,_,.cond _ _ _ _ true _ _ _ _ _ ht h1,h2⟩
   ·rename_i e
    obtain rfl : t = false:=by cases t <;> simp_all
    obtain ⟨ex,env',H',h1,h2⟩:=WC_sound b env H Q h
    exact ⟨_,_,_,.cond _ _ _ _ false _ _ _ _ _ ht h1,h2⟩
  ·exact h.elim
 | .block id c,env,H,Q,h=>by
  simp only [WC] at h
  obtain ⟨ex,env',H',h1,h2⟩:=WC_sound c env H _ h
  cases ex with
  | normal=>exact ⟨_,_,_,.block _ _ _ _ _ _ _ _ h1 (.inl rfl),h2⟩
  | exit i=>
   simp only at h2
   split at h2
   ·rename_i e;subst e;exact ⟨_,_,_,.block _ _ _ _ _ _ _ _ h1 (.inr rfl),h2⟩
   ·rename_i e;exact ⟨_,_,_,.blockOut _ _ _ _ _ _ _ _ h1 ⟨by simp,by simpa using e⟩,h2⟩
  | ret=>exact ⟨_,_,_,.blockOut _ _ _ _ _ _ _ _ h1 ⟨by simp,by simp⟩,h2⟩
 | .loop c,env,H,Q,h=>by
  simp only [WC] at h
  obtain ⟨ex,env',H',h1,h2⟩:=h
  exact ⟨_,_,_,.loop _ _ _ _ _ _ _ h1,h2⟩
 | .exit id,env,H,Q,h=>⟨_,_,_,.exit _ _ _ _,h⟩
 | .ret,env,H,Q,h=>⟨_,_,_,.ret _ _ _,h⟩
 | .scope c,env,H,Q,h=>by
  simp only [WC] at h
  obtain ⟨ex,env',H',h1,h2⟩:=WC_sound c env H _ h
  exact ⟨_,_,_,.scope _ _ _ _ _ _ _ h1,h2⟩
 | .rangeFunc ..,env,H,Q,h=>by simp [WC] at h
 | .goto ..,env,H,Q,h=>by simp [WC] at h
 | .refuse ..,env,H,Q,h=>by simp [WC] at h

theorem WF_of {f : FuncId} {fn : Func} {c : Code} {args : List AV} {H : Heap} {K : AV → Heap → Prop} (hf : P.funcs[f]? = some fn) (hn : (fn.name == "runtime.NumGoroutine") = false) (hb : fn.body = some c) (ha : args.length ≤ fn.ntmps)
  (h : WC P fn.ntmps c (Env.ofArgs args) H fun ex env H'=>match ex,evResults P fn.results.toList env H' with | .normal,some r=>K r H' | .ret,some r=>K r H' | _,_=>False) : WF P f args H K:=by
 obtain ⟨ex,env,H',h1,h2⟩:=WC_sound P _ _ _ _ h
 cases hr : evResults P fn.results.toList env H' with
 | none=>simp [hr] at h2
 | some r=>
  simp only [hr] at h2
  cases ex with
  | normal=>exact ⟨r,H',.mk f fn c args H _ env H' r hf hn hb ha h1 (.inl rfl) hr,h2⟩
  | ret=>exact ⟨r,H',.mk f fn c args H _ env H' r hf hn hb ha h1 (.inr rfl) hr,h2⟩
  | exit i=>exact h2.elim

theorem WL_of {n : Nat} {c : Code} (I : Env → Heap → Prop) (μ : Env → Heap → Nat) (Q : Ex → Env → Heap → Prop)
  (round : ∀ env H,I env H → WC P n c env H fun ex env' H'=>match ex with | .normal=>I env' H' ∧ μ env' H' < μ env H | ex=>Q ex env' H') :
  ∀ env H,I env H → ∃ ex env' H',EvL P n c env H ex env' H' ∧ Q ex env' H':=by
 have key : ∀ k env H,μ env H = k → I env H → ∃ ex env' H',EvL P n c env H ex env' H' ∧ Q ex env' H':=by
  intro k
  induction k using Nat.strongRecOn with
  | _ k ih=>
   intro env H hk hI
   obtain ⟨ex,env1,H1,h1,h2⟩:=WC_sound P _ _ _ _ (round env H hI)
   cases ex with
   | normal=>
    obtain ⟨hI1,hlt⟩:=h2
    obtain ⟨ex,env2,H2,h3,h4⟩:=ih _ (hk ▸ hlt) env1 H1 rfl hI1
    exact ⟨ex,env2,H2,.again _ _ _ _ _ _ _ _ _ h1 h3,h4⟩
   | exit i=>exact ⟨_,_,_,.out _ _ _ _ _ _ _ h1 (by simp),h2⟩
   | ret=>exact ⟨_,_,_,.out _ _ _ _ _ _ _ h1 (by simp),h2⟩
 exact fun env H hI=>key _ env H rfl hI

def H0 : Heap:=⟨fun _=>none,0⟩
def E0 : Emb:=⟨fun _ _=>none,fun _=>none⟩

end
end Go.Ev
set_option linter.unusedVariables false
set_option linter.unusedSimpArgs false
namespace Go.Ev


def M0 : Nat:=10000000
structure Free (H : Heap) : Prop where
 above : ∀ b,H.next ≤ b → H.blk b = none
 low : ∀ b,b < M0 → H.blk b = none
 base : M0 ≤ H.next
instance {H : Heap} : CoeFun (Free H) (fun _=>∀ b,H.next ≤ b → H.blk b = none):=⟨Free.above⟩

theorem Free.push {H : Heap} (h : Free H) (x : Blk) : Free (H.push x):=⟨fun b hb=>by
 have hb' : H.next + 1 ≤ b:=hb
 simp only [Heap.push]
 rw [if_neg (by omega)];exact h b (by omega),fun b hb=>by
 have:=h.base
 simp only [Heap.push]
 rw [if_neg (by omega)];exact h.low b hb,Nat.le_succ_of_le h.base⟩
theorem Free.lt {H : Heap} (h : Free H) {b : Nat} {x : Blk} (hb : H.blk b = some x) : M0 ≤ b ∧ b < H.next:=by
 refine ⟨?_,?_⟩
 ·apply Classical.byContradiction
  intro hn
  rw [h.low b (by omega)] at hb;cases hb
 ·apply Classical.byContradiction
  intro hn
  rw [h b (by omega)] at hb;cases hb
theorem Free.set {H : Heap} (h : Free H) {b : Nat} (hb : M0 ≤ b ∧ b < H.next) (x : Blk) : Free (H.set b x):=⟨fun c hc=>by
 have hc' : H.next ≤ c:=hc
 rw [Heap.set_other _ _ _ (by omega)];exact h c hc',fun c hc=>by
 rw [Heap.set_other _ _ _ (by omega)];exact h.low c hc,h.base⟩
theorem Free.at {H : Heap} (h : Free H) : H.blk H.next = none:=h _ (Nat.le_refl _)

theorem push_blk_same (H : Heap) (x : Blk) : (H.push x).blk H.next = some x:=by simp [Heap.push]
theorem push_blk_other {H : Heap} {b : Nat} (x : Blk) (h : b ≠ H.next) : (H.push x).blk b = H.blk b:=by simp only [Heap.push];rw [if_neg h]
theorem push_blk_old {H : Heap} (hF : Free H) {b : Nat} {x y : Blk} (h : H.blk b = some y) : (H.push x).blk b = some y:=by
 rw [push_blk_other _ (by have:=hF.lt h;omega)];exact h

theorem Up.refl (H : Heap) : Up H H:=fun _ _ h=>h
theorem Up.trans {H G K : Heap} (h : Up H G) (k : Up G K) : Up H K:=fun b x hb=>k b x (h b x hb)
theorem Up.push {H0 H : Heap} (h : Up H0 H) (hF : Free H) (x : Blk) : Up H0 (H.push x):=fun b y hb=>push_blk_old hF (h b y hb)
theorem Up.set {H0 H : Heap} (h : Up H0 H) {b : Nat} (hb : H0.blk b = none) (x : Blk) : Up H0 (H.set b x):=fun c y hc=>by
 rw [Heap.set_other _ _ _ (fun e=>by rw [e,hb] at hc;cases hc)];exact h c y hc
theorem Up.new {H0 H : Heap} (h : Up H0 H) (hF : Free H) : H0.blk H.next = none:=by
 cases hx : H0.blk H.next with
 | none=>rfl
 | some x=>have:=h _ _ hx;rw [hF.at] at this;cases this
theorem Up.fresh {H0 H : Heap} (h : Up H0 H) {b : Nat} (hb : H.blk b = none) : H0.blk b = none:=by
 cases hx : H0.blk b with
 | none=>rfl
 | some x=>have:=h _ _ hx;rw [hb] at this;cases this


def Holds (H : Heap) (esz : Nat) (v : AV) (L : List (List AV)) : Prop:=
  (∀ cs ∈ L,cs.length = esz) ∧
  ((L = [] ∧ (v = .nilslice ∨ v = .eslice)) ∨ v = .lst esz L ∨
   ∃ b off cap ex g ty els gen wgen,v = .slice b off L.length cap ex g ∧ H.blk b = some (.row ty esz els gen wgen) ∧ wgen ≤ g ∧ (els.drop off).take L.length = L ∧ off + L.length ≤ els.length ∧ L.length ≤ cap)

theorem Holds.up {H G : Heap} {esz : Nat} {v : AV} {L : List (List AV)} (h : Holds H esz v L) (hu : Up H G) : Holds G esz v L:=by
 obtain ⟨h0,h | h | ⟨b,off,cap,ex,g,ty,els,gen,wgen,h1,h2,h3⟩⟩:=h
 ·exact ⟨h0,.inl h⟩
 ·exact ⟨h0,.inr (.inl h)⟩
 ·exact ⟨h0,.inr (.inr ⟨b,off,cap,ex,g,ty,els,gen,wgen,h1,hu _ _ h2,h3⟩)⟩

theorem Holds.lst {H : Heap} {esz : Nat} {L : List (List AV)} (h : ∀ cs ∈ L,cs.length = esz) : Holds H esz (.lst esz L) L:=⟨h,.inr (.inl rfl)⟩
theorem Holds.nil {H : Heap} {esz : Nat} : Holds H esz .nilslice []:=⟨by simp,.inl ⟨rfl,.inl rfl⟩⟩

section
variable {P : Program}

theorem Holds.len {H : Heap} {esz : Nat} {v : AV} {L : List (List AV)} (h : Holds H esz v L) {t e : TypeId} (ht : P.underlying t = some (.slice e)) : evBuiltin P H .len #[t] [v] = some (.int .i64 L.length,H):=by
 obtain ⟨h0,⟨rfl,rfl | rfl⟩ | rfl | ⟨b,off,cap,ex,g,ty,els,gen,wgen,rfl,h2,h3⟩⟩:=h <;> simp [evBuiltin,ht]

theorem Holds.len? {H : Heap} {esz : Nat} {v : AV} {L : List (List AV)} (h : Holds H esz v L) : v.len? = some L.length:=by
 obtain ⟨h0,⟨rfl,rfl | rfl⟩ | rfl | ⟨b,off,cap,ex,g,ty,els,gen,wgen,rfl,h2,h3⟩⟩:=h <;> simp [AV.len?]

theorem Holds.elems {H : Heap} {esz : Nat} {v : AV} {L : List (List AV)} (h : Holds H esz v L) : H.elems esz L.length v = some L:=by
 obtain ⟨h0,⟨rfl,rfl | rfl⟩ | rfl | ⟨b,off,cap,ex,g,ty,els,gen,wgen,rfl,h2,h3,h4,_⟩⟩:=h <;> simp_all [Heap.elems]

theorem Holds.index {H : Heap} {esz : Nat} {v : AV} {L : List (List AV)} (h : Holds H esz v L) {t e : TypeId} (ht : P.underlying t = some (.slice e)) (hs : szOf P e = some esz) (k : IntKind) {i : Nat} {cs : List AV} (hi : L[i]? = some cs) :
  ∃ p,evIndexAddr P H t v (.int k i) = some p ∧ (∀ G,Up H G → G.load p esz = some cs) ∧ ∀ b' i' o' g',p = .ptr b' i' o' g' → H.blk b' ≠ none:=by
 obtain ⟨h0,⟨rfl,rfl | rfl⟩ | rfl | ⟨b,off,cap,ex,g,ty,els,gen,wgen,rfl,h2,h3,h4,h5,_⟩⟩:=h
 ·simp at hi
 ·simp at hi
 ·refine ⟨.iptr cs 0,by simp [evIndexAddr,ht,hs,hi],fun G _=>?_,by simp⟩
  have:=h0 cs (List.mem_of_getElem? hi)
  subst this
  simp [Heap.load]
 ·have hlt:=(List.getElem?_eq_some_iff.1 hi).1
  have hg : els[off + i]? = some cs:=by
   rw [← h4,List.getElem?_take_of_lt hlt,List.getElem?_drop] at hi;exact hi
  refine ⟨.ptr b (off + i) 0 g,?_,fun G hG=>?_,fun b' i' o' g' e=>by cases e;rw [h2];simp⟩
  ·simp [evIndexAddr,ht,hs,Heap.eszOf,h2,h3,hlt]
  ·have hl:=h0 cs (List.mem_of_getElem? hi)
   subst hl
   simp [Heap.load,hG _ _ h2,h3,hg]

theorem Holds.part {H : Heap} {esz : Nat} {v : AV} {L : List (List AV)} (h : Holds H esz v L) {t e : TypeId} (ht : P.underlying t = some (.slice e)) (hs : szOf P e = some esz) (lo : Option Int) (hi : Option Int) (a b : Nat) (hlo : lo.getD 0 = a) (hhi : hi.getD L.length = b)
  (hab : a ≤ b) (hb : b ≤ L.length) : ∃ u,evSlice P H t v lo hi none = some u ∧ Holds H esz u ((L.drop a).take (b - a)):=by
 have hz : ∀ cs ∈ (L.drop a).take (b - a),cs.length = esz:=fun cs hc=>h.1 cs (List.mem_of_mem_drop (List.mem_of_mem_take hc))
 obtain ⟨h0,⟨rfl,rfl | rfl⟩ | rfl | ⟨blk,off,cap,ex,g,ty,els,gen,wgen,rfl,h2,h3,h4,h5,h6⟩⟩:=h
 ·have hb0 : b = 0:=by simpa using hb
  subst hb0
  obtain rfl : a = 0:=by omega
  refine ⟨.nilslice,?_,by simpa using Holds.nil⟩
  have hhi' : hi.getD 0 = 0:=by simpa using hhi
  simp [evSlice,ht,hs,hlo,hhi',boundsOk]
 ·have hb0 : b = 0:=by simpa using hb
  subst hb0
  obtain rfl : a = 0:=by omega
  refine ⟨.eslice,?_,⟨by simp,.inl ⟨by simp,.inr rfl⟩⟩⟩
  have hhi' : hi.getD 0 = 0:=by simpa using hhi
  simp [evSlice,ht,hs,hlo,hhi',boundsOk]
 ·refine ⟨.lst esz ((L.drop a).take (b - a)),?_,hz,.inr (.inl rfl)⟩
  have e1 : ((b : Int) - (a : Int)).toNat = b - a:=by omega
  simp only [evSlice,ht,hlo,hhi,hs,boundsOk,e1,Int.toNat_natCast]
  rw [if_pos (by simp;omega)]
 ·have e1 : ((b : Int) - (a : Int)).toNat = b - a:=by omega
  refine ⟨.slice blk (off + a) (b - a) (cap - a) ex g,?_,hz,.inr (.inr ⟨blk,off + a,cap - a,ex,g,ty,els,gen,wgen,?_,h2,h3,?_,?_,?_⟩)⟩
  ·simp only [evSlice,ht,hlo,hhi,hs,boundsOk,e1,Int.toNat_natCast,Heap.eszOf,h2,if_pos h3]
   rw [if_pos (by simp;omega)]
  ·simp;omega
  ·have hle : ((L.drop a).take (b - a)).length = b - a:=by simp;omega
   rw [hle]
   conv=>rhs;rw [← h4]
   rw [List.drop_take,List.take_take,List.drop_drop]
   congr 1
   omega
  ·have hle : ((L.drop a).take (b - a)).length = b - a:=by simp;omega
   rw [hle];omega
  ·have hle : ((L.drop a).take (b - a)).length = b - a:=by simp;omega
   rw [hle];omega


def Own (H0 H : Heap) (ty esz : Nat) (v : AV) (L : List (List AV)) : Prop:=
  (∀ cs ∈ L,cs.length = esz ∧ cs.all AV.isCell = true) ∧
  ((L = [] ∧ (v = .nilslice ∨ v = .eslice)) ∨
   (∃ b g wgen,v = .slice b 0 L.length L.length false g ∧ H.blk b = some (.row ty esz L g wgen) ∧ wgen ≤ g ∧ H0.blk b = none) ∨
   ∃ b g ty' gen wgen,v = .slice b 0 L.length L.length true g ∧ H.blk b = some (.row ty' esz L gen wgen) ∧ (wgen ≤ g ∧ gen = g) ∧ H0.blk b = none)

theorem Own.holds {G H : Heap} {ty esz : Nat} {v : AV} {L : List (List AV)} (h : Own G H ty esz v L) : Holds H esz v L:=by
 obtain ⟨h0,h | ⟨b,g,wgen,h1,h2,h3,h4⟩ | ⟨b,g,ty',gen,wgen,h1,h2,h3,h4⟩⟩:=h
 ·exact ⟨fun cs hc=>(h0 cs hc).1,.inl h⟩
 ·exact ⟨fun cs hc=>(h0 cs hc).1,.inr (.inr ⟨b,0,_,false,g,ty,L,g,wgen,h1,h2,h3,by simp,by simp,Nat.le_refl _⟩)⟩
 ·exact ⟨fun cs hc=>(h0 cs hc).1,.inr (.inr ⟨b,0,_,true,g,ty',L,gen,wgen,h1,h2,h3.1,by simp,by simp,Nat.le_refl _⟩)⟩

theorem Own.nil {G H : Heap} {ty esz : Nat} : Own G H ty esz .nilslice []:=⟨by simp,.inl ⟨rfl,.inl rfl⟩⟩

theorem Own.up {G H K : Heap} {ty esz : Nat} {v : AV} {L : List (List AV)} (h : Own G H ty esz v L) (hu : Up H K) : Own G K ty esz v L:=by
 obtain ⟨h0,h | ⟨b,g,wgen,h1,h2,h3,h4⟩ | ⟨b,g,ty',gen,wgen,h1,h2,h3,h4⟩⟩:=h
 ·exact ⟨h0,.inl h⟩
 ·exact ⟨h0,.inr (.inl ⟨b,g,wgen,h1,hu _ _ h2,h3,h4⟩)⟩
 ·exact ⟨h0,.inr (.inr ⟨b,g,ty',gen,wgen,h1,hu _ _ h2,h3,h4⟩)⟩

theorem Own.append {G H : Heap} {ty esz bytes : Nat} {v : AV} {L : List (List AV)} (h : Own G H ty esz v L) (hF : Free H) (hU : Up G H) {new : List (List AV)} (hnew : ∀ cs ∈ new,cs.length = esz ∧ cs.all AV.isCell = true)
  (hsz : (L.length + new.length) * bytes ≤ maxBytes) (hsz' : L.length + new.length ≤ maxBytes) :
  ∃ u K,H.append ty esz bytes v new = some (u,K) ∧ Own G K ty esz u (L ++ new) ∧ Up G K ∧ Free K ∧ (K.next = H.next ∨ H.blk H.next = none) ∧ (∀ b x,H.blk b = some x → G.blk b ≠ none → K.blk b = some x):=by
 have hcell : new.all (fun cs=>cs.all AV.isCell) = true:=List.all_eq_true.2 fun cs hc=>(hnew cs hc).2
 have hall : ∀ cs ∈ L ++ new,cs.length = esz ∧ cs.all AV.isCell = true:=fun cs hc=>(List.mem_append.1 hc).elim (h.1 cs) (hnew cs)
 have hkeep : ∀ b x,H.blk b = some x → G.blk b ≠ none → H.blk b = some x:=fun b x hb _=>hb
 by_cases hn : new = []
 ·subst hn
  refine ⟨v,H,?_,by simpa using h,hU,hF,.inl rfl,hkeep⟩
  obtain ⟨h0,⟨rfl,rfl | rfl⟩ | ⟨b,g,wgen,rfl,h2,h3,h4⟩ | ⟨b,g,ty',gen,wgen,rfl,h2,h3,h4⟩⟩:=h <;> simp [Heap.append]
 ·have hn0 : new.length ≠ 0:=by simpa using hn
  have hpos : 0 < new.length:=by omega
  obtain ⟨h0,⟨rfl,hv⟩ | ⟨b,g,wgen,rfl,h2,h3,h4⟩ | ⟨b,g,ty',gen,wgen,rfl,h2,h3,h4⟩⟩:=h
  ·have hs1 : new.length * bytes ≤ maxBytes ∧ new.length ≤ maxBytes:=by simp at hsz hsz';exact ⟨hsz,hsz'⟩
   refine ⟨.slice H.next 0 new.length new.length false 0,H.push (.row ty esz new 0 0),?_,⟨by simpa using hall,.inr (.inl ⟨H.next,0,0,by simp,by simpa using push_blk_same _ _,Nat.le_refl _,hU.new hF⟩)⟩,hU.push hF _,hF.push _,.inr hF.at,
    fun b x hb _=>push_blk_old hF hb⟩
   rcases hv with rfl | rfl <;> (simp only [Heap.append,hcell,if_true];rw [if_neg hn0,if_pos hs1])
  ·have hlt:=hF.lt h2
   refine ⟨.slice b 0 (L.length + new.length) (L.length + new.length) false (g + 1),H.set b (.row ty esz (L ++ new) (g + 1) wgen),?_,⟨hall,.inr (.inl ⟨b,g + 1,wgen,by simp,by simp [Heap.set_same],by omega,h4⟩)⟩,hU.set h4 _,hF.set hlt _,.inl rfl,
    fun c x hc hg=>?_⟩
   ·simp only [Heap.append,hcell,if_true]
    rw [if_neg hn0]
    simp only [h2]
    rw [if_pos ⟨h3,trivial,hsz,hsz'⟩,if_neg (by omega)]
    simp
   ·rw [Heap.set_other _ _ _ (fun e=>hg (by rw [e];exact h4))];exact hc
  ·refine ⟨.slice H.next 0 (L.length + new.length) (L.length + new.length) false 0,H.push (.row ty esz (L ++ new) 0 0),?_,⟨hall,.inr (.inl ⟨H.next,0,0,by simp,push_blk_same _ _,Nat.le_refl _,hU.new hF⟩)⟩,hU.push hF _,hF.push _,.inr hF.at,
    fun b x hb _=>push_blk_old hF hb⟩
   simp only [Heap.append,hcell,if_true]
   rw [if_neg hn0]
   simp only [h2]
   rw [if_pos ⟨h3.1,trivial,hsz,hsz'⟩,if_neg (by omega)]
   simp

theorem append1_some {H : Heap} {e : TypeId} {esz bytes : Nat} {s : AV} {new : List (List AV)} {q : AV × Heap} (h : H.append e esz bytes s new = some q) : H.append1 e esz bytes s new = some q:=by
 simp only [Heap.append1,h]

def appB (P : Program) (t u e esz bytes : Nat) : Bool:=
 elemOfSlice P t == some e && (match P.underlying u with | some (.slice _)=>true | _=>false) &&
 (match P.info? e with | some i=>i.size == esz && i.bytes == bytes && decide (0 < esz) && (match i.zero with | some z=>z.cells.size == i.size | none=>false) | none=>false)

theorem append_ev {H : Heap} {t u e esz bytes : Nat} (hb : appB P t u e esz bytes = true) {s x : AV} {new : List (List AV)} {n : Nat} (hn : x.len? = some n) (he : H.elems esz n x = some new) :
  evBuiltin P H .append #[t,u] [s,x] = H.append1 e esz bytes s new:=by
 simp only [appB,Bool.and_eq_true,beq_iff_eq] at hb
 obtain ⟨⟨h1,h2⟩,h3⟩:=hb
 split at h2
 ·rename_i ue hu
  split at h3
  ·rename_i i hi
   simp only [Bool.and_eq_true,beq_iff_eq,decide_eq_true_eq] at h3
   obtain ⟨⟨⟨rfl,rfl⟩,h0⟩,hz⟩:=h3
   split at hz
   ·rename_i z hzz
    simp only [beq_iff_eq] at hz
    simp [evBuiltin,h1,hu,hi,hzz,hn,hz,h0,he]
   ·cases hz
  ·cases h3
 ·cases h2

end
end Go.Ev
