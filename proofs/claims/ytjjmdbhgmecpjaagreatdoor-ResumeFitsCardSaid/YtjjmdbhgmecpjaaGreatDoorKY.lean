import Derived.Test.YtjjmdbhgmecpjaaGreatDoorEvQ
import Derived.Test.YtjjmdbhgmecpjaaGreatDoorK1
set_option linter.unusedVariables false
set_option linter.unusedSimpArgs false
namespace Go.Ev

/-! ### Any order of a drawn region, with footprints that the run itself tells -/

section gen
variable {P : Program}

/-- A run over operations in some order. -/
def RunG (S : Nat → Env → Blks → Env → Blks → Prop) : List Nat → Env → Blks → Env → Blks → Prop
  | [], env, B, env', B' => env' = env ∧ B' = B
  | i :: l, env, B, env', B' => ∃ env1 B1, S i env B env1 B1 ∧ RunG S l env1 B1 env' B'

/-- i may go ahead of j. -/
def Swaps (S : Nat → Env → Blks → Env → Blks → Prop) (j i : Nat) : Prop :=
  ∀ {env : Env} {B : Blks} {env1 : Env} {B1 : Blks} {env2 : Env} {B2 : Blks}, S j env B env1 B1 → S i env1 B1 env2 B2 → ∃ env1' B1', S i env B env1' B1' ∧ S j env1' B1' env2 B2

theorem RunG.moveFront {S : Nat → Env → Blks → Env → Blks → Prop} {i : Nat} {l2 : List Nat} : ∀ {l1 : List Nat}, (∀ j ∈ l1, Swaps S j i) → ∀ {env : Env} {B : Blks} {env' : Env} {B' : Blks},
    RunG S (l1 ++ i :: l2) env B env' B' → RunG S (i :: (l1 ++ l2)) env B env' B'
  | [], _, env, B, env', B', h => h
  | j :: l1, hs, env, B, env', B', h => by
    obtain ⟨env1, B1, hj, h⟩ := h
    obtain ⟨env2, B2, hi, h⟩ := RunG.moveFront (l1 := l1) (fun k hk => hs k (List.mem_cons_of_mem _ hk)) h
    obtain ⟨env1', B1', hi', hj'⟩ := (hs j List.mem_cons_self) hj hi
    exact ⟨_, _, hi', _, _, hj', h⟩

/-- What is asked of two operations of the base order. -/
def PairG (ops : Array Oper) (S : Nat → Env → Blks → Env → Blks → Prop) (j i : Nat) : Prop :=
  i ≠ j ∧ i ∉ preds ops j ∧ (Swaps S j i ∨ beforeB ops ops.size j i = true)

theorem go_runG {S : Nat → Env → Blks → Env → Blks → Prop} {ops : Array Oper} (hps : ∀ i, i < ops.size → ∀ e ∈ preds ops i, e ≠ i ∧ e < ops.size) : ∀ (fuel t : Nat) (listed : Array Bool) (rem : List Nat) {env : Env} {B : Blks} {env' : Env} {B' : Blks},
    listed.size = ops.size → rem.length ≤ fuel → (∀ i, i ∈ rem ↔ i < ops.size ∧ listed.getD i true = false) → rem.Pairwise (PairG ops S) → Closed ops listed → RunG S rem env B env' B' →
    RunG S (Region.linearise.go .any ops fuel t listed []) env B env' B' := by
  intro fuel
  induction fuel with
  | zero =>
    intro t listed rem env B env' B' hsz hlen hmem hpw hcl h
    have : rem = [] := by cases rem with
      | nil => rfl
      | cons a l => simp at hlen
    subst this
    simpa [Region.linearise.go] using h
  | succ fuel ih =>
    intro t listed rem env B env' B' hsz hlen hmem hpw hcl h
    have hget : ∀ i, i < ops.size → (listed.getD i true = false ∨ listed.getD i false = true) := fun i hi => by
      have hi' : i < listed.size := by omega
      simp only [Array.getD_eq_getD_getElem?, Array.getElem?_eq_getElem hi', Option.getD_some]
      cases listed[i] <;> simp
    simp only [Region.linearise.go]
    change RunG S (match (Region.ready .any ops listed)[t % (Region.ready .any ops listed).length]? with
      | some i => Region.linearise.go .any ops fuel (t / (Region.ready .any ops listed).length) (listed.setIfInBounds i true) [i]
      | none => [].reverse) env B env' B'
    cases hi : (Region.ready .any ops listed)[t % (Region.ready .any ops listed).length]? with
    | none =>
      have hnil : Region.ready .any ops listed = [] := by
        cases hr : Region.ready .any ops listed with
        | nil => rfl
        | cons x xs =>
          rw [hr] at hi
          have hlt : t % (x :: xs).length < (x :: xs).length := Nat.mod_lt _ (by simp)
          simp at hi
          simp at hlt
          omega
      have : rem = [] := by
        cases rem with
        | nil => rfl
        | cons a l =>
          exfalso
          obtain ⟨ha1, ha2⟩ := (hmem a).1 List.mem_cons_self
          have : a ∈ Region.ready .any ops listed := by
            rw [ready_iff]
            refine ⟨ha2, ha1, fun e he => ?_⟩
            obtain ⟨hne, hlt⟩ := hps a ha1 e he
            rcases hget e hlt with h1 | h1
            · exfalso
              have hel : e ∈ a :: l := (hmem e).2 ⟨hlt, h1⟩
              rcases List.mem_cons.1 hel with h2 | h2
              · exact hne h2
              · exact ((List.pairwise_cons.1 hpw).1 e h2).2.1 he
            · exact h1
          rw [hnil] at this
          cases this
      subst this
      simpa using h
    | some i =>
      simp only []
      rw [linearise_go_acc, List.reverse_singleton, List.singleton_append]
      have hr := ready_iff.1 (List.mem_of_getElem? hi)
      obtain ⟨r1, r2, r3⟩ := hr
      obtain ⟨l1, l2, e⟩ := List.append_of_mem ((hmem i).2 ⟨r2, r1⟩)
      subst e
      obtain ⟨p1, p2, p3⟩ := List.pairwise_append.1 hpw
      obtain ⟨p4, p5⟩ := List.pairwise_cons.1 p2
      have hsw : ∀ j ∈ l1, Swaps S j i := fun j hj => by
        rcases (p3 j hj i List.mem_cons_self).2.2 with h1 | h1
        · exact h1
        · have hlj := before_listed hcl _ r3 h1
          have := ((hmem j).1 (by simp [hj])).2
          have hjs := ((hmem j).1 (by simp [hj])).1
          have hj' : j < listed.size := by omega
          simp only [Array.getD_eq_getD_getElem?, Array.getElem?_eq_getElem hj', Option.getD_some] at hlj this
          rw [hlj] at this; cases this
      obtain ⟨env1, B1, hst, hrun⟩ := RunG.moveFront hsw h
      have hni : ∀ k, k ∈ l1 ++ l2 → k ≠ i := fun k hk hki => by
        subst hki
        rcases List.mem_append.1 hk with hk | hk
        · exact (p3 k hk k List.mem_cons_self).1 rfl
        · exact (p4 k hk).1 rfl
      refine ⟨env1, B1, hst, ih _ _ (l1 ++ l2) (by simp [hsz]) ?_ (fun k => ?_) ?_ (fun k hk e he => ?_) hrun⟩
      · simp at hlen ⊢; omega
      · by_cases hki : k = i
        · subst hki
          constructor
          · intro hk; exact absurd rfl (hni k hk)
          · rintro ⟨_, hk⟩
            have : k < listed.size := by omega
            simp [this] at hk
        · rw [getD_set_ne _ (Ne.symm hki)]
          rw [← hmem k]
          simp [hki]
      · exact List.pairwise_append.2 ⟨p1, p5, fun a ha b hb => p3 a ha b (List.mem_cons_of_mem _ hb)⟩
      · by_cases hki : k = i
        · subst hki; exact getD_set_true (r3 e he)
        · rw [getD_set_ne _ (Ne.symm hki)] at hk
          exact getD_set_true (hcl k hk e he)

/-! ### Footprints -/

inductive Foot where
  | any
  | none
  | looks (b : Nat)
  | turns (L : List Nat)
  | puts (b : Nat)

variable (P)
def FootOk (ops : Array Oper) : Foot → Oper → Env → Blks → AV → Blks → Prop
  | .any, _, _, _, _, _ => True
  | .none, o, env, B, r, B1 => B1 = B ∧ ∀ G, Did P ops o env G r G
  | .looks b, o, env, B, r, B1 => opKind P o.op = 1 ∧ B1 = B ∧ ∀ G : Blks, (∀ x, B b = some x → G b = some x) → Did P ops o env G r G
  | .turns L, o, env, B, r, B1 => ∀ b x, b ∉ L → B b = some x → B1 b = some x
  | .puts b, o, env, B, r, B1 => opKind P o.op = 3 ∧ ∃ x y, B b = some y ∧ B1 = setB B b x ∧ ∀ G : Blks, G b = some y → Did P ops o env G r (setB G b x)
variable {P}

/-- The second may go ahead of the first. -/
def sepF : Foot → Foot → Bool
  | .none, .any => true
  | .none, .none => true
  | .none, .looks _ => true
  | .none, .turns _ => true
  | .none, .puts _ => true
  | .looks _, .none => true
  | .turns _, .none => true
  | .puts _, .none => true
  | .any, .none => true
  | .looks _, .looks _ => true
  | .looks b, .turns L => !hasN b L
  | .looks b, .puts c => !Nat.beq b c
  | .puts b, .puts c => !Nat.beq b c
  | .puts b, .looks c => !Nat.beq b c
  | _, _ => false

theorem FootOk.congr {ops : Array Oper} {f : Foot} {o : Oper} {env env' : Env} (h : Agree ops o env env') {B : Blks} {r : AV} {B1 : Blks} (hf : FootOk P ops f o env B r B1) : FootOk P ops f o env' B r B1 := by
  cases f with
  | any => trivial
  | none => exact ⟨hf.1, fun G => (hf.2 G).congr h⟩
  | looks b => exact ⟨hf.1, hf.2.1, fun G hG => (hf.2.2 G hG).congr h⟩
  | turns L => exact hf
  | puts b => obtain ⟨hk, x, y, h1, h2, h3⟩ := hf; exact ⟨hk, x, y, h1, h2, fun G hG => (h3 G hG).congr h⟩

theorem neB {a b : Nat} (h : (!Nat.beq a b) = true) : a ≠ b := fun e => by subst e; simp at h

theorem setB_comm {B : Blks} {b c : Nat} {x y : Blk} (h : b ≠ c) : setB (setB B b x) c y = setB (setB B c y) b x := by
  funext i
  simp only [setB]
  by_cases h1 : i = c
  · subst h1; rw [if_pos rfl, if_neg (Ne.symm h), if_pos rfl]
  · rw [if_neg h1]
    by_cases h2 : i = b
    · rw [if_pos h2, if_pos h2]
    · rw [if_neg h2, if_neg h2, if_neg h1]
theorem setB_other {B : Blks} {b c : Nat} {x : Blk} (h : c ≠ b) : setB B b x c = B c := by simp [setB, h]
theorem setB_self {B : Blks} {b : Nat} {x : Blk} : setB B b x b = some x := by simp [setB]

theorem swap_foot {ops : Array Oper} {fi fj : Foot} {oi oj : Oper} {env : Env} {B : Blks} {ri : AV} {B1 : Blks} {rj : AV} {B2 : Blks} (hs : sepF fi fj = true)
    (hi : Did P ops oi env B ri B1) (hui : FootOk P ops fi oi env B ri B1) (hj : Did P ops oj env B1 rj B2) (huj : FootOk P ops fj oj env B1 rj B2) :
    ∃ B1', (Did P ops oj env B rj B1' ∧ FootOk P ops fj oj env B rj B1') ∧ (Did P ops oi env B1' ri B2 ∧ FootOk P ops fi oi env B1' ri B2) := by
  by_cases hn : fi = .none
  · subst hn
    obtain ⟨rfl, hG⟩ := hui
    exact ⟨B2, ⟨hj, huj⟩, hG _, rfl, hG⟩
  by_cases hm : fj = .none
  · subst hm
    obtain ⟨rfl, hG⟩ := huj
    exact ⟨B, ⟨hG _, rfl, hG⟩, hi, hui⟩
  cases fi with
  | none => exact absurd rfl hn
  | any => cases fj <;> simp_all [sepF]
  | turns L => cases fj <;> simp_all [sepF]
  | looks b =>
    obtain ⟨hk, rfl, hG⟩ := hui
    cases fj with
    | none => exact absurd rfl hm
    | any => simp [sepF] at hs
    | looks c =>
      obtain ⟨hk', rfl, hG'⟩ := huj
      exact ⟨_, ⟨hj, hk', rfl, hG'⟩, hi, hk, rfl, hG⟩
    | turns L =>
      simp only [sepF, Bool.not_eq_true', ← Bool.not_eq_true, hasN_iff] at hs
      have hb : ∀ x, B1 b = some x → B2 b = some x := fun x hx => huj b x hs hx
      exact ⟨B2, ⟨hj, huj⟩, hG _ hb, hk, rfl, fun G hg => hG G (fun x hx => hg x (hb x hx))⟩
    | puts c =>
      have hbc := neB hs
      obtain ⟨hk', x, y, h1, h2, h3⟩ := huj
      have hb : B2 b = B1 b := by rw [h2]; exact setB_other hbc
      exact ⟨B2, ⟨hj, hk', x, y, h1, h2, h3⟩, hG _ (fun z hz => by rw [hb]; exact hz), hk, rfl, fun G hg => hG G (fun z hz => hg z (by rw [hb]; exact hz))⟩
  | puts b =>
    obtain ⟨hk, x, y, h1, rfl, h3⟩ := hui
    cases fj with
    | none => exact absurd rfl hm
    | any => simp [sepF] at hs
    | turns L => simp [sepF] at hs
    | looks c =>
      have hbc := neB hs
      obtain ⟨hk', rfl, hG'⟩ := huj
      have hc : setB B b x c = B c := setB_other (Ne.symm hbc)
      refine ⟨B, ⟨hG' _ (fun z hz => by rw [← hc]; exact hz), hk', rfl, fun G hg => hG' G (fun z hz => hg z (by rw [← hc]; exact hz))⟩, hi, hk, x, y, h1, rfl, h3⟩
    | puts c =>
      have hbc := neB hs
      obtain ⟨hk', x', y', h1', rfl, h3'⟩ := huj
      have hc : B c = some y' := by rw [← h1']; exact (setB_other (Ne.symm hbc)).symm
      have hb : setB B c x' b = some y := by rw [setB_other hbc]; exact h1
      refine ⟨setB B c x', ⟨h3' B hc, hk', x', y', hc, rfl, h3'⟩, ?_, hk, x, y, hb, setB_comm hbc, h3⟩
      rw [setB_comm hbc]
      exact h3 _ hb

/-- What needs no footprint. -/
def swap0 (ki kj : Nat) : Bool := Nat.beq ki 0 || Nat.beq kj 0 || Nat.beq kj 2 || (Nat.beq ki 1 && Nat.beq kj 1)

theorem foot_kind0 {ops : Array Oper} {f : Foot} {o : Oper} {env : Env} {B : Blks} {r : AV} (hk : opKind P o.op = 0) (hf : FootOk P ops f o env B r B) (hG : ∀ G, Did P ops o env G r G) (G : Blks) : FootOk P ops f o env G r G := by
  cases f with
  | any => trivial
  | none => exact ⟨rfl, hG⟩
  | looks b => exact absurd (hk.symm.trans hf.1) (by decide)
  | turns L => exact fun _ _ _ h => h
  | puts b => exact absurd (hk.symm.trans hf.1) (by decide)

theorem swap_static {ops : Array Oper} {fi fj : Foot} {oi oj : Oper} {env : Env} {B : Blks} {ri : AV} {B1 : Blks} {rj : AV} {B2 : Blks} (hs : swap0 (opKind P oi.op) (opKind P oj.op) = true)
    (hi : Did P ops oi env B ri B1) (hui : FootOk P ops fi oi env B ri B1) (hj : Did P ops oj env B1 rj B2) (huj : FootOk P ops fj oj env B1 rj B2) :
    ∃ B1', (Did P ops oj env B rj B1' ∧ FootOk P ops fj oj env B rj B1') ∧ (Did P ops oi env B1' ri B2 ∧ FootOk P ops fi oi env B1' ri B2) := by
  simp only [swap0, Bool.or_eq_true, Bool.and_eq_true, Nat.beq_eq] at hs
  rcases hs with ((h | h) | h) | ⟨h, h'⟩
  · obtain ⟨rfl, hG⟩ := hi.kind0 h
    exact ⟨B2, ⟨hj, huj⟩, hG _, foot_kind0 h hui hG _⟩
  · obtain ⟨rfl, hG⟩ := hj.kind0 h
    exact ⟨B, ⟨hG _, foot_kind0 h huj hG _⟩, hi, hui⟩
  · rcases hj.kind2 h with ⟨rfl, hG⟩ | ⟨m, x, hm, rfl, hG⟩
    · refine ⟨B, ⟨hG _, ?_⟩, hi, hui⟩
      cases fj with
      | any => trivial
      | none => exact ⟨rfl, hG⟩
      | looks b => exact absurd (h.symm.trans huj.1) (by decide)
      | turns L => exact fun _ _ _ h => h
      | puts b => exact absurd (h.symm.trans huj.1) (by decide)
    · have hb := hi.dom hm
      refine ⟨setB B m x, ⟨hG _ hb, ?_⟩, hi.frame x hm, ?_⟩
      · cases fj with
        | any => trivial
        | none => have := congrFun huj.1 m; rw [setB_self, hm] at this; cases this
        | looks b => exact absurd (h.symm.trans huj.1) (by decide)
        | turns L => exact fun b y _ hy => upB_new hb b y hy
        | puts b => exact absurd (h.symm.trans huj.1) (by decide)
      · cases fi with
        | any => trivial
        | none => exact ⟨by rw [hui.1], hui.2⟩
        | looks b =>
          obtain ⟨hk, e, hL⟩ := hui
          exact ⟨hk, by rw [e], fun G hg => hL G (fun y hy => hg y (upB_new hb b y hy))⟩
        | turns L =>
          intro b y hL hy
          by_cases hbm : b = m
          · subst hbm; rw [setB_self] at hy ⊢; exact hy
          · rw [setB_other hbm] at hy ⊢; exact hui b y hL hy
        | puts b =>
          obtain ⟨hk, z, y, h1, h2, h3⟩ := hui
          have hbm : b ≠ m := fun e => by subst e; rw [h1] at hb; cases hb
          exact ⟨hk, z, y, by rw [setB_other hbm]; exact h1, by rw [h2]; exact setB_comm hbm, h3⟩
  · obtain ⟨rfl, _⟩ := hi.kind1 h
    obtain ⟨rfl, _⟩ := hj.kind1 h'
    exact ⟨_, ⟨hj, huj⟩, hi, hui⟩

/-- One step of a run, with its footprint. -/
def StF (P : Program) (n : Nat) (ops : Array Oper) (F : Nat → Foot) (i : Nat) (env : Env) (B : Blks) (env1 : Env) (B1 : Blks) : Prop :=
  ∃ o r, ops[i]? = some o ∧ dstOk n o.dst = true ∧ Did P ops o env B r B1 ∧ env1 = env.put o.dst r ∧ FootOk P ops (F i) o env B r B1

/-- May the operation i, now behind j, go ahead of it? Without footprints; with them. -/
def apartB (ops : Array Oper) (j i : Nat) : Bool :=
  match ops[j]?, ops[i]? with
  | some oj, some oi => oj.apart ops oi
  | _, _ => false
def swapS (P : Program) (ops : Array Oper) (j i : Nat) : Bool :=
  match ops[j]?, ops[i]? with
  | some oj, some oi => swap0 (opKind P oj.op) (opKind P oi.op)
  | _, _ => false

theorem StF.swap {n : Nat} {ops : Array Oper} {F : Nat → Foot} {i j : Nat} (hap : apartB ops j i = true) (hs : swapS P ops j i = true ∨ sepF (F j) (F i) = true) : Swaps (StF P n ops F) j i := by
  intro env B env1 B1 env2 B2 h1 h2
  obtain ⟨oj, rj, hoj, hdj, hj, rfl, huj⟩ := h1
  obtain ⟨oi, ri, hoi, hdi, hi, rfl, hui⟩ := h2
  simp only [apartB, hoj, hoi] at hap
  simp only [swapS, hoj, hoi] at hs
  obtain ⟨p1, p2, p3⟩ := Oper.apart_spec hap
  have ha := fun t ht => (agree_put (env := env) (v := rj) p1 t ht).symm
  have hi' : Did P ops oi env B1 ri B2 := hi.congr ha
  have hui' : FootOk P ops (F i) oi env B1 ri B2 := hui.congr ha
  obtain ⟨B1', ⟨q1, q2⟩, q3, q4⟩ := hs.elim (fun hs => swap_static hs hj huj hi' hui') (fun hs => swap_foot hs hj huj hi' hui')
  refine ⟨_, B1', ⟨oi, ri, hoi, hdi, q1, rfl, q2⟩, oj, rj, hoj, hdj, q3.congr (agree_put p3), ?_, q4.congr (agree_put p3)⟩
  exact Env.put_comm env rj ri p2

theorem RunG.evS {n : Nat} {ops : Array Oper} {F : Nat → Foot} : ∀ {l : List Nat} {env : Env} {B : Blks} {env' : Env} {B' : Blks}, RunG (StF P n ops F) l env B env' B' → ∀ m m', EvS P n ops l env ⟨B, m⟩ env' ⟨B', m'⟩
  | [], env, B, env', B', h, m, m' => by
    obtain ⟨rfl, rfl⟩ := h
    exact .hint _ _ _ m' _ _ _ _ (.nil _ _ _ _)
  | i :: l, env, B, env', B', h, m, m' => by
    obtain ⟨env1, B1, ⟨o, r, ho, hd, hdid, rfl, _⟩, h⟩ := h
    cases hdid with
    | skip hw => exact .skip _ _ _ _ o _ _ _ _ ho hw hd (RunG.evS h m m')
    | op k r H1 hw hfree he =>
      refine .hint _ _ _ k _ _ _ _ (.op _ _ _ _ o _ _ r H1 _ _ ho hw hd hfree he ?_)
      exact RunG.evS h H1.next m'
    | call k f args ts g first cap r H1 hw hop hf hc =>
      refine .hint _ _ _ k _ _ _ _ (.call _ _ _ _ o f args ts g first cap _ _ r H1 _ _ ho hw hd hop hf hc ?_)
      exact RunG.evS h H1.next m'

/-- A pair of numbers in a list. -/
def hasP (j i : Nat) (l : List (Nat × Nat)) : Bool := l.any fun p => Nat.beq p.1 j && Nat.beq p.2 i

/-- The base order serves, where the footprints of prs are apart. -/
def okPairS (P : Program) (ops : Array Oper) (prs : List (Nat × Nat)) (j i : Nat) : Bool :=
  !Nat.beq i j && !hasN i (preds ops j) && (beforeB ops ops.size j i || (apartB ops j i && (swapS P ops j i || hasP j i prs)))
def drawOkS (P : Program) (ops : Array Oper) (prs : List (Nat × Nat)) (base : List Nat) : Bool :=
  (List.range ops.size).all (fun i => hasN i base && (preds ops i).all fun e => !Nat.beq e i && Nat.blt e ops.size) && base.all (fun i => Nat.blt i ops.size) && Nat.ble base.length ops.size && pairwiseB (okPairS P ops prs) base

theorem bltN (a b : Nat) : Nat.blt a b = decide (a < b) := by
  unfold Nat.blt
  rw [show Nat.ble (a.succ) b = decide (a + 1 ≤ b) from bleN _ _]
  rfl

theorem draw_of_runG {n : Nat} {ops : Array Oper} {F : Nat → Foot} {prs : List (Nat × Nat)} {base : List Nat} (hok : drawOkS P ops prs base = true) (hsep : ∀ j i, hasP j i prs = true → sepF (F j) (F i) = true)
    {env : Env} {H : Heap} {env' : Env} {H' : Heap} (h : RunG (StF P n ops F) base env H.blk env' H'.blk) (t : Nat) :
    EvS P n ops (Region.linearise .any ops t) env H env' H' := by
  simp only [drawOkS, Bool.and_eq_true, List.all_eq_true, List.mem_range, hasN_iff, Bool.not_eq_true', beqN, bleN, bltN, decide_eq_true_eq, decide_eq_false_iff_not] at hok
  obtain ⟨⟨⟨h1, h2⟩, hlen⟩, h3⟩ := hok
  have hpw : base.Pairwise (PairG ops (StF P n ops F)) := (pairwiseB_spec h3).imp fun {j i} hp => by
    simp only [okPairS, Bool.and_eq_true, Bool.or_eq_true, Bool.not_eq_true', beqN, decide_eq_false_iff_not] at hp
    refine ⟨hp.1.1, fun hm => ?_, ?_⟩
    · have := hasN_iff.2 hm; rw [hp.1.2] at this; cases this
    · rcases hp.2 with q | ⟨q1, q2⟩
      · exact .inr q
      · exact .inl (StF.swap q1 (q2.imp id (hsep j i)))
  refine RunG.evS (go_runG (fun i hi e he => (h1 i hi).2 e he) ops.size t _ base (by simp) hlen (fun i => ?_) hpw ?_ h) H.next H'.next
  · constructor
    · intro hi; exact ⟨h2 i hi, by simp [h2 i hi]⟩
    · rintro ⟨hi, _⟩; exact (h1 i hi).1
  · intro k hk
    exfalso
    by_cases hlt : k < ops.size
    · simp [hlt] at hk
    · simp [hlt] at hk
end gen
end Go.Ev
