import Derived.Test.YtjlmgabhhodhfaaGreatDoorK1K3
set_option linter.unusedVariables false
set_option linter.unusedSimpArgs false
namespace Go.Ev


inductive Q4 where
 | no
 | ok (r : AV) (K : KH)
theorem noOk {r : AV} {K : KH} {X : Prop} (h : Q4.no = .ok r K) : X:=nomatch h
noncomputable def onBool : AV → (Bool → Q4) → Q4 → Q4:=@AV.rec (fun _=>(Bool → Q4) → Q4 → Q4) (fun _=>Unit) (fun _=>Unit) (fun _ n=>n) (fun x0 k0 _=>k0 x0) (fun _ _ _ n=>n) (fun _ _ n=>n) (fun _ n=>n) (fun _ _ _ _ _ n=>n) (fun _ _ _ _ n=>n) (fun _ n=>n) (fun _ n=>n) (fun _ _ _ _ _ _ _ n=>n) (fun _ _ _ _ n=>n) (fun _ _ _ n=>n) (fun _ _ _ n=>n) (fun _ n=>n) (fun _ _ _ _ n=>n) (fun _ n=>n) (fun _ _ _ _ _ _ n=>n) (fun _ n=>n) (fun _ _ n=>n) ()  (fun _ _ _ _=>()) () (fun _ _ _ _=>())
theorem onBool_ok {a : AV} {k0 : Bool → Q4} {n : Q4} {r : AV} {K : KH} (h : onBool a k0 n = .ok r K) : (∃ x0,a = AV.bool x0 ∧ k0 x0 = .ok r K) ∨ n = .ok r K:=by
 cases a with
 | undef  => exact .inr h
 | bool _=>exact .inl ⟨_,rfl,h⟩
 | int _ _=>exact .inr h
 | str _=>exact .inr h
 | nilptr  => exact .inr h
 | ptr _ _ _ _=>exact .inr h
 | iptr _ _=>exact .inr h
 | nilslice  => exact .inr h
 | eslice  => exact .inr h
 | slice _ _ _ _ _ _=>exact .inr h
 | lst _ _=>exact .inr h
 | agg _=>exact .inr h
 | tuple _=>exact .inr h
 | nilIface  => exact .inr h
 | iface _ _=>exact .inr h
 | nilFunc  => exact .inr h
 | func _ _ _=>exact .inr h
 | nilMap  => exact .inr h
 | map _=>exact .inr h
theorem onBool_no {a : AV} {k0 : Bool → Q4} {r : AV} {K : KH} (h : onBool a k0 .no = .ok r K) : (∃ x0,a = AV.bool x0 ∧ k0 x0 = .ok r K):=by
 rcases onBool_ok h with h | h
 ·exact h
 ·cases h
noncomputable def onInt : AV → (IntKind → Int → Q4) → Q4 → Q4:=@AV.rec (fun _=>(IntKind → Int → Q4) → Q4 → Q4) (fun _=>Unit) (fun _=>Unit) (fun _ n=>n) (fun _ _ n=>n) (fun x0 x1 k0 _=>k0 x0 x1) (fun _ _ n=>n) (fun _ n=>n) (fun _ _ _ _ _ n=>n) (fun _ _ _ _ n=>n) (fun _ n=>n) (fun _ n=>n) (fun _ _ _ _ _ _ _ n=>n) (fun _ _ _ _ n=>n) (fun _ _ _ n=>n) (fun _ _ _ n=>n) (fun _ n=>n) (fun _ _ _ _ n=>n) (fun _ n=>n) (fun _ _ _ _ _ _ n=>n) (fun _ n=>n) (fun _ _ n=>n) ()  (fun _ _ _ _=>()) () (fun _ _ _ _=>())
theorem onInt_ok {a : AV} {k0 : IntKind → Int → Q4} {n : Q4} {r : AV} {K : KH} (h : onInt a k0 n = .ok r K) : (∃ x0 x1,a = AV.int x0 x1 ∧ k0 x0 x1 = .ok r K) ∨ n = .ok r K:=by
 cases a with
 | undef  => exact .inr h
 | bool _=>exact .inr h
 | int _ _=>exact .inl ⟨_,_,rfl,h⟩
 | str _=>exact .inr h
 | nilptr  => exact .inr h
 | ptr _ _ _ _=>exact .inr h
 | iptr _ _=>exact .inr h
 | nilslice  => exact .inr h
 | eslice  => exact .inr h
 | slice _ _ _ _ _ _=>exact .inr h
 | lst _ _=>exact .inr h
 | agg _=>exact .inr h
 | tuple _=>exact .inr h
 | nilIface  => exact .inr h
 | iface _ _=>exact .inr h
 | nilFunc  => exact .inr h
 | func _ _ _=>exact .inr h
 | nilMap  => exact .inr h
 | map _=>exact .inr h
theorem onInt_no {a : AV} {k0 : IntKind → Int → Q4} {r : AV} {K : KH} (h : onInt a k0 .no = .ok r K) : (∃ x0 x1,a = AV.int x0 x1 ∧ k0 x0 x1 = .ok r K):=by
 rcases onInt_ok h with h | h
 ·exact h
 ·cases h
noncomputable def onStr : AV → ((List Nat) → Q4) → Q4 → Q4:=@AV.rec (fun _=>((List Nat) → Q4) → Q4 → Q4) (fun _=>Unit) (fun _=>Unit) (fun _ n=>n) (fun _ _ n=>n) (fun _ _ _ n=>n) (fun x0 k0 _=>k0 x0) (fun _ n=>n) (fun _ _ _ _ _ n=>n) (fun _ _ _ _ n=>n) (fun _ n=>n) (fun _ n=>n) (fun _ _ _ _ _ _ _ n=>n) (fun _ _ _ _ n=>n) (fun _ _ _ n=>n) (fun _ _ _ n=>n) (fun _ n=>n) (fun _ _ _ _ n=>n) (fun _ n=>n) (fun _ _ _ _ _ _ n=>n) (fun _ n=>n) (fun _ _ n=>n) ()  (fun _ _ _ _=>()) () (fun _ _ _ _=>())
theorem onStr_ok {a : AV} {k0 : (List Nat) → Q4} {n : Q4} {r : AV} {K : KH} (h : onStr a k0 n = .ok r K) : (∃ x0,a = AV.str x0 ∧ k0 x0 = .ok r K) ∨ n = .ok r K:=by
 cases a with
 | undef  => exact .inr h
 | bool _=>exact .inr h
 | int _ _=>exact .inr h
 | str _=>exact .inl ⟨_,rfl,h⟩
 | nilptr  => exact .inr h
 | ptr _ _ _ _=>exact .inr h
 | iptr _ _=>exact .inr h
 | nilslice  => exact .inr h
 | eslice  => exact .inr h
 | slice _ _ _ _ _ _=>exact .inr h
 | lst _ _=>exact .inr h
 | agg _=>exact .inr h
 | tuple _=>exact .inr h
 | nilIface  => exact .inr h
 | iface _ _=>exact .inr h
 | nilFunc  => exact .inr h
 | func _ _ _=>exact .inr h
 | nilMap  => exact .inr h
 | map _=>exact .inr h
theorem onStr_no {a : AV} {k0 : (List Nat) → Q4} {r : AV} {K : KH} (h : onStr a k0 .no = .ok r K) : (∃ x0,a = AV.str x0 ∧ k0 x0 = .ok r K):=by
 rcases onStr_ok h with h | h
 ·exact h
 ·cases h
noncomputable def onAddr : AV → (Nat → Nat → Nat → Nat → Q4) → ((List AV) → Nat → Q4) → Q4 → Q4:=@AV.rec (fun _=>(Nat → Nat → Nat → Nat → Q4) → ((List AV) → Nat → Q4) → Q4 → Q4) (fun _=>Unit) (fun _=>Unit) (fun _ _ n=>n) (fun _ _ _ n=>n) (fun _ _ _ _ n=>n) (fun _ _ _ n=>n) (fun _ _ n=>n) (fun x0 x1 x2 x3 k0 _ _=>k0 x0 x1 x2 x3) (fun x0 x1 _ _ k1 _=>k1 x0 x1) (fun _ _ n=>n) (fun _ _ n=>n) (fun _ _ _ _ _ _ _ _ n=>n) (fun _ _ _ _ _ n=>n) (fun _ _ _ _ n=>n) (fun _ _ _ _ n=>n) (fun _ _ n=>n) (fun _ _ _ _ _ n=>n) (fun _ _ n=>n) (fun _ _ _ _ _ _ _ n=>n) (fun _ _ n=>n) (fun _ _ _ n=>n) ()  (fun _ _ _ _=>()) () (fun _ _ _ _=>())
theorem onAddr_ok {a : AV} {k0 : Nat → Nat → Nat → Nat → Q4} {k1 : (List AV) → Nat → Q4} {n : Q4} {r : AV} {K : KH} (h : onAddr a k0 k1 n = .ok r K) : (∃ x0 x1 x2 x3,a = AV.ptr x0 x1 x2 x3 ∧ k0 x0 x1 x2 x3 = .ok r K) ∨ (∃ x0 x1,a = AV.iptr x0 x1 ∧ k1 x0 x1 = .ok r K) ∨ n = .ok r K:=by
 cases a with
 | undef  => exact .inr (.inr h)
 | bool _=>exact .inr (.inr h)
 | int _ _=>exact .inr (.inr h)
 | str _=>exact .inr (.inr h)
 | nilptr  => exact .inr (.inr h)
 | ptr _ _ _ _=>exact .inl ⟨_,_,_,_,rfl,h⟩
 | iptr _ _=>exact .inr (.inl ⟨_,_,rfl,h⟩)
 | nilslice  => exact .inr (.inr h)
 | eslice  => exact .inr (.inr h)
 | slice _ _ _ _ _ _=>exact .inr (.inr h)
 | lst _ _=>exact .inr (.inr h)
 | agg _=>exact .inr (.inr h)
 | tuple _=>exact .inr (.inr h)
 | nilIface  => exact .inr (.inr h)
 | iface _ _=>exact .inr (.inr h)
 | nilFunc  => exact .inr (.inr h)
 | func _ _ _=>exact .inr (.inr h)
 | nilMap  => exact .inr (.inr h)
 | map _=>exact .inr (.inr h)
theorem onAddr_no {a : AV} {k0 : Nat → Nat → Nat → Nat → Q4} {k1 : (List AV) → Nat → Q4} {r : AV} {K : KH} (h : onAddr a k0 k1 .no = .ok r K) : (∃ x0 x1 x2 x3,a = AV.ptr x0 x1 x2 x3 ∧ k0 x0 x1 x2 x3 = .ok r K) ∨ (∃ x0 x1,a = AV.iptr x0 x1 ∧ k1 x0 x1 = .ok r K):=by
 rcases onAddr_ok h with h | h | h
 ·exact .inl h
 ·exact .inr h
 ·cases h
noncomputable def onPtr : AV → (Nat → Nat → Nat → Nat → Q4) → Q4 → Q4:=@AV.rec (fun _=>(Nat → Nat → Nat → Nat → Q4) → Q4 → Q4) (fun _=>Unit) (fun _=>Unit) (fun _ n=>n) (fun _ _ n=>n) (fun _ _ _ n=>n) (fun _ _ n=>n) (fun _ n=>n) (fun x0 x1 x2 x3 k0 _=>k0 x0 x1 x2 x3) (fun _ _ _ _ n=>n) (fun _ n=>n) (fun _ n=>n) (fun _ _ _ _ _ _ _ n=>n) (fun _ _ _ _ n=>n) (fun _ _ _ n=>n) (fun _ _ _ n=>n) (fun _ n=>n) (fun _ _ _ _ n=>n) (fun _ n=>n) (fun _ _ _ _ _ _ n=>n) (fun _ n=>n) (fun _ _ n=>n) ()  (fun _ _ _ _=>()) () (fun _ _ _ _=>())
theorem onPtr_ok {a : AV} {k0 : Nat → Nat → Nat → Nat → Q4} {n : Q4} {r : AV} {K : KH} (h : onPtr a k0 n = .ok r K) : (∃ x0 x1 x2 x3,a = AV.ptr x0 x1 x2 x3 ∧ k0 x0 x1 x2 x3 = .ok r K) ∨ n = .ok r K:=by
 cases a with
 | undef  => exact .inr h
 | bool _=>exact .inr h
 | int _ _=>exact .inr h
 | str _=>exact .inr h
 | nilptr  => exact .inr h
 | ptr _ _ _ _=>exact .inl ⟨_,_,_,_,rfl,h⟩
 | iptr _ _=>exact .inr h
 | nilslice  => exact .inr h
 | eslice  => exact .inr h
 | slice _ _ _ _ _ _=>exact .inr h
 | lst _ _=>exact .inr h
 | agg _=>exact .inr h
 | tuple _=>exact .inr h
 | nilIface  => exact .inr h
 | iface _ _=>exact .inr h
 | nilFunc  => exact .inr h
 | func _ _ _=>exact .inr h
 | nilMap  => exact .inr h
 | map _=>exact .inr h
theorem onPtr_no {a : AV} {k0 : Nat → Nat → Nat → Nat → Q4} {r : AV} {K : KH} (h : onPtr a k0 .no = .ok r K) : (∃ x0 x1 x2 x3,a = AV.ptr x0 x1 x2 x3 ∧ k0 x0 x1 x2 x3 = .ok r K):=by
 rcases onPtr_ok h with h | h
 ·exact h
 ·cases h
noncomputable def onSl : AV → (Nat → Nat → Nat → Nat → Bool → Nat → Q4) → Q4 → Q4 → Q4:=@AV.rec (fun _=>(Nat → Nat → Nat → Nat → Bool → Nat → Q4) → Q4 → Q4 → Q4) (fun _=>Unit) (fun _=>Unit) (fun _ _ n=>n) (fun _ _ _ n=>n) (fun _ _ _ _ n=>n) (fun _ _ _ n=>n) (fun _ _ n=>n) (fun _ _ _ _ _ _ n=>n) (fun _ _ _ _ _ n=>n) (fun _ k1 _=>k1) (fun _ _ n=>n) (fun x0 x1 x2 x3 x4 x5 k0 _ _=>k0 x0 x1 x2 x3 x4 x5) (fun _ _ _ _ _ n=>n) (fun _ _ _ _ n=>n) (fun _ _ _ _ n=>n) (fun _ _ n=>n) (fun _ _ _ _ _ n=>n) (fun _ _ n=>n) (fun _ _ _ _ _ _ _ n=>n) (fun _ _ n=>n) (fun _ _ _ n=>n) ()  (fun _ _ _ _=>()) () (fun _ _ _ _=>())
theorem onSl_ok {a : AV} {k0 : Nat → Nat → Nat → Nat → Bool → Nat → Q4} {k1 : Q4} {n : Q4} {r : AV} {K : KH} (h : onSl a k0 k1 n = .ok r K) : (∃ x0 x1 x2 x3 x4 x5,a = AV.slice x0 x1 x2 x3 x4 x5 ∧ k0 x0 x1 x2 x3 x4 x5 = .ok r K) ∨ (a = AV.nilslice  ∧ k1 = .ok r K) ∨ n = .ok r K:=by
 cases a with
 | undef  => exact .inr (.inr h)
 | bool _=>exact .inr (.inr h)
 | int _ _=>exact .inr (.inr h)
 | str _=>exact .inr (.inr h)
 | nilptr  => exact .inr (.inr h)
 | ptr _ _ _ _=>exact .inr (.inr h)
 | iptr _ _=>exact .inr (.inr h)
 | nilslice  => exact .inr (.inl ⟨rfl,h⟩)
 | eslice  => exact .inr (.inr h)
 | slice _ _ _ _ _ _=>exact .inl ⟨_,_,_,_,_,_,rfl,h⟩
 | lst _ _=>exact .inr (.inr h)
 | agg _=>exact .inr (.inr h)
 | tuple _=>exact .inr (.inr h)
 | nilIface  => exact .inr (.inr h)
 | iface _ _=>exact .inr (.inr h)
 | nilFunc  => exact .inr (.inr h)
 | func _ _ _=>exact .inr (.inr h)
 | nilMap  => exact .inr (.inr h)
 | map _=>exact .inr (.inr h)
theorem onSl_no {a : AV} {k0 : Nat → Nat → Nat → Nat → Bool → Nat → Q4} {k1 : Q4} {r : AV} {K : KH} (h : onSl a k0 k1 .no = .ok r K) : (∃ x0 x1 x2 x3 x4 x5,a = AV.slice x0 x1 x2 x3 x4 x5 ∧ k0 x0 x1 x2 x3 x4 x5 = .ok r K) ∨ (a = AV.nilslice  ∧ k1 = .ok r K):=by
 rcases onSl_ok h with h | h | h
 ·exact .inl h
 ·exact .inr h
 ·cases h
noncomputable def onAgg : AV → ((List AV) → Q4) → Q4 → Q4:=@AV.rec (fun _=>((List AV) → Q4) → Q4 → Q4) (fun _=>Unit) (fun _=>Unit) (fun _ n=>n) (fun _ _ n=>n) (fun _ _ _ n=>n) (fun _ _ n=>n) (fun _ n=>n) (fun _ _ _ _ _ n=>n) (fun _ _ _ _ n=>n) (fun _ n=>n) (fun _ n=>n) (fun _ _ _ _ _ _ _ n=>n) (fun _ _ _ _ n=>n) (fun x0 _ k0 _=>k0 x0) (fun _ _ _ n=>n) (fun _ n=>n) (fun _ _ _ _ n=>n) (fun _ n=>n) (fun _ _ _ _ _ _ n=>n) (fun _ n=>n) (fun _ _ n=>n) ()  (fun _ _ _ _=>()) () (fun _ _ _ _=>())
theorem onAgg_ok {a : AV} {k0 : (List AV) → Q4} {n : Q4} {r : AV} {K : KH} (h : onAgg a k0 n = .ok r K) : (∃ x0,a = AV.agg x0 ∧ k0 x0 = .ok r K) ∨ n = .ok r K:=by
 cases a with
 | undef  => exact .inr h
 | bool _=>exact .inr h
 | int _ _=>exact .inr h
 | str _=>exact .inr h
 | nilptr  => exact .inr h
 | ptr _ _ _ _=>exact .inr h
 | iptr _ _=>exact .inr h
 | nilslice  => exact .inr h
 | eslice  => exact .inr h
 | slice _ _ _ _ _ _=>exact .inr h
 | lst _ _=>exact .inr h
 | agg _=>exact .inl ⟨_,rfl,h⟩
 | tuple _=>exact .inr h
 | nilIface  => exact .inr h
 | iface _ _=>exact .inr h
 | nilFunc  => exact .inr h
 | func _ _ _=>exact .inr h
 | nilMap  => exact .inr h
 | map _=>exact .inr h
theorem onAgg_no {a : AV} {k0 : (List AV) → Q4} {r : AV} {K : KH} (h : onAgg a k0 .no = .ok r K) : (∃ x0,a = AV.agg x0 ∧ k0 x0 = .ok r K):=by
 rcases onAgg_ok h with h | h
 ·exact h
 ·cases h
noncomputable def onTup : AV → ((List AV) → Q4) → Q4 → Q4:=@AV.rec (fun _=>((List AV) → Q4) → Q4 → Q4) (fun _=>Unit) (fun _=>Unit) (fun _ n=>n) (fun _ _ n=>n) (fun _ _ _ n=>n) (fun _ _ n=>n) (fun _ n=>n) (fun _ _ _ _ _ n=>n) (fun _ _ _ _ n=>n) (fun _ n=>n) (fun _ n=>n) (fun _ _ _ _ _ _ _ n=>n) (fun _ _ _ _ n=>n) (fun _ _ _ n=>n) (fun x0 _ k0 _=>k0 x0) (fun _ n=>n) (fun _ _ _ _ n=>n) (fun _ n=>n) (fun _ _ _ _ _ _ n=>n) (fun _ n=>n) (fun _ _ n=>n) ()  (fun _ _ _ _=>()) () (fun _ _ _ _=>())
theorem onTup_ok {a : AV} {k0 : (List AV) → Q4} {n : Q4} {r : AV} {K : KH} (h : onTup a k0 n = .ok r K) : (∃ x0,a = AV.tuple x0 ∧ k0 x0 = .ok r K) ∨ n = .ok r K:=by
 cases a with
 | undef  => exact .inr h
 | bool _=>exact .inr h
 | int _ _=>exact .inr h
 | str _=>exact .inr h
 | nilptr  => exact .inr h
 | ptr _ _ _ _=>exact .inr h
 | iptr _ _=>exact .inr h
 | nilslice  => exact .inr h
 | eslice  => exact .inr h
 | slice _ _ _ _ _ _=>exact .inr h
 | lst _ _=>exact .inr h
 | agg _=>exact .inr h
 | tuple _=>exact .inl ⟨_,rfl,h⟩
 | nilIface  => exact .inr h
 | iface _ _=>exact .inr h
 | nilFunc  => exact .inr h
 | func _ _ _=>exact .inr h
 | nilMap  => exact .inr h
 | map _=>exact .inr h
theorem onTup_no {a : AV} {k0 : (List AV) → Q4} {r : AV} {K : KH} (h : onTup a k0 .no = .ok r K) : (∃ x0,a = AV.tuple x0 ∧ k0 x0 = .ok r K):=by
 rcases onTup_ok h with h | h
 ·exact h
 ·cases h
noncomputable def onFunc : AV → (Fn → (List AV) → (List AV) → Q4) → Q4 → Q4:=@AV.rec (fun _=>(Fn → (List AV) → (List AV) → Q4) → Q4 → Q4) (fun _=>Unit) (fun _=>Unit) (fun _ n=>n) (fun _ _ n=>n) (fun _ _ _ n=>n) (fun _ _ n=>n) (fun _ n=>n) (fun _ _ _ _ _ n=>n) (fun _ _ _ _ n=>n) (fun _ n=>n) (fun _ n=>n) (fun _ _ _ _ _ _ _ n=>n) (fun _ _ _ _ n=>n) (fun _ _ _ n=>n) (fun _ _ _ n=>n) (fun _ n=>n) (fun _ _ _ _ n=>n) (fun _ n=>n) (fun x0 x1 x2 _ _ k0 _=>k0 x0 x1 x2) (fun _ n=>n) (fun _ _ n=>n) ()  (fun _ _ _ _=>()) () (fun _ _ _ _=>())
theorem onFunc_ok {a : AV} {k0 : Fn → (List AV) → (List AV) → Q4} {n : Q4} {r : AV} {K : KH} (h : onFunc a k0 n = .ok r K) : (∃ x0 x1 x2,a = AV.func x0 x1 x2 ∧ k0 x0 x1 x2 = .ok r K) ∨ n = .ok r K:=by
 cases a with
 | undef  => exact .inr h
 | bool _=>exact .inr h
 | int _ _=>exact .inr h
 | str _=>exact .inr h
 | nilptr  => exact .inr h
 | ptr _ _ _ _=>exact .inr h
 | iptr _ _=>exact .inr h
 | nilslice  => exact .inr h
 | eslice  => exact .inr h
 | slice _ _ _ _ _ _=>exact .inr h
 | lst _ _=>exact .inr h
 | agg _=>exact .inr h
 | tuple _=>exact .inr h
 | nilIface  => exact .inr h
 | iface _ _=>exact .inr h
 | nilFunc  => exact .inr h
 | func _ _ _=>exact .inl ⟨_,_,_,rfl,h⟩
 | nilMap  => exact .inr h
 | map _=>exact .inr h
theorem onFunc_no {a : AV} {k0 : Fn → (List AV) → (List AV) → Q4} {r : AV} {K : KH} (h : onFunc a k0 .no = .ok r K) : (∃ x0 x1 x2,a = AV.func x0 x1 x2 ∧ k0 x0 x1 x2 = .ok r K):=by
 rcases onFunc_ok h with h | h
 ·exact h
 ·cases h
noncomputable def onBT : AV → (Bool → Q4) → ((List AV) → Q4) → Q4 → Q4:=@AV.rec (fun _=>(Bool → Q4) → ((List AV) → Q4) → Q4 → Q4) (fun _=>Unit) (fun _=>Unit) (fun _ _ n=>n) (fun x0 k0 _ _=>k0 x0) (fun _ _ _ _ n=>n) (fun _ _ _ n=>n) (fun _ _ n=>n) (fun _ _ _ _ _ _ n=>n) (fun _ _ _ _ _ n=>n) (fun _ _ n=>n) (fun _ _ n=>n) (fun _ _ _ _ _ _ _ _ n=>n) (fun _ _ _ _ _ n=>n) (fun _ _ _ _ n=>n) (fun x0 _ _ k1 _=>k1 x0) (fun _ _ n=>n) (fun _ _ _ _ _ n=>n) (fun _ _ n=>n) (fun _ _ _ _ _ _ _ n=>n) (fun _ _ n=>n) (fun _ _ _ n=>n) ()  (fun _ _ _ _=>()) () (fun _ _ _ _=>())
theorem onBT_ok {a : AV} {k0 : Bool → Q4} {k1 : (List AV) → Q4} {n : Q4} {r : AV} {K : KH} (h : onBT a k0 k1 n = .ok r K) : (∃ x0,a = AV.bool x0 ∧ k0 x0 = .ok r K) ∨ (∃ x0,a = AV.tuple x0 ∧ k1 x0 = .ok r K) ∨ n = .ok r K:=by
 cases a with
 | undef  => exact .inr (.inr h)
 | bool _=>exact .inl ⟨_,rfl,h⟩
 | int _ _=>exact .inr (.inr h)
 | str _=>exact .inr (.inr h)
 | nilptr  => exact .inr (.inr h)
 | ptr _ _ _ _=>exact .inr (.inr h)
 | iptr _ _=>exact .inr (.inr h)
 | nilslice  => exact .inr (.inr h)
 | eslice  => exact .inr (.inr h)
 | slice _ _ _ _ _ _=>exact .inr (.inr h)
 | lst _ _=>exact .inr (.inr h)
 | agg _=>exact .inr (.inr h)
 | tuple _=>exact .inr (.inl ⟨_,rfl,h⟩)
 | nilIface  => exact .inr (.inr h)
 | iface _ _=>exact .inr (.inr h)
 | nilFunc  => exact .inr (.inr h)
 | func _ _ _=>exact .inr (.inr h)
 | nilMap  => exact .inr (.inr h)
 | map _=>exact .inr (.inr h)
theorem onBT_no {a : AV} {k0 : Bool → Q4} {k1 : (List AV) → Q4} {r : AV} {K : KH} (h : onBT a k0 k1 .no = .ok r K) : (∃ x0,a = AV.bool x0 ∧ k0 x0 = .ok r K) ∨ (∃ x0,a = AV.tuple x0 ∧ k1 x0 = .ok r K):=by
 rcases onBT_ok h with h | h | h
 ·exact .inl h
 ·exact .inr h
 ·cases h

noncomputable def oElim {α β : Type} (n : β) (s : α → β) : Option α → β:=@Option.rec α (fun _=>β) n s
theorem oElim_no {α : Type} {o : Option α} {f : α → Q4} {r : AV} {K : KH} (h : oElim .no f o = .ok r K) : ∃ x,o = some x ∧ f x = .ok r K:=by
 cases o with
 | none=>exact noOk h
 | some x=>exact ⟨x,rfl,h⟩
theorem bqQ {c : Bool} {x n : Q4} {r : AV} {K : KH} (h : @Bool.rec (fun _=>Q4) n x c = .ok r K) : (c = true ∧ x = .ok r K) ∨ (c = false ∧ n = .ok r K):=by
 cases c with
 | true=>exact .inl ⟨rfl,h⟩
 | false=>exact .inr ⟨rfl,h⟩
theorem bqN {c : Bool} {x : Q4} {r : AV} {K : KH} (h : @Bool.rec (fun _=>Q4) .no x c = .ok r K) : c = true ∧ x = .ok r K:=by
 cases c with
 | true=>exact ⟨rfl,h⟩
 | false=>exact noOk h

inductive Pa where
 | e
 | l (p : Pa)
 | r (p : Pa)
noncomputable def pathF : Nat → Nat → Pa:=@Nat.rec (fun _=>Nat → Pa) (fun _=>.e) (fun _ ih n=>(@Bool.rec (fun _=>_) ((@Bool.rec (fun _=>_) (.r (ih (Nat.sub (Nat.div n 2) 1))) (.l (ih (Nat.div n 2))) (Nat.beq (Nat.mod n 2) 1))) (.e) (Nat.beq n 0)))
noncomputable def pathOf (n : Nat) : Pa:=pathF (Nat.succ n) n
noncomputable def gE {α : Type} : Tr α → Option α:=@Tr.rec α (fun _=>Option α) Option.none (fun _ v _ _ _=>v)
noncomputable def gL {α : Type} (_ : Pa) (ih : Tr α → Option α) : Tr α → Option α:=@Tr.rec α (fun _=>Option α) Option.none (fun l _ _ _ _=>ih l)
noncomputable def gR {α : Type} (_ : Pa) (ih : Tr α → Option α) : Tr α → Option α:=@Tr.rec α (fun _=>Option α) Option.none (fun _ _ r _ _=>ih r)
noncomputable def getP {α : Type} : Pa → Tr α → Option α:=@Pa.rec (fun _=>Tr α → Option α) gE gL gR
noncomputable def pE {α : Type} (x : α) : Tr α → Tr α:=@Tr.rec α (fun _=>Tr α) (.node .nil (some x) .nil) (fun l _ r _ _=>.node l (some x) r)
noncomputable def pL {α : Type} (_ : Pa) (ih : Tr α → Tr α) : Tr α → Tr α:=@Tr.rec α (fun _=>Tr α) (.node (ih .nil) Option.none .nil) (fun l v r _ _=>.node (ih l) v r)
noncomputable def pR {α : Type} (_ : Pa) (ih : Tr α → Tr α) : Tr α → Tr α:=@Tr.rec α (fun _=>Tr α) (.node .nil Option.none (ih .nil)) (fun l v r _ _=>.node l v (ih r))
noncomputable def putP {α : Type} (x : α) : Pa → Tr α → Tr α:=@Pa.rec (fun _=>Tr α → Tr α) (pE x) pL pR

theorem pathF_succ (f n : Nat) : pathF (f + 1) n = (@Bool.rec (fun _=>_) ((@Bool.rec (fun _=>_) (.r (pathF f (Nat.sub (Nat.div n 2) 1))) (.l (pathF f (Nat.div n 2))) (Nat.beq (Nat.mod n 2) 1))) (Pa.e) (Nat.beq n 0)):=rfl
theorem path_ind {Q : Nat → Pa → Prop} (h0 : Q 0 .e) (hl : ∀ n p,n % 2 = 1 → Q (n / 2) p → Q n (.l p)) (hr : ∀ n p,n ≠ 0 → n % 2 = 0 → Q (n / 2 - 1) p → Q n (.r p)) : ∀ (f n : Nat),n < f → Q n (pathF f n)
 | 0,n,h=>by omega
 | f + 1,n,h=>by
  rw [pathF_succ]
  by_cases hn : n = 0
  ·subst hn;exact h0
  ·have e0 : Nat.beq n 0 = false:=by rw [beqN];exact decide_eq_false hn
   rw [e0]
   by_cases ho : n % 2 = 1
   ·have e1 : Nat.beq (Nat.mod n 2) 1 = true:=by rw [beqN];exact decide_eq_true ho
    rw [e1]
    exact hl n _ ho (path_ind h0 hl hr f (n / 2) (by omega))
   ·have e1 : Nat.beq (Nat.mod n 2) 1 = false:=by rw [beqN];exact decide_eq_false ho
    rw [e1]
    exact hr n _ hn (by omega) (path_ind h0 hl hr f (n / 2 - 1) (by omega))
theorem get_l {α : Type} (l r : Tr α) (v : Option α) {n : Nat} (h : n % 2 = 1) : (Tr.node l v r).get n = l.get (n / 2):=by
 rw [Tr.get_node,beqN,beqN,decide_eq_false (by omega),decide_eq_true h];rfl
theorem get_r {α : Type} (l r : Tr α) (v : Option α) {n : Nat} (h0 : n ≠ 0) (h : n % 2 = 0) : (Tr.node l v r).get n = r.get (n / 2 - 1):=by
 rw [Tr.get_node,beqN,beqN,decide_eq_false h0,decide_eq_false (by omega)];rfl
theorem getP_eq {α : Type} (n : Nat) (t : Tr α) : getP (pathOf n) t = t.get n:=by
 refine path_ind (Q:=fun n p=>∀ t : Tr α,getP p t = t.get n) (fun t=>?_) (fun n p h ih t=>?_) (fun n p h0 h ih t=>?_) _ _ (Nat.lt_succ_self n) t
 ·cases t <;> rfl
 ·cases t with
  | nil=>rfl
  | node l v r=>rw [get_l l r v h,← ih];rfl
 ·cases t with
  | nil=>rfl
  | node l v r=>rw [get_r l r v h0 h,← ih];rfl
theorem putP_eq {α : Type} (x : α) (n : Nat) (t : Tr α) (g : Nat) (hg : n + 1 < 2 ^ g) : putP x (pathOf n) t = Tr.put x g t n:=by
 refine path_ind (Q:=fun n p=>∀ (t : Tr α) (g : Nat),n + 1 < 2 ^ g → putP x p t = Tr.put x g t n) (fun t g hg=>?_) (fun n p h ih t g hg=>?_) (fun n p h0 h ih t g hg=>?_) _ _ (Nat.lt_succ_self n) t g hg
 ·cases g with
  | zero=>simp at hg
  | succ g=>cases t <;> rfl
 ·cases g with
  | zero=>simp at hg
  | succ g=>
   rw [Nat.pow_succ] at hg
   have e0 : Nat.beq n 0 = false:=by rw [beqN];exact decide_eq_false (by omega)
   have e1 : Nat.beq (n % 2) 1 = true:=by rw [beqN];exact decide_eq_true h
   cases t with
   | nil=>rw [Tr.put_nil,e0,e1,← ih .nil g (by omega)];rfl
   | node l v r=>rw [Tr.put_node,e0,e1,← ih l g (by omega)];rfl
 ·cases g with
  | zero=>simp at hg
  | succ g=>
   rw [Nat.pow_succ] at hg
   have e0 : Nat.beq n 0 = false:=by rw [beqN];exact decide_eq_false h0
   have e1 : Nat.beq (n % 2) 1 = false:=by rw [beqN];exact decide_eq_false (by omega)
   cases t with
   | nil=>rw [Tr.put_nil,e0,e1,← ih .nil g (by omega)];rfl
   | node l v r=>rw [Tr.put_node,e0,e1,← ih r g (by omega)];rfl

noncomputable def nth4 {α : Type} : List α → Nat → Option α:=
 @List.rec α (fun _=>Nat → Option α) (fun _=>Option.none) (fun a _ ih n=>(@Bool.rec (fun _=>_) (ih (Nat.sub n 1)) (some a) (Nat.beq n 0)))
noncomputable def drop4 {α : Type} : List α → Nat → List α:=
 @List.rec α (fun _=>Nat → List α) (fun _=>[]) (fun a l ih n=>(@Bool.rec (fun _=>_) (ih (Nat.sub n 1)) (a :: l) (Nat.beq n 0)))
noncomputable def take4 {α : Type} : List α → Nat → List α:=
 @List.rec α (fun _=>Nat → List α) (fun _=>[]) (fun a l ih n=>(@Bool.rec (fun _=>_) (a :: ih (Nat.sub n 1)) ([]) (Nat.beq n 0)))
noncomputable def len4 {α : Type} : List α → Nat:=@List.rec α (fun _=>Nat) 0 (fun _ _ ih=>Nat.succ ih)
noncomputable def set4 {α : Type} (x : α) : List α → Nat → List α:=
 @List.rec α (fun _=>Nat → List α) (fun _=>[]) (fun a l ih n=>(@Bool.rec (fun _=>_) (a :: ih (Nat.sub n 1)) (x :: l) (Nat.beq n 0)))
noncomputable def app4 {α : Type} (m : List α) : List α → List α:=@List.rec α (fun _=>List α) m (fun a _ ih=>a :: ih)
noncomputable def map4 {α β : Type} (f : α → β) : List α → List β:=@List.rec α (fun _=>List β) [] (fun a _ ih=>f a :: ih)

theorem nth4_eq {α : Type} : ∀ (l : List α) (n : Nat),nth4 l n = l[n]?
 | [],n=>rfl
 | a :: l,0=>rfl
 | a :: l,n + 1=>by rw [List.getElem?_cons_succ,← nth4_eq l n];rfl
theorem drop4_eq {α : Type} : ∀ (l : List α) (n : Nat),drop4 l n = l.drop n
 | [],n=>by simp [drop4]
 | a :: l,0=>rfl
 | a :: l,n + 1=>by rw [List.drop_succ_cons,← drop4_eq l n];rfl
theorem take4_eq {α : Type} : ∀ (l : List α) (n : Nat),take4 l n = l.take n
 | [],n=>by simp [take4]
 | a :: l,0=>rfl
 | a :: l,n + 1=>by rw [List.take_succ_cons,← take4_eq l n];rfl
theorem len4_eq {α : Type} : ∀ (l : List α),len4 l = l.length
 | []=>rfl
 | a :: l=>by rw [List.length_cons,← len4_eq l];rfl
theorem set4_eq {α : Type} (x : α) : ∀ (l : List α) (n : Nat),set4 x l n = l.set n x
 | [],n=>by simp [set4]
 | a :: l,0=>rfl
 | a :: l,n + 1=>by rw [List.set_cons_succ,← set4_eq x l n];rfl
theorem app4_eq {α : Type} (m : List α) : ∀ (l : List α),app4 m l = l ++ m
 | []=>rfl
 | a :: l=>by rw [List.cons_append,← app4_eq m l];rfl
theorem map4_eq {α β : Type} (f : α → β) : ∀ (l : List α),map4 f l = l.map f
 | []=>rfl
 | a :: l=>by rw [List.map_cons,← map4_eq f l];rfl

noncomputable def sub4 (cs : List AV) (o n : Nat) : List AV:=(@Bool.rec (fun _=>_) (take4 (drop4 cs o) n) ((@Bool.rec (fun _=>_) (take4 cs n) (cs) (Nat.beq (len4 cs) n))) (Nat.beq o 0))
theorem sub4_eq (cs : List AV) (o n : Nat) : sub4 cs o n = (cs.drop o).take n:=by
 unfold sub4
 rw [beqN,beqN,take4_eq,take4_eq,drop4_eq,len4_eq]
 by_cases ho : o = 0
 ·subst ho
  by_cases hn : cs.length = n
  ·rw [decide_eq_true hn,decide_eq_true rfl,List.drop_zero,List.take_of_length_le (by omega)]
  ·rw [decide_eq_false hn,decide_eq_true rfl,List.drop_zero]
 ·rw [decide_eq_false ho]
theorem take1 : ∀ {cs : List AV} {o : Nat} {v : AV},cs[o]? = some v → (cs.drop o).take 1 = [v] ∧ o < cs.length
 | [],_,_,h=>by simp at h
 | a :: l,0,v,h=>by simp at h;subst h;simp
 | a :: l,o + 1,v,h=>by
  rw [List.getElem?_cons_succ] at h
  obtain ⟨h1,h2⟩:=take1 h
  exact ⟨by rw [List.drop_succ_cons];exact h1,by simp;omega⟩

noncomputable def onRow : Option Blk → (TypeId → Nat → List (List AV) → Nat → Nat → Q4) → Q4:=
 @Option.rec Blk (fun _=>(TypeId → Nat → List (List AV) → Nat → Nat → Q4) → Q4) (fun _=>.no) (@Blk.rec (fun _=>(TypeId → Nat → List (List AV) → Nat → Nat → Q4) → Q4) (fun ty esz els gen wgen k=>k ty esz els gen wgen) (fun _ _ _=>.no))
theorem onRow_ok {o : Option Blk} {k : TypeId → Nat → List (List AV) → Nat → Nat → Q4} {r : AV} {K : KH} (h : onRow o k = .ok r K) : ∃ ty esz els gen wgen,o = some (.row ty esz els gen wgen) ∧ k ty esz els gen wgen = .ok r K:=by
 cases o with
 | none=>exact noOk h
 | some x=>
  cases x with
  | row ty esz els gen wgen=>exact ⟨_,_,_,_,_,rfl,h⟩
  | map es cl=>exact noOk h
noncomputable def KH.row (K : KH) (b : Nat) (k : TypeId → Nat → List (List AV) → Nat → Nat → Q4) : Q4:=onRow (getP (pathOf b) K.blk) k
theorem row_ok {K : KH} {b : Nat} {k : TypeId → Nat → List (List AV) → Nat → Nat → Q4} {r : AV} {K1 : KH} (h : K.row b k = .ok r K1) : ∃ ty esz els gen wgen,K.heap.blk b = some (.row ty esz els gen wgen) ∧ k ty esz els gen wgen = .ok r K1:=by
 obtain ⟨ty,esz,els,gen,wgen,h1,h2⟩:=onRow_ok h
 rw [getP_eq] at h1
 exact ⟨ty,esz,els,gen,wgen,h1,h2⟩

noncomputable def ldRow (o n : Nat) (k : List AV → Q4) (i g : Nat) (_ : TypeId) (esz : Nat) (els : List (List AV)) (_ wgen : Nat) : Q4:=
 (@Bool.rec (fun _=>_) (.no) ((@Bool.rec (fun _=>_) (.no) (oElim .no (fun cs=>k (sub4 cs o n)) (nth4 els i)) (Nat.ble (Nat.add o n) esz))) (Nat.ble wgen g))
noncomputable def ld (K : KH) (n : Nat) (k : List AV → Q4) (a : AV) : Q4:=
 onAddr a (fun b i o g=>K.row b (ldRow o n k i g)) (fun cs o=>(@Bool.rec (fun _=>_) (.no) (k (sub4 cs o n)) (Nat.ble (Nat.add o n) (len4 cs)))) .no
theorem ld_ok {K : KH} {n : Nat} {k : List AV → Q4} {a r : AV} {K1 : KH} (h : ld K n k a = .ok r K1) : ∃ cs,K.heap.load a n = some cs ∧ k cs = .ok r K1:=by
 rcases onAddr_no h with ⟨b,i,o,g,rfl,h⟩ | ⟨cs,o,rfl,h⟩
 ·obtain ⟨ty,esz,els,gen,wgen,h1,h⟩:=row_ok h
  obtain ⟨h2,h⟩:=bqN h
  obtain ⟨h3,h⟩:=bqN h
  obtain ⟨cs,h4,h⟩:=oElim_no h
  rw [nth4_eq] at h4
  have h2:=Nat.le_of_ble_eq_true h2
  have h3 : o + n ≤ esz:=Nat.le_of_ble_eq_true h3
  refine ⟨_,?_,by rw [sub4_eq] at h;exact h⟩
  simp only [Heap.load,h1]
  rw [if_pos ⟨h2,h3⟩,h4]
 ·obtain ⟨h3,h⟩:=bqN h
  have h3 : o + n ≤ len4 cs:=Nat.le_of_ble_eq_true h3
  rw [len4_eq] at h3
  refine ⟨_,?_,by rw [sub4_eq] at h;exact h⟩
  simp only [Heap.load]
  rw [if_pos h3]

noncomputable def ld1Row (o : Nat) (k : AV → Q4) (i g : Nat) (_ : TypeId) (esz : Nat) (els : List (List AV)) (_ wgen : Nat) : Q4:=
 (@Bool.rec (fun _=>_) (.no) ((@Bool.rec (fun _=>_) (.no) (oElim .no (fun cs=>oElim .no k (nth4 cs o)) (nth4 els i)) (Nat.ble (Nat.succ o) esz))) (Nat.ble wgen g))
noncomputable def ld1 (K : KH) (k : AV → Q4) (a : AV) : Q4:=
 onAddr a (fun b i o g=>K.row b (ld1Row o k i g)) (fun cs o=>oElim .no k (nth4 cs o)) .no
theorem ld1_ok {K : KH} {k : AV → Q4} {a r : AV} {K1 : KH} (h : ld1 K k a = .ok r K1) : ∃ v,K.heap.load a 1 = some [v] ∧ k v = .ok r K1:=by
 rcases onAddr_no h with ⟨b,i,o,g,rfl,h⟩ | ⟨cs,o,rfl,h⟩
 ·obtain ⟨ty,esz,els,gen,wgen,h1,h⟩:=row_ok h
  obtain ⟨h2,h⟩:=bqN h
  obtain ⟨h3,h⟩:=bqN h
  obtain ⟨cs,h4,h⟩:=oElim_no h
  obtain ⟨v,h5,h⟩:=oElim_no h
  rw [nth4_eq] at h4 h5
  have h2:=Nat.le_of_ble_eq_true h2
  have h3 : o + 1 ≤ esz:=Nat.le_of_ble_eq_true h3
  refine ⟨v,?_,h⟩
  simp only [Heap.load,h1]
  rw [if_pos ⟨h2,h3⟩,h4]
  simp only [(take1 h5).1]
 ·obtain ⟨v,h5,h⟩:=oElim_no h
  rw [nth4_eq] at h5
  refine ⟨v,?_,h⟩
  simp only [Heap.load]
  rw [if_pos (show o + 1 ≤ cs.length from (take1 h5).2),(take1 h5).1]

noncomputable def isCell4 : AV → Bool:=@AV.rec (fun _=>Bool) (fun _=>Unit) (fun _=>Unit) (false) (fun _=>true) (fun _ _=>true) (fun _=>true) (true) (fun _ _ _ _=>true) (fun _ _ _=>true) (true) (true) (fun _ _ _ _ _ _=>true) (fun _ _ _=>true) (fun _ _=>false) (fun _ _=>false) (true) (fun _ _ _=>true) (true) (fun _ _ _ _ _=>true) (true) (fun _=>true) () (fun _ _ _ _=>()) () (fun _ _ _ _=>())
theorem isCell4_eq (a : AV) : isCell4 a = a.isCell:=by cases a <;> rfl
noncomputable def all4 : List AV → Bool:=@List.rec AV (fun _=>Bool) true (fun a _ ih=>(@Bool.rec (fun _=>_) (false) (ih) (isCell4 a)))
theorem all4_eq : ∀ (l : List AV),all4 l = l.all AV.isCell
 | []=>rfl
 | a :: l=>by
  rw [List.all_cons,← all4_eq l,← isCell4_eq]
  show (@Bool.rec (fun _=>Bool) false (all4 l) (isCell4 a)) = _
  cases isCell4 a <;> rfl
noncomputable def KH.put (K : KH) (b : Nat) (x : Blk) : KH:=⟨putP x (pathOf b) K.blk,K.next,K.mark,note K.mark b K.log⟩
noncomputable def KH.new (K : KH) (x : Blk) : KH:=⟨putP x (pathOf K.next) K.blk,Nat.succ K.next,K.mark,K.log⟩
noncomputable def stRow (K : KH) (b i o g : Nat) (vs : List AV) (n : Nat) (ty : TypeId) (esz : Nat) (els : List (List AV)) (gen _wgen : Nat) : Q4:=
 (@Bool.rec (fun _=>_) (.no) ((@Bool.rec (fun _=>_) (.no) ((@Bool.rec (fun _=>_) (.no) (oElim .no (fun cs=>.ok .undef (K.put b (.row ty esz (set4 (app4 (app4 (drop4 cs (Nat.add o n)) vs) (take4 cs o)) els i) gen gen))) (nth4 els i)) (all4 vs))) (Nat.ble (Nat.add o n) esz))) (Nat.beq g gen))
noncomputable def st (K : KH) (n : Nat) (vs : List AV) (a : AV) : Q4:=
 onPtr a (fun b i o g=>(@Bool.rec (fun _=>_) (.no) (K.row b (stRow K b i o g vs n)) (Nat.ble b 1000000000))) .no
noncomputable def st1Row (K : KH) (b i o g : Nat) (v : AV) (ty : TypeId) (esz : Nat) (els : List (List AV)) (gen _wgen : Nat) : Q4:=
 (@Bool.rec (fun _=>_) (.no) ((@Bool.rec (fun _=>_) (.no) ((@Bool.rec (fun _=>_) (.no) (oElim .no (fun cs=>(@Bool.rec (fun _=>_) (.no) (.ok .undef (K.put b (.row ty esz (set4 (set4 v cs o) els i) gen gen))) (Nat.ble (Nat.succ o) (len4 cs)))) (nth4 els i)) (isCell4 v))) (Nat.ble (Nat.succ o) esz))) (Nat.beq g gen))
noncomputable def st1 (K : KH) (v : AV) (a : AV) : Q4:=
 onPtr a (fun b i o g=>(@Bool.rec (fun _=>_) (.no) (K.row b (st1Row K b i o g v)) (Nat.ble b 1000000000))) .no

theorem splice_set (v : AV) : ∀ (cs : List AV) (o : Nat),o < cs.length → cs.set o v = splice cs o [v]
 | [],o,h=>by simp at h
 | a :: l,0,h=>by simp [splice]
 | a :: l,o + 1,h=>by
  have:=splice_set v l o (by simpa using h)
  rw [List.set_cons_succ,this]
  simp [splice]
theorem put_eq {K : KH} {b : Nat} {x : Blk} (hb : b ≤ 1000000000) : K.put b x = ⟨Tr.put x 30 K.blk b,K.next,K.mark,note K.mark b K.log⟩:=by
 unfold KH.put
 rw [putP_eq x b K.blk 30 (Nat.lt_of_le_of_lt (Nat.add_le_add_right hb 1) (by decide))]
theorem new_eq {K : KH} {x : Blk} (hb : K.next ≤ 1000000000) : K.new x = ⟨Tr.put x 30 K.blk K.next,K.next + 1,K.mark,K.log⟩:=by
 unfold KH.new
 rw [putP_eq x K.next K.blk 30 (Nat.lt_of_le_of_lt (Nat.add_le_add_right hb 1) (by decide))]
theorem st_ok {K : KH} {vs : List AV} {n : Nat} (hn : n = vs.length) {a r : AV} {K1 : KH} (h : st K n vs a = .ok r K1) : ∃ b x,a.rowOf = b ∧ K.heap.store a vs = some (K.heap.set b x) ∧ b ≤ 1000000000 ∧ r = .undef ∧ K1 = ⟨Tr.put x 30 K.blk b,K.next,K.mark,note K.mark b K.log⟩:=by
 rcases onPtr_no h with ⟨b,i,o,g,rfl,h⟩
 obtain ⟨hb,h⟩:=bqN h
 obtain ⟨ty,esz,els,gen,wgen,h1,h⟩:=row_ok h
 obtain ⟨h2,h⟩:=bqN h
 obtain ⟨h3,h⟩:=bqN h
 obtain ⟨h4,h⟩:=bqN h
 obtain ⟨cs,h5,h⟩:=oElim_no h
 have hb:=Nat.le_of_ble_eq_true hb
 have h2:=Nat.eq_of_beq_eq_true h2
 have h3 : o + n ≤ esz:=Nat.le_of_ble_eq_true h3
 rw [all4_eq] at h4
 rw [nth4_eq] at h5
 rw [put_eq hb,set4_eq,app4_eq,app4_eq,drop4_eq,take4_eq] at h
 cases h
 refine ⟨b,_,rfl,?_,hb,rfl,rfl⟩
 subst hn
 simp only [Heap.store,h1]
 rw [if_pos ⟨h2,h3,h4⟩,h5]
 simp only [splice,List.append_assoc]
 rfl
theorem st1_ok {K : KH} {v : AV} {a r : AV} {K1 : KH} (h : st1 K v a = .ok r K1) : ∃ b x,a.rowOf = b ∧ K.heap.store a [v] = some (K.heap.set b x) ∧ b ≤ 1000000000 ∧ v.isCell = true ∧ r = .undef ∧ K1 = ⟨Tr.put x 30 K.blk b,K.next,K.mark,note K.mark b K.log⟩:=by
 rcases onPtr_no h with ⟨b,i,o,g,rfl,h⟩
 obtain ⟨hb,h⟩:=bqN h
 obtain ⟨ty,esz,els,gen,wgen,h1,h⟩:=row_ok h
 obtain ⟨h2,h⟩:=bqN h
 obtain ⟨h3,h⟩:=bqN h
 obtain ⟨h4,h⟩:=bqN h
 obtain ⟨cs,h5,h⟩:=oElim_no h
 obtain ⟨h6,h⟩:=bqN h
 have hb:=Nat.le_of_ble_eq_true hb
 have h2:=Nat.eq_of_beq_eq_true h2
 have h3 : o + 1 ≤ esz:=Nat.le_of_ble_eq_true h3
 have h6 : o + 1 ≤ len4 cs:=Nat.le_of_ble_eq_true h6
 rw [len4_eq] at h6
 rw [isCell4_eq] at h4
 rw [nth4_eq] at h5
 rw [put_eq hb,set4_eq,set4_eq,splice_set v cs o h6] at h
 cases h
 refine ⟨b,_,rfl,?_,hb,h4,rfl,rfl⟩
 simp only [Heap.store,h1]
 rw [if_pos ⟨h2,h3,by simp [h4]⟩,h5]
end Go.Ev
set_option linter.unusedVariables false
set_option linter.unusedSimpArgs false
namespace Go.Ev

noncomputable def kRest (P : Program) (o : Oper) (env : Env) (K : KH) : Option (AV × KH):=
 match evOp P env.at o K.heap with
 | some (r,H)=>
  match opKind P o.op with
  | 0=>some (r,K)
  | 1=>some (r,K)
  | _=>
   match K.upd H (turns env.at o) with
   | some K1=>some (r,K1)
   | none=>none
 | none=>none
noncomputable def kAct (P : Program) (cf : FuncId → List AV → KH → Option (AV × KH)) (o : Oper) (env : Env) (K : KH) : Option (AV × KH):=
 match o.op with
 | .call { callee:=.value f,args,.. }=>
  match env.at f with
  | .func (.func g) first cap=>cf g (first ++ args.toList.map env.at ++ cap) K
  | _=>none
 | _=>kRest P o env K
theorem kOne_act {P : Program} {cf : FuncId → List AV → KH → Option (AV × KH)} {ops : Array Oper} {o : Oper} {E : KE} {K : KH} (hw : wantedA ops E.env o = some true) : kOne P cf ops o E K = kAct P cf o E.env K:=by
 unfold kOne
 rw [hw]
 unfold kAct
 obtain ⟨d,op,ty,p,af,gd⟩:=o
 cases op with
 | call c=>
  obtain ⟨ce,args,ts⟩:=c
  cases ce with
  | value f=>
   simp only
   generalize E.env.at f = v
   cases v with
   | func g u w=>cases g <;> rfl
   | _=>rfl
  | _=>rfl
 | _=>rfl

section
variable {P : Program} {o : Oper} {env : Env} {K : KH} {r : AV}
theorem rest01 (h : evOp P env.at o K.heap = some (r,K.heap)) (hk : opKind P o.op = 0 ∨ opKind P o.op = 1) : kRest P o env K = some (r,K):=by
 unfold kRest
 rw [h]
 rcases hk with hk | hk <;> simp only [hk]
theorem restS {b : Nat} {x : Blk} (h : evOp P env.at o K.heap = some (r,K.heap.set b x)) (hk : opKind P o.op = 3) (ht : turns env.at o = b) (hb : b ≤ 1000000000) : kRest P o env K = some (r,⟨Tr.put x 30 K.blk b,K.next,K.mark,note K.mark b K.log⟩):=by
 unfold kRest
 rw [h]
 simp only [hk,ht]
 unfold KH.upd
 rw [show (K.heap.set b x).next = K.next from rfl,beqN,decide_eq_true rfl,cond_true,Heap.set_same]
 simp only
 rw [bleN,decide_eq_true hb,cond_true]
theorem restN {x : Blk} (h : evOp P env.at o K.heap = some (r,K.heap.push x)) (hk : opKind P o.op = 2 ∨ opKind P o.op = 3) (hb : K.next ≤ 1000000000) : kRest P o env K = some (r,⟨Tr.put x 30 K.blk K.next,K.next + 1,K.mark,K.log⟩):=by
 unfold kRest
 rw [h]
 have hu : K.upd (K.heap.push x) (turns env.at o) = some ⟨Tr.put x 30 K.blk K.next,K.next + 1,K.mark,K.log⟩:=by
  unfold KH.upd
  rw [show (K.heap.push x).next = K.next + 1 from rfl,beqN,decide_eq_false (by omega),cond_false,show (K.heap.push x).blk K.next = some x from push_blk_same K.heap x]
  simp only
  rw [bleN,decide_eq_true hb,cond_true]
 rcases hk with hk | hk <;> simp only [hk,hu]
end

noncomputable def iLt (a b : Int) : Bool:=@Int.rec (fun _=>Bool) (fun m=>@Int.rec (fun _=>Bool) (fun n=>Nat.ble (Nat.succ m) n) (fun _=>false) b) (fun m=>@Int.rec (fun _=>Bool) (fun _=>true) (fun n=>Nat.ble (Nat.succ n) m) b) a
noncomputable def iEq (a b : Int) : Bool:=@Int.rec (fun _=>Bool) (fun m=>@Int.rec (fun _=>Bool) (fun n=>Nat.beq m n) (fun _=>false) b) (fun m=>@Int.rec (fun _=>Bool) (fun _=>false) (fun n=>Nat.beq m n) b) a
noncomputable def iAdd (k : IntKind) (a b : Int) : Int:=@Int.rec (fun _=>Int) (fun m=>@Int.rec (fun _=>Int) (fun n=>(@Bool.rec (fun _=>_) (k.wrap (a + b)) (.ofNat (Nat.add m n)) (Nat.ble (Nat.add m n) 100))) (fun _=>k.wrap (a + b)) b) (fun _=>k.wrap (a + b)) a
noncomputable def iSub (k : IntKind) (a b : Int) : Int:=@Int.rec (fun _=>Int) (fun m=>@Int.rec (fun _=>Int) (fun n=>(@Bool.rec (fun _=>_) (k.wrap (a - b)) ((@Bool.rec (fun _=>_) (k.wrap (a - b)) (.ofNat (Nat.sub m n)) (Nat.ble n m))) (Nat.ble m 100))) (fun _=>k.wrap (a - b)) b) (fun _=>k.wrap (a - b)) a
noncomputable def bNot (b : Bool) : Bool:=(@Bool.rec (fun _=>_) (true) (false) (b))
theorem bNot_eq (b : Bool) : bNot b = !b:=by cases b <;> rfl

theorem wrap_small (k : IntKind) {x : Int} (h0 : 0 ≤ x) (h1 : x ≤ 100) : k.wrap x = x:=by
 cases k <;> simp [IntKind.wrap,IntKind.bits,IntKind.signed] <;> omega
theorem iLt_eq (a b : Int) : iLt a b = decide (a < b):=by
 cases a with
 | ofNat m=>
  cases b with
  | ofNat n=>
   show Nat.ble (m + 1) n = _
   rw [bleN]
   exact decide_eq_decide.2 (by simp only [Int.ofNat_eq_natCast];omega)
  | negSucc n=>exact (decide_eq_false (by simp only [Int.ofNat_eq_natCast,Int.negSucc_eq];omega)).symm
 | negSucc m=>
  cases b with
  | ofNat n=>exact (decide_eq_true (by simp only [Int.ofNat_eq_natCast,Int.negSucc_eq];omega)).symm
  | negSucc n=>
   show Nat.ble (n + 1) m = _
   rw [bleN]
   exact decide_eq_decide.2 (by simp only [Int.negSucc_eq];omega)
theorem iEq_eq (a b : Int) : iEq a b = (a == b):=by
 rw [show (a == b) = decide (a = b) from rfl]
 cases a with
 | ofNat m=>
  cases b with
  | ofNat n=>
   show Nat.beq m n = _
   rw [beqN]
   exact decide_eq_decide.2 (by simp only [Int.ofNat_eq_natCast];omega)
  | negSucc n=>exact (decide_eq_false (by simp only [Int.ofNat_eq_natCast,Int.negSucc_eq];omega)).symm
 | negSucc m=>
  cases b with
  | ofNat n=>exact (decide_eq_false (by simp only [Int.ofNat_eq_natCast,Int.negSucc_eq];omega)).symm
  | negSucc n=>
   show Nat.beq m n = _
   rw [beqN]
   exact decide_eq_decide.2 (by simp only [Int.negSucc_eq];omega)
theorem iAdd_eq (k : IntKind) (a b : Int) : iAdd k a b = k.wrap (a + b):=by
 cases a with
 | negSucc m=>rfl
 | ofNat m=>
  cases b with
  | negSucc n=>rfl
  | ofNat n=>
   show (@Bool.rec (fun _=>Int) (k.wrap (Int.ofNat m + Int.ofNat n)) (Int.ofNat (m + n)) (Nat.ble (m + n) 100)) = _
   rw [bleN]
   by_cases h : m + n ≤ 100
   ·rw [decide_eq_true h]
    show Int.ofNat (m + n) = _
    rw [wrap_small k (by simp only [Int.ofNat_eq_natCast];omega) (by simp only [Int.ofNat_eq_natCast];omega)]
    simp only [Int.ofNat_eq_natCast];omega
   ·rw [decide_eq_false h]
theorem iSub_eq (k : IntKind) (a b : Int) : iSub k a b = k.wrap (a - b):=by
 cases a with
 | negSucc m=>rfl
 | ofNat m=>
  cases b with
  | negSucc n=>rfl
  | ofNat n=>
   show (@Bool.rec (fun _=>Int) (k.wrap (Int.ofNat m - Int.ofNat n)) (@Bool.rec (fun _=>Int) (k.wrap (Int.ofNat m - Int.ofNat n)) (Int.ofNat (m - n)) (Nat.ble n m)) (Nat.ble m 100)) = _
   rw [bleN,bleN]
   by_cases h : m ≤ 100
   ·rw [decide_eq_true h]
    by_cases h2 : n ≤ m
    ·rw [decide_eq_true h2]
     show Int.ofNat (m - n) = _
     rw [wrap_small k (by simp only [Int.ofNat_eq_natCast];omega) (by simp only [Int.ofNat_eq_natCast];omega)]
     simp only [Int.ofNat_eq_natCast];omega
    ·rw [decide_eq_false h2]
   ·rw [decide_eq_false h]

abbrev I4:=IntKind → Int → Int → Option AV
noncomputable def iOld (op : BinOp) : I4:=fun k a b=>evInt op k a b
noncomputable def int4 : BinOp → I4:=@BinOp.rec (fun _=>I4) (fun k a b=>some (.int k (iAdd k a b))) (fun k a b=>some (.int k (iSub k a b))) (iOld .mul) (iOld .quo) (iOld .rem) (iOld .and) (iOld .or) (iOld .xor) (fun _ _ _=>Option.none) (fun _ _ _=>Option.none) (iOld .andNot)
 (fun _ a b=>some (.bool (iEq a b))) (fun _ a b=>some (.bool (bNot (iEq a b)))) (fun _ a b=>some (.bool (iLt a b))) (fun _ a b=>some (.bool (bNot (iLt b a)))) (fun _ a b=>some (.bool (iLt b a))) (fun _ a b=>some (.bool (bNot (iLt a b))))
theorem int4_eq (op : BinOp) (k : IntKind) (a b : Int) : int4 op k a b = evInt op k a b:=by
 cases op
 case add=>exact congrArg (fun x=>some (AV.int k x)) (iAdd_eq k a b)
 case sub=>exact congrArg (fun x=>some (AV.int k x)) (iSub_eq k a b)
 case eql=>exact congrArg (fun x=>some (AV.bool x)) (iEq_eq a b)
 case neq=>exact congrArg (fun x=>some (AV.bool x)) ((bNot_eq _).trans (congrArg (fun x=>!x) (iEq_eq a b)))
 case lss=>exact congrArg (fun x=>some (AV.bool x)) (iLt_eq a b)
 case leq=>
  refine congrArg (fun x=>some (AV.bool x)) ((bNot_eq _).trans ?_)
  rw [iLt_eq,← decide_not]
  exact decide_eq_decide.2 (by omega)
 case gtr=>exact congrArg (fun x=>some (AV.bool x)) (iLt_eq b a)
 case geq=>
  refine congrArg (fun x=>some (AV.bool x)) ((bNot_eq _).trans ?_)
  rw [iLt_eq,← decide_not]
  exact decide_eq_decide.2 (by omega)
 all_goals rfl

noncomputable def eqS : List Nat → List Nat → Bool:=@List.rec Nat (fun _=>List Nat → Bool) (@List.rec Nat (fun _=>Bool) true (fun _ _ _=>false)) (fun a _ ih=>@List.rec Nat (fun _=>Bool) false (fun b m _=>(@Bool.rec (fun _=>_) (false) (ih m) (Nat.beq a b))))
theorem eqS_eq : ∀ (a b : List Nat),eqS a b = (a == b)
 | [],[]=>rfl
 | [],b :: m=>rfl
 | a :: l,[]=>rfl
 | a :: l,b :: m=>by
  show (@Bool.rec (fun _=>Bool) false (eqS l m) (Nat.beq a b)) = _
  rw [eqS_eq l m,beqN]
  by_cases h : a = b
  ·subst h;rw [decide_eq_true rfl];simp
  ·rw [decide_eq_false h];simp [h]

inductive Src where
 | t (p : Pa)
 | c (v : AV)
noncomputable def srcOf : Operand → Src:=@Operand.rec (fun _=>Src) (fun t=>.t (pathOf t)) (fun v=>.c (avOf v)) (fun g=>.c (globAV g)) (fun f=>.c (.func (.func f) [] []))
noncomputable def orU : Option AV → AV:=@Option.rec AV (fun _=>AV) .undef (fun v=>v)
noncomputable def rd (E : KE) : Src → AV:=@Src.rec (fun _=>AV) (fun p=>orU (getP p E)) (fun v=>v)
theorem rdT (E : KE) (t : Nat) : orU (getP (pathOf t) E) = E.env t:=by
 rw [getP_eq]
 unfold KE.env
 cases E.get t <;> rfl
noncomputable def KE.env4 (E : KE) : Env:=fun t=>orU (getP (pathOf t) E)
theorem env4_eq (E : KE) : E.env4 = E.env:=funext fun t=>rdT E t
theorem rd_eq (E : KE) (x : Operand) : rd E (srcOf x) = E.env.at x:=by
 cases x with
 | tmp t=>exact rdT E t
 | const v=>rfl
 | global g=>rfl
 | func f=>rfl

abbrev CF:=FuncId → List AV → KH → Q4
abbrev R4:=Program → CF → KE → KH → Q4
inductive Ins where
 | bad
 | old (o : Oper)
 | mv (x : Src)
 | pick (c a b : Src)
 | ld1 (x : Src)
 | ldA (n : Nat) (x : Src)
 | st1 (a x : Src)
 | stA (n : Nat) (a x : Src)
 | nilc (x : Src)
 | fa (off : Nat) (x : Src)
 | ext (x : Src) (i : Nat)
 | bin (op : BinOp) (t : TypeId) (u v : Operand) (x y : Src)
 | not (x : Src)
 | idxS (x i : Src)
 | idxA (sz : Nat) (x i : Src)
 | lenS (x : Src)
 | lenL (o : Oper) (x : Src)
 | call (f : Src) (args : List Src)
 | alloc (t : TypeId) (cs : List AV) (n : Nat)
 | fld1 (off : Nat) (x : Src)
 | fldA (off n : Nat) (x : Src)

noncomputable def oq : Option (AV × KH) → Q4:=@Option.rec (AV × KH) (fun _=>Q4) .no (fun p=>.ok p.1 p.2)
theorem oq_ok {x : Option (AV × KH)} {r : AV} {K : KH} (h : oq x = .ok r K) : x = some (r,K):=by
 cases x with
 | none=>exact noOk h
 | some p=>obtain ⟨a,b⟩:=p;cases h;rfl
noncomputable def xOld (o : Oper) : R4:=fun P _ E K=>oq (kRest P o E.env4 K)
noncomputable def xBad : R4:=fun _ _ _ _=>.no
noncomputable def xMv (x : Src) : R4:=fun _ _ E K=>.ok (rd E x) K
noncomputable def xPick (c a b : Src) : R4:=fun _ _ E K=>onBool (rd E c) (fun t=>.ok ((@Bool.rec (fun _=>_) (rd E b) (rd E a) (t))) K) .no
noncomputable def xLd1 (x : Src) : R4:=fun _ _ E K=>ld1 K (fun v=>.ok v K) (rd E x)
noncomputable def xLdA (n : Nat) (x : Src) : R4:=fun _ _ E K=>ld K n (fun cs=>.ok (.agg cs) K) (rd E x)
noncomputable def xSt1 (a x : Src) : R4:=fun _ _ E K=>st1 K (rd E x) (rd E a)
noncomputable def xStA (n : Nat) (a x : Src) : R4:=fun _ _ E K=>onAgg (rd E x) (fun cs=>(@Bool.rec (fun _=>_) (.no) (st K n cs (rd E a)) (Nat.beq n (len4 cs)))) .no
noncomputable def xNil (x : Src) : R4:=fun _ _ E K=>onAddr (rd E x) (fun b i o g=>.ok (.ptr b i o g) K) (fun cs o=>.ok (.iptr cs o) K) .no
noncomputable def xFa (off : Nat) (x : Src) : R4:=fun _ _ E K=>onAddr (rd E x) (fun b i o g=>.ok (.ptr b i (Nat.add o off) g) K) (fun cs o=>.ok (.iptr cs (Nat.add o off)) K) .no
noncomputable def xExt (x : Src) (i : Nat) : R4:=fun _ _ E K=>onTup (rd E x) (fun vs=>oElim .no (fun v=>.ok v K) (nth4 vs i)) .no
noncomputable def binS (op : BinOp) (P : Program) (t : TypeId) (u v : Operand) (K : KH) (a b : AV) : Q4:=oElim .no (fun r=>.ok r K) (evBin P op t u v a b)
noncomputable def binT (op : BinOp) (t : TypeId) (u v : Operand) (P : Program) (K : KH) (a b : AV) (s s' : List Nat) : Q4:=
 (@Bool.rec (fun _=>_) ((@Bool.rec (fun _=>_) (binS op P t u v K a b) (.ok (.bool (bNot (eqS s s'))) K) (Nat.beq (BinOp.ctorIdx op) 12))) (.ok (.bool (eqS s s')) K) (Nat.beq (BinOp.ctorIdx op) 11))
noncomputable def xBin (op : BinOp) (t : TypeId) (u v : Operand) (x y : Src) : R4:=fun P _ E K=>
  onInt (rd E x) (fun k m=>onInt (rd E y) (fun k' n=>(@Bool.rec (fun _=>_) (.no) (oElim .no (fun r=>.ok r K) (int4 op k m n)) (Nat.beq (IntKind.ctorIdx k) (IntKind.ctorIdx k')))) .no)
   (onStr (rd E x) (fun s=>onStr (rd E y) (fun s'=>binT op t u v P K (rd E x) (rd E y) s s') .no) (binS op P t u v K (rd E x) (rd E y)))
noncomputable def xNot (x : Src) : R4:=fun _ _ E K=>onBool (rd E x) (fun b=>.ok (.bool (bNot b)) K) .no
noncomputable def xIdxS (x i : Src) : R4:=fun _ _ E K=>onStr (rd E x) (fun s=>onInt (rd E i) (fun _ n=>@Int.rec (fun _=>Q4) (fun n=>oElim .no (fun c=>.ok (.int .u8 (.ofNat c)) K) (nth4 s n)) (fun _=>.no) n) .no) .no
noncomputable def idxRow (K : KH) (sz b off g n : Nat) (_ : TypeId) (esz : Nat) (_ : List (List AV)) (_ wgen : Nat) : Q4:=
 (@Bool.rec (fun _=>_) (.no) ((@Bool.rec (fun _=>_) (.no) (.ok (.ptr b (Nat.add off n) 0 g) K) (Nat.ble wgen g))) (Nat.beq sz esz))
noncomputable def xIdxA (sz : Nat) (x i : Src) : R4:=fun _ _ E K=>onSl (rd E x) (fun b off len _ _ g=>onInt (rd E i) (fun _ n=>@Int.rec (fun _=>Q4) (fun n=>(@Bool.rec (fun _=>_) (.no) (K.row b (idxRow K sz b off g n)) (Nat.ble (Nat.succ n) len))) (fun _=>.no) n) .no) .no .no
noncomputable def xLenS (x : Src) : R4:=fun _ _ E K=>onStr (rd E x) (fun s=>.ok (.int .i64 (.ofNat (len4 s))) K) .no
noncomputable def xLenL (o : Oper) (x : Src) : R4:=fun P _ E K=>onSl (rd E x) (fun _ _ n _ _ _=>.ok (.int .i64 (.ofNat n)) K) (.ok (.int .i64 (.ofNat 0)) K) (oq (kRest P o E.env4 K))
noncomputable def onG : Fn → (FuncId → Q4) → Q4:=@Fn.rec (fun _=>(FuncId → Q4) → Q4) (fun f k=>k f) (fun _ _=>.no) (fun _ _ _=>.no) (fun _ _ _ _ _=>.no) (fun _ _=>.no)
noncomputable def apN (cap l : List AV) : List AV:=@List.rec AV (fun _=>List AV) l (fun _ _ _=>app4 cap l) cap
noncomputable def xCall (f : Src) (args : List Src) : R4:=fun _ cf E K=>onFunc (rd E f) (fun g first cap=>onG g (fun g=>cf g (app4 (apN cap (map4 (rd E) args)) first) K)) .no
noncomputable def xAlloc (t : TypeId) (cs : List AV) (n : Nat) : R4:=fun _ _ E K=>(@Bool.rec (fun _=>_) (.no) (.ok (.ptr K.next 0 0 0) (K.new (.row t n [cs] 0 0))) (Nat.ble K.next 1000000000))
noncomputable def xFld1 (off : Nat) (x : Src) : R4:=fun _ _ E K=>onAgg (rd E x) (fun cs=>oElim .no (fun v=>.ok v K) (nth4 cs off)) .no
noncomputable def xFldA (off n : Nat) (x : Src) : R4:=fun _ _ E K=>onAgg (rd E x) (fun cs=>(@Bool.rec (fun _=>_) (.no) (.ok (.agg (sub4 cs off n)) K) (Nat.ble (Nat.add off n) (len4 cs)))) .no

noncomputable def runI : Ins → R4:=@Ins.rec (fun _=>R4) xBad xOld xMv xPick xLd1 xLdA xSt1 xStA xNil xFa xExt xBin xNot xIdxS xIdxA xLenS xLenL xCall xAlloc xFld1 xFldA

section
variable (P : Program)
noncomputable def isShift (op : BinOp) : Bool:=(@Bool.rec (fun _=>_) (Nat.beq (BinOp.ctorIdx op) 9) (true) (Nat.beq (BinOp.ctorIdx op) 8))
noncomputable def one1 {α : Type} : List α → Option α:=@List.rec α (fun _=>Option α) Option.none (fun x l _=>@List.rec α (fun _=>Option α) (some x) (fun _ _ _=>Option.none) l)
noncomputable def isSlT (t : TypeId) : Bool:=oElim false (fun _=>true) (elemOfSlice P t)
noncomputable def cpLen (o : Oper) (c : Call) : Ins:=oElim (.old o) (fun x=>oElim (.old o) (fun t=>(@Bool.rec (fun _=>_) ((@Bool.rec (fun _=>_) (.old o) (.lenL o (srcOf x)) (isSlT P t))) (.lenS (srcOf x)) (isStrT P t))) c.argTypes[0]?) (one1 c.args.toList)
noncomputable def cpCall (o : Oper) (c : Call) : Ins:=@Callee.rec (fun _=>Ins) (fun f=>.call (srcOf f) (map4 srcOf c.args.toList)) (fun _ _=>.old o) (fun b=>(@Bool.rec (fun _=>_) (.old o) (cpLen P o c) (Nat.beq (Builtin.ctorIdx b) 8))) c.callee
noncomputable def cpAlloc (o : Oper) (t : TypeId) : Ins:=oElim (.old o) (fun z=>(@Bool.rec (fun _=>_) (.alloc t z.cells (len4 z.cells)) (.old o) (z.isUndef))) (zeroOf P t)
noncomputable def cpLoad (t : TypeId) (x : Operand) : Ins:=oElim .bad (fun b=>(@Bool.rec (fun _=>_) (.ld1 (srcOf x)) (oElim .bad (fun n=>.ldA n (srcOf x)) (szOf P t)) (b))) (aggOf P t)
noncomputable def cpStore (o : Oper) (t : TypeId) (a x : Operand) : Ins:=oElim (.old o) (fun b=>(@Bool.rec (fun _=>_) (oElim .bad (fun n=>(@Bool.rec (fun _=>_) (.bad) (.st1 (srcOf a) (srcOf x)) (Nat.beq n 1))) (szOf P t)) (oElim .bad (fun n=>.stA n (srcOf a) (srcOf x)) (szOf P t)) (b))) (aggOf P t)
noncomputable def cpFa (s : TypeId) (x : Operand) (f : Nat) : Ins:=oElim .bad (fun fd=>oElim .bad (fun n=>(@Bool.rec (fun _=>_) (.fa fd.offset (srcOf x)) (.bad) (Nat.beq n 0))) (szOf P fd.type)) (fieldOf P s f)
noncomputable def cpFld (s : TypeId) (x : Operand) (f : Nat) : Ins:=oElim .bad (fun fd=>oElim .bad (fun b=>(@Bool.rec (fun _=>_) (.fld1 fd.offset (srcOf x)) (oElim .bad (fun n=>.fldA fd.offset n (srcOf x)) (szOf P fd.type)) (b))) (aggOf P fd.type)) (fieldOf P s f)
noncomputable def cpIdxA (o : Oper) (t : TypeId) (x i : Operand) : Ins:=oElim (.old o) (fun e=>oElim (.old o) (fun sz=>.idxA sz (srcOf x) (srcOf i)) (szOf P e)) (elemOfSlice P t)
noncomputable def cpUn (o : Oper) (op : UnOp) (x : Operand) : Ins:=@UnOp.rec (fun _=>Ins) (.old o) (.old o) (.not (srcOf x)) (.old o) op
noncomputable def cpOp (o : Oper) : Op → Ins:=
  @Op.rec (fun _=>Ins) (fun x=>.mv (srcOf x)) (fun x=>.mv (srcOf x)) (fun c a b=>.pick (srcOf c) (srcOf a) (srcOf b)) (cpAlloc P o) (fun _ _=>.old o) (fun _ _=>.old o) (fun _ _ _=>.old o) (fun _ _ _ _=>.old o)
   (cpLoad P) (cpStore P o) (fun _=>.old o) (fun _=>.old o) (fun x=>.nilc (srcOf x)) (fun op t x y _=>(@Bool.rec (fun _=>_) (.bin op t x y (srcOf x) (srcOf y)) (.old o) (isShift op))) (fun op _ x=>cpUn o op x) (fun _ _ _=>.old o) (fun _ _=>.old o) (fun _ _=>.old o)
   (fun _ _ _=>.old o) (fun _ _=>.old o) (fun _ _=>.old o) (fun _ _ _=>.old o) (fun _ _ _ _ _=>.old o) (cpFa P) (cpFld P) (cpIdxA P o) (fun t x i=>(@Bool.rec (fun _=>_) (.old o) (.idxS (srcOf x) (srcOf i)) (isStrT P t)))
   (fun _ _ _ _=>.old o) (fun _ _ _ _=>.old o) (fun _ _ _=>.old o) (fun _ _ _ _=>.old o) (fun _ _=>.old o) (fun _ _=>.old o) (fun _=>.old o) (fun _ _ _ _=>.old o) (fun x i=>.ext (srcOf x) i) (cpCall P o)
   (fun _=>.old o) (fun _=>.old o) (fun _=>.old o) (fun _ _=>.old o) (fun _ _ _=>.old o) (fun _ _=>.old o)
end

section
variable {P : Program} {cf : CF} {E : KE} {K : KH} {r : AV} {K1 : KH}
noncomputable def cfo (cf : CF) : FuncId → List AV → KH → Option (AV × KH):=fun g a K=>@Q4.rec (fun _=>Option (AV × KH)) Option.none (fun r K=>some (r,K)) (cf g a K)
theorem cfo_ok {g : FuncId} {a : List AV} (h : cf g a K = .ok r K1) : cfo cf g a K = some (r,K1):=by unfold cfo;rw [h]
theorem cfo_some {g : FuncId} {a : List AV} (h : cfo cf g a K = some (r,K1)) : cf g a K = .ok r K1:=by
 unfold cfo at h
 cases hq : cf g a K with
 | no=>rw [hq] at h;cases h
 | ok x y=>rw [hq] at h;cases h;rfl

def isV : Op → Bool
 | .call { callee:=.value _,.. }=>true
 | _=>false
theorem act_rest {c : FuncId → List AV → KH → Option (AV × KH)} {o : Oper} {env : Env} (h : isV o.op = false) : kAct P c o env K = kRest P o env K:=by
 unfold kAct
 split
 ·rename_i hop;rw [hop] at h;cases h
 ·rfl
theorem old_ok {o : Oper} (ho : isV o.op = false) (h : runI (.old o) P cf E K = .ok r K1) : kAct P (cfo cf) o E.env K = some (r,K1):=by
 rw [act_rest ho,← env4_eq]
 exact oq_ok h
theorem pure_ok {o : Oper} (ho : isV o.op = false) (hk : opKind P o.op = 0 ∨ opKind P o.op = 1) (he : evOp P E.env.at o K.heap = some (r,K.heap)) : kAct P (cfo cf) o E.env K = some (r,K):=by
 rw [act_rest ho]
 exact rest01 he hk

theorem kindEq {k k' : IntKind} (h : Nat.beq (IntKind.ctorIdx k) (IntKind.ctorIdx k') = true) : k = k':=by
 cases k <;> cases k' <;> first | rfl | exact absurd (show false = true from h) (by decide)
theorem evBin_int {op : BinOp} (hs : isShift op = false) {t : TypeId} {x y : Operand} {k : IntKind} {m n : Int} : evBin P op t x y (.int k m) (.int k n) = evInt op k m n:=by
 cases op <;> first | exact absurd (show true = false from hs) (by decide) | simp [evBin]
theorem evBin_eqS {t : TypeId} {x y : Operand} {m n : List Nat} : evBin P .eql t x y (.str m) (.str n) = some (.bool (m == n)):=by simp [evBin,evStr]
theorem evBin_neS {t : TypeId} {x y : Operand} {m n : List Nat} : evBin P .neq t x y (.str m) (.str n) = some (.bool (!(m == n))):=by simp [evBin,evStr]
theorem op11 {op : BinOp} (h : Nat.beq (BinOp.ctorIdx op) 11 = true) : op = .eql:=by
 cases op <;> first | rfl | exact absurd (show false = true from h) (by decide)
theorem op12 {op : BinOp} (h : Nat.beq (BinOp.ctorIdx op) 12 = true) : op = .neq:=by
 cases op <;> first | rfl | exact absurd (show false = true from h) (by decide)
theorem blt8 {b : Builtin} (h : Nat.beq (Builtin.ctorIdx b) 8 = true) : b = .len:=by
 cases b <;> first | rfl | exact absurd (show false = true from h) (by decide)
theorem one1_some {α : Type} {l : List α} {x : α} (h : one1 l = some x) : l = [x]:=by
 match l,h with
 | [],h=>cases h
 | [y],h=>cases h;rfl
 | _ :: _ :: _,h=>cases h

theorem binS_ok {op : BinOp} {t : TypeId} {u v : Operand} {a b : AV} (h : binS op P t u v K a b = .ok r K1) : evBin P op t u v a b = some r ∧ K1 = K:=by
 obtain ⟨x,h1,h2⟩:=oElim_no h
 cases h2
 exact ⟨h1,rfl⟩
theorem xBin_ok {op : BinOp} (hs : isShift op = false) {t : TypeId} {u v : Operand} (h : xBin op t u v (srcOf u) (srcOf v) P cf E K = .ok r K1) : evBin P op t u v (E.env.at u) (E.env.at v) = some r ∧ K1 = K:=by
 unfold xBin at h
 rw [rd_eq,rd_eq] at h
 rcases onInt_ok h with ⟨k,m,hx,h⟩ | h
 ·rcases onInt_no h with ⟨k',n,hy,h⟩
  obtain ⟨hk,h⟩:=bqN h
  obtain ⟨x,h1,h2⟩:=oElim_no h
  cases h2
  rw [int4_eq] at h1
  rw [hx,hy,← kindEq hk,evBin_int hs]
  exact ⟨h1,rfl⟩
 ·rcases onStr_ok h with ⟨s,hx,h⟩ | h
  ·rcases onStr_no h with ⟨s',hy,h⟩
   unfold binT at h
   rcases bqQ h with ⟨h1,h⟩ | ⟨_,h⟩
   ·obtain rfl:=op11 h1
    cases h
    rw [hx,hy,evBin_eqS,eqS_eq]
    exact ⟨rfl,rfl⟩
   ·rcases bqQ h with ⟨h1,h⟩ | ⟨_,h⟩
    ·obtain rfl:=op12 h1
     cases h
     rw [hx,hy,evBin_neS,bNot_eq,eqS_eq]
     exact ⟨rfl,rfl⟩
    ·exact binS_ok h
  ·exact binS_ok h

theorem map_rd (E : KE) (l : List Operand) : map4 (rd E) (map4 srcOf l) = l.map E.env.at:=by
 rw [map4_eq,map4_eq,List.map_map]
 exact List.map_congr_left fun x _=>rd_eq E x
theorem apN_eq (cap l : List AV) : apN cap l = l ++ cap:=by
 unfold apN
 cases cap with
 | nil=>simp
 | cons a m=>exact app4_eq (a :: m) l
theorem onG_ok {f : Fn} {k : FuncId → Q4} (h : onG f k = .ok r K1) : ∃ g,f = .func g ∧ k g = .ok r K1:=by
 cases f with
 | func g=>exact ⟨g,rfl,h⟩
 | method n=>exact noOk h
 | methodOf t n=>exact noOk h
 | via t p f b=>exact noOk h
 | yield l=>exact noOk h
end
end Go.Ev
set_option linter.unusedVariables false
set_option linter.unusedSimpArgs false
namespace Go.Ev
section
variable {P : Program} {cf : CF} {E : KE} {K : KH} {r : AV} {K1 : KH}

theorem opCall_ok {d : Option Tmp} {c : Call} {ty : TypeId} {p : String} {af : Array Edge} {gd : Option (Nat × Bool)} (h : runI (cpCall P ⟨d,.call c,ty,p,af,gd⟩ c) P cf E K = .ok r K1) : kAct P (cfo cf) ⟨d,.call c,ty,p,af,gd⟩ E.env K = some (r,K1):=by
 obtain ⟨ce,args,ts⟩:=c
 cases ce with
 | value f=>
  have h : xCall (srcOf f) (map4 srcOf args.toList) P cf E K = .ok r K1:=h
  unfold xCall at h
  rcases onFunc_no h with ⟨g,first,cap,hf,h⟩
  obtain ⟨g,rfl,h⟩:=onG_ok h
  rw [rd_eq] at hf
  unfold kAct
  simp only [hf]
  rw [map_rd,apN_eq,app4_eq,← List.append_assoc] at h
  exact cfo_ok h
 | invoke f m=>exact old_ok rfl h
 | builtin b=>
  have h : runI (@Bool.rec (fun _=>Ins) (.old ⟨d,.call ⟨.builtin b,args,ts⟩,ty,p,af,gd⟩) (cpLen P ⟨d,.call ⟨.builtin b,args,ts⟩,ty,p,af,gd⟩ ⟨.builtin b,args,ts⟩) (Nat.beq (Builtin.ctorIdx b) 8)) P cf E K = .ok r K1:=h
  cases hb : Nat.beq (Builtin.ctorIdx b) 8 with
  | false=>rw [hb] at h;exact old_ok rfl h
  | true=>
   rw [hb] at h
   obtain rfl:=blt8 hb
   have h : runI (cpLen P ⟨d,.call ⟨.builtin .len,args,ts⟩,ty,p,af,gd⟩ ⟨.builtin .len,args,ts⟩) P cf E K = .ok r K1:=h
   unfold cpLen at h
   simp only at h
   cases ho : one1 args.toList with
   | none=>rw [ho] at h;exact old_ok rfl h
   | some x=>
    rw [ho] at h
    have ho:=one1_some ho
    cases ht : ts[0]? with
    | none=>rw [ht] at h;exact old_ok rfl h
    | some t=>
     rw [ht] at h
     have h : runI (@Bool.rec (fun _=>Ins) (@Bool.rec (fun _=>Ins) (.old ⟨d,.call ⟨.builtin .len,args,ts⟩,ty,p,af,gd⟩) (.lenL ⟨d,.call ⟨.builtin .len,args,ts⟩,ty,p,af,gd⟩ (srcOf x)) (isSlT P t)) (.lenS (srcOf x)) (isStrT P t)) P cf E K = .ok r K1:=h
     have hev : ∀ G : Heap,evOp P E.env.at ⟨d,.call ⟨.builtin .len,args,ts⟩,ty,p,af,gd⟩ G = evBuiltin P G .len ts [E.env.at x]:=fun G=>by simp only [evOp,ho,List.map_cons,List.map_nil]
     cases hs : isStrT P t with
     | true=>
      rw [hs] at h
      have h : xLenS (srcOf x) P cf E K = .ok r K1:=h
      unfold xLenS at h
      rw [rd_eq] at h
      rcases onStr_no h with ⟨s,hx,h⟩
      cases h
      refine pure_ok rfl (.inr rfl) ?_
      rw [hev,hx]
      have hu : P.underlying t = some .string:=by
       unfold isStrT at hs
       split at hs
       ·assumption
       ·cases hs
      simp only [evBuiltin,ht,Option.bind_some,hu]
      rw [len4_eq]
      rfl
     | false=>
      rw [hs] at h
      cases hl : isSlT P t with
      | false=>rw [hl] at h;exact old_ok rfl h
      | true=>
       rw [hl] at h
       have h : xLenL ⟨d,.call ⟨.builtin .len,args,ts⟩,ty,p,af,gd⟩ (srcOf x) P cf E K = .ok r K1:=h
       obtain ⟨e,hu⟩ : ∃ e,P.underlying t = some (.slice e):=by
        unfold isSlT elemOfSlice at hl
        split at hl
        ·exact ⟨_,by assumption⟩
        ·cases hl
       unfold xLenL at h
       rw [rd_eq] at h
       rcases onSl_ok h with ⟨b,o,n,c,ex,g,hx,h⟩ | ⟨hx,h⟩ | h
       ·cases h
        refine pure_ok rfl (.inr rfl) ?_
        rw [hev,hx]
        simp only [evBuiltin,ht,Option.bind_some,hu]
        rfl
       ·cases h
        refine pure_ok rfl (.inr rfl) ?_
        rw [hev,hx]
        simp only [evBuiltin,ht,Option.bind_some,hu]
        rfl
       ·exact old_ok (cf:=cf) rfl h

theorem op4_ok {o : Oper} (h : runI (cpOp P o o.op) P cf E K = .ok r K1) : kAct P (cfo cf) o E.env K = some (r,K1):=by
 obtain ⟨d,op,ty,p,af,gd⟩:=o
 cases op with
 | move x=>
  have h : xMv (srcOf x) P cf E K = .ok r K1:=h
  unfold xMv at h
  rw [rd_eq] at h
  cases h
  exact pure_ok rfl (.inl rfl) (by simp only [evOp])
 | assign x=>
  have h : xMv (srcOf x) P cf E K = .ok r K1:=h
  unfold xMv at h
  rw [rd_eq] at h
  cases h
  exact pure_ok rfl (.inl rfl) (by simp only [evOp])
 | pick c a b=>
  have h : xPick (srcOf c) (srcOf a) (srcOf b) P cf E K = .ok r K1:=h
  unfold xPick at h
  rw [rd_eq,rd_eq,rd_eq] at h
  rcases onBool_no h with ⟨t,hc,h⟩
  cases t <;> cases h <;> exact pure_ok rfl (.inl rfl) (by simp only [evOp,hc];rfl)
 | alloc t=>
  have h : runI (cpAlloc P ⟨d,.alloc t,ty,p,af,gd⟩ t) P cf E K = .ok r K1:=h
  unfold cpAlloc at h
  cases hz : zeroOf P t with
  | none=>rw [hz] at h;exact old_ok rfl h
  | some z=>
   rw [hz] at h
   have h : runI (@Bool.rec (fun _=>Ins) (.alloc t z.cells (len4 z.cells)) (.old ⟨d,.alloc t,ty,p,af,gd⟩) z.isUndef) P cf E K = .ok r K1:=h
   cases hu : z.isUndef with
   | true=>rw [hu] at h;exact old_ok rfl h
   | false=>
    rw [hu] at h
    have h : xAlloc t z.cells (len4 z.cells) P cf E K = .ok r K1:=h
    unfold xAlloc at h
    obtain ⟨hb,h⟩:=bqN h
    have hb:=Nat.le_of_ble_eq_true hb
    rw [new_eq hb,len4_eq] at h
    cases h
    rw [act_rest rfl]
    refine restN (x:=.row t z.cells.length [z.cells] 0 0) ?_ (.inl rfl) hb
    simp only [evOp,hz,hu]
    rfl
 | load t x=>
  have h : runI (cpLoad P t x) P cf E K = .ok r K1:=h
  unfold cpLoad at h
  cases hag : aggOf P t with
  | none=>rw [hag] at h;exact noOk h
  | some b=>
   rw [hag] at h
   cases b with
   | true=>
    have h : runI (oElim .bad (fun n=>.ldA n (srcOf x)) (szOf P t)) P cf E K = .ok r K1:=h
    cases hs : szOf P t with
    | none=>rw [hs] at h;exact noOk h
    | some n=>
     rw [hs] at h
     have h : xLdA n (srcOf x) P cf E K = .ok r K1:=h
     unfold xLdA at h
     rw [rd_eq] at h
     obtain ⟨cs,h1,h⟩:=ld_ok h
     cases h
     exact pure_ok rfl (.inr rfl) (by simp only [evOp,hag,hs,h1];rfl)
   | false=>
    have h : xLd1 (srcOf x) P cf E K = .ok r K1:=h
    unfold xLd1 at h
    rw [rd_eq] at h
    obtain ⟨v,h1,h⟩:=ld1_ok h
    cases h
    refine pure_ok rfl (.inr rfl) ?_
    simp only [evOp,hag,h1]
 | store t a x=>
  have h : runI (cpStore P ⟨d,.store t a x,ty,p,af,gd⟩ t a x) P cf E K = .ok r K1:=h
  unfold cpStore at h
  cases hag : aggOf P t with
  | none=>rw [hag] at h;exact old_ok rfl h
  | some b=>
   rw [hag] at h
   have hsz : ∀ {b' : Nat},(E.env.at a).rowOf = b' → turns E.env.at ⟨d,.store t a x,ty,p,af,gd⟩ = b':=fun e=>e
   cases b with
   | true=>
    have h : runI (oElim .bad (fun n=>.stA n (srcOf a) (srcOf x)) (szOf P t)) P cf E K = .ok r K1:=h
    cases hs : szOf P t with
    | none=>rw [hs] at h;exact noOk h
    | some n=>
     rw [hs] at h
     have h : xStA n (srcOf a) (srcOf x) P cf E K = .ok r K1:=h
     unfold xStA at h
     rw [rd_eq,rd_eq] at h
     rcases onAgg_no h with ⟨cs,hx,h⟩
     obtain ⟨hn,h⟩:=bqN h
     have hn:=Nat.eq_of_beq_eq_true hn
     rw [len4_eq] at hn
     obtain ⟨b,y,h1,h2,h3,rfl,rfl⟩:=st_ok hn h
     rw [act_rest rfl]
     refine restS ?_ rfl (hsz h1) h3
     simp only [evOp,hx,hs,AV.isUndef,AV.cells,h2,hn]
     simp
   | false=>
    have h : runI (oElim .bad (fun n=>@Bool.rec (fun _=>Ins) .bad (.st1 (srcOf a) (srcOf x)) (Nat.beq n 1)) (szOf P t)) P cf E K = .ok r K1:=h
    cases hs : szOf P t with
    | none=>rw [hs] at h;exact noOk h
    | some n=>
     rw [hs] at h
     have h : runI (@Bool.rec (fun _=>Ins) .bad (.st1 (srcOf a) (srcOf x)) (Nat.beq n 1)) P cf E K = .ok r K1:=h
     cases hn : Nat.beq n 1 with
     | false=>rw [hn] at h;exact noOk h
     | true=>
      rw [hn] at h
      have hn:=Nat.eq_of_beq_eq_true hn
      subst hn
      have h : xSt1 (srcOf a) (srcOf x) P cf E K = .ok r K1:=h
      unfold xSt1 at h
      rw [rd_eq,rd_eq] at h
      obtain ⟨b,y,h1,h2,h3,hc,rfl,rfl⟩:=st1_ok h
      rw [act_rest rfl]
      refine restS ?_ rfl (hsz h1) h3
      have hcl : (E.env.at x).cells = [E.env.at x] ∧ (E.env.at x).isUndef = false:=by
       generalize E.env.at x = v at hc
       cases v <;> first | exact ⟨rfl,rfl⟩ | cases hc
      simp only [evOp,hs,hcl.1,hcl.2,h2]
      simp
 | nilCheck x=>
  have h : xNil (srcOf x) P cf E K = .ok r K1:=h
  unfold xNil at h
  rw [rd_eq] at h
  rcases onAddr_no h with ⟨b,i,o,g,hx,h⟩ | ⟨cs,o,hx,h⟩ <;> cases h <;> exact pure_ok rfl (.inl rfl) (by simp only [evOp,hx])
 | binOp op t x y u=>
  have h : runI (@Bool.rec (fun _=>Ins) (.bin op t x y (srcOf x) (srcOf y)) (.old ⟨d,.binOp op t x y u,ty,p,af,gd⟩) (isShift op)) P cf E K = .ok r K1:=h
  cases hs : isShift op with
  | true=>rw [hs] at h;exact old_ok rfl h
  | false=>
   rw [hs] at h
   obtain ⟨h1,rfl⟩:=xBin_ok (cf:=cf) hs h
   exact pure_ok rfl (.inl rfl) (by simp only [evOp,h1];rfl)
 | unOp op t x=>
  cases op with
  | not=>
   have h : xNot (srcOf x) P cf E K = .ok r K1:=h
   unfold xNot at h
   rw [rd_eq] at h
   rcases onBool_no h with ⟨b,hx,h⟩
   rw [bNot_eq] at h
   cases h
   exact pure_ok rfl (.inl rfl) (by simp only [evOp,hx,evUn];rfl)
  | neg=>exact old_ok rfl h
  | xor=>exact old_ok rfl h
  | plus=>exact old_ok rfl h
 | fieldAddr s x f=>
  have h : runI (cpFa P s x f) P cf E K = .ok r K1:=h
  unfold cpFa at h
  cases hf : fieldOf P s f with
  | none=>rw [hf] at h;exact noOk h
  | some fd=>
   rw [hf] at h
   have h : runI (oElim .bad (fun n=>@Bool.rec (fun _=>Ins) (.fa fd.offset (srcOf x)) .bad (Nat.beq n 0)) (szOf P fd.type)) P cf E K = .ok r K1:=h
   cases hs : szOf P fd.type with
   | none=>rw [hs] at h;exact noOk h
   | some n=>
    rw [hs] at h
    have h : runI (@Bool.rec (fun _=>Ins) (.fa fd.offset (srcOf x)) .bad (Nat.beq n 0)) P cf E K = .ok r K1:=h
    rw [beqN] at h
    by_cases hn : n = 0
    ·rw [decide_eq_true hn] at h;exact noOk h
    ·rw [decide_eq_false hn] at h
     have h : xFa fd.offset (srcOf x) P cf E K = .ok r K1:=h
     unfold xFa at h
     rw [rd_eq] at h
     rcases onAddr_no h with ⟨b,i,o,g,hx,h⟩ | ⟨cs,o,hx,h⟩ <;> cases h <;> exact pure_ok rfl (.inl rfl) (by simp only [evOp,hx,hf,hs];rw [if_neg hn];rfl)
 | field s x f=>
  have h : runI (cpFld P s x f) P cf E K = .ok r K1:=h
  unfold cpFld at h
  cases hf : fieldOf P s f with
  | none=>rw [hf] at h;exact noOk h
  | some fd=>
   rw [hf] at h
   have h : runI (oElim .bad (fun b=>@Bool.rec (fun _=>Ins) (.fld1 fd.offset (srcOf x)) (oElim .bad (fun n=>.fldA fd.offset n (srcOf x)) (szOf P fd.type)) b) (aggOf P fd.type)) P cf E K = .ok r K1:=h
   cases hag : aggOf P fd.type with
   | none=>rw [hag] at h;exact noOk h
   | some b=>
    rw [hag] at h
    cases b with
    | true=>
     have h : runI (oElim .bad (fun n=>.fldA fd.offset n (srcOf x)) (szOf P fd.type)) P cf E K = .ok r K1:=h
     cases hs : szOf P fd.type with
     | none=>rw [hs] at h;exact noOk h
     | some n=>
      rw [hs] at h
      have h : xFldA fd.offset n (srcOf x) P cf E K = .ok r K1:=h
      unfold xFldA at h
      rw [rd_eq] at h
      rcases onAgg_no h with ⟨cs,hx,h⟩
      obtain ⟨hl,h⟩:=bqN h
      have hl : fd.offset + n ≤ len4 cs:=Nat.le_of_ble_eq_true hl
      rw [len4_eq] at hl
      rw [sub4_eq] at h
      cases h
      refine pure_ok rfl (.inl rfl) ?_
      simp only [evOp,hf,hx,partOf,hag,hs]
      rw [if_pos hl]
      rfl
    | false=>
     have h : xFld1 fd.offset (srcOf x) P cf E K = .ok r K1:=h
     unfold xFld1 at h
     rw [rd_eq] at h
     rcases onAgg_no h with ⟨cs,hx,h⟩
     obtain ⟨v,hv,h⟩:=oElim_no h
     rw [nth4_eq] at hv
     cases h
     refine pure_ok rfl (.inl rfl) ?_
     simp only [evOp,hf,hx,partOf,hag,hv]
     rfl
 | indexAddr t x i=>
  have h : runI (cpIdxA P ⟨d,.indexAddr t x i,ty,p,af,gd⟩ t x i) P cf E K = .ok r K1:=h
  unfold cpIdxA at h
  cases he : elemOfSlice P t with
  | none=>rw [he] at h;exact old_ok rfl h
  | some e=>
   rw [he] at h
   have h : runI (oElim (.old ⟨d,.indexAddr t x i,ty,p,af,gd⟩) (fun sz=>.idxA sz (srcOf x) (srcOf i)) (szOf P e)) P cf E K = .ok r K1:=h
   cases hs : szOf P e with
   | none=>rw [hs] at h;exact old_ok rfl h
   | some sz=>
    rw [hs] at h
    have h : xIdxA sz (srcOf x) (srcOf i) P cf E K = .ok r K1:=h
    unfold xIdxA at h
    rw [rd_eq,rd_eq] at h
    rcases onSl_no h with ⟨b,off,len,c,ex,g,hx,h⟩ | ⟨hx,h⟩
    ·rcases onInt_no h with ⟨k,n,hi,h⟩
     cases n with
     | negSucc m=>exact noOk h
     | ofNat n=>
      obtain ⟨hl,h⟩:=bqN h
      have hl : n + 1 ≤ len:=Nat.le_of_ble_eq_true hl
      obtain ⟨ty',esz,els,gen,wgen,h1,h⟩:=row_ok h
      obtain ⟨h2,h⟩:=bqN h
      obtain ⟨h3,h⟩:=bqN h
      have h2:=Nat.eq_of_beq_eq_true h2
      have h3:=Nat.le_of_ble_eq_true h3
      cases h
      have hu : P.underlying t = some (.slice e):=by
       unfold elemOfSlice at he
       split at he
       ·cases he;assumption
       ·cases he
      refine pure_ok rfl (.inr rfl) ?_
      simp only [evOp,hx,hi,evIndexAddr,hu,hs,Heap.eszOf,h1]
      rw [if_pos h3,if_pos ⟨by simp only [Int.ofNat_eq_natCast];omega,by simp only [Int.ofNat_eq_natCast];omega,by rw [h2]⟩]
      rfl
    ·exact noOk h
 | index t x i=>
  have h : runI (@Bool.rec (fun _=>Ins) (.old ⟨d,.index t x i,ty,p,af,gd⟩) (.idxS (srcOf x) (srcOf i)) (isStrT P t)) P cf E K = .ok r K1:=h
  cases hs : isStrT P t with
  | false=>rw [hs] at h;exact old_ok rfl h
  | true=>
   rw [hs] at h
   have h : xIdxS (srcOf x) (srcOf i) P cf E K = .ok r K1:=h
   unfold xIdxS at h
   rw [rd_eq,rd_eq] at h
   rcases onStr_no h with ⟨s,hx,h⟩
   rcases onInt_no h with ⟨k,n,hi,h⟩
   cases n with
   | negSucc m=>exact noOk h
   | ofNat n=>
    obtain ⟨c,hc,h⟩:=oElim_no h
    rw [nth4_eq] at hc
    cases h
    have hu : P.underlying t = some .string:=by
     unfold isStrT at hs
     split at hs
     ·assumption
     ·cases hs
    refine pure_ok rfl (.inl rfl) ?_
    simp only [evOp,hx,hi,evIndex,hu]
    rw [if_pos (by simp only [Int.ofNat_eq_natCast];omega),show (Int.ofNat n).toNat = n from rfl,hc]
    rfl
 | extract x i=>
  have h : xExt (srcOf x) i P cf E K = .ok r K1:=h
  unfold xExt at h
  rw [rd_eq] at h
  rcases onTup_no h with ⟨vs,hx,h⟩
  obtain ⟨v,hv,h⟩:=oElim_no h
  rw [nth4_eq] at hv
  cases h
  exact pure_ok rfl (.inl rfl) (by simp only [evOp,hx,hv];rfl)
 | call c=>exact opCall_ok h
 | _=>exact old_ok rfl h
end

inductive G4 where
 | none
 | on (s : Src) (w : Bool)
 | bad
noncomputable def gdOf (ops : Array Oper) : Option (Nat × Bool) → G4:=oElim .none (fun p=>oElim .bad (fun d=>.on (.t (pathOf d)) p.2) ((ops[p.1]?).bind (·.dst)))
noncomputable def isNilL (k : Q4) (l : List AV) : Q4:=@List.rec AV (fun _=>Q4) k (fun _ _ _=>.no) l
noncomputable def runG (g : G4) (E : KE) (K : KH) (k : Q4) : Q4:=
 @G4.rec (fun _=>Q4) k (fun s w=>onBT (rd E s) (fun b=>(@Bool.rec (fun _=>_) (.ok (.tuple []) K) (k) ((@Bool.rec (fun _=>_) (bNot w) (w) (b))))) (fun l=>isNilL (.ok (.tuple []) K) l) .no) .no g

theorem runG_ok {P : Program} {cf : CF} {ops : Array Oper} {o : Oper} {E : KE} {K : KH} {r : AV} {K1 : KH} (h : runG (gdOf ops o.guard) E K (runI (cpOp P o o.op) P cf E K) = .ok r K1) : kOne P (cfo cf) ops o E K = some (r,K1):=by
 have hrun : wantedA ops E.env o = some true → runI (cpOp P o o.op) P cf E K = .ok r K1 → kOne P (cfo cf) ops o E K = some (r,K1):=fun hw h=>by
  rw [kOne_act hw];exact op4_ok h
 have hskip : wantedA ops E.env o = some false → kOne P (cfo cf) ops o E K = some (.tuple [],K):=fun hw=>by
  unfold kOne;rw [hw]
 cases hg : o.guard with
 | none=>
  rw [hg] at h
  exact hrun (by unfold wantedA;rw [hg]) h
 | some p=>
  obtain ⟨j,w⟩:=p
  rw [hg] at h
  cases hd : (ops[j]?).bind (·.dst) with
  | none=>
   have h : runG (oElim .bad (fun d=>.on (.t (pathOf d)) w) ((ops[j]?).bind (·.dst))) E K (runI (cpOp P o o.op) P cf E K) = .ok r K1:=h
   rw [hd] at h;exact noOk h
  | some d=>
   have h : runG (oElim .bad (fun d=>.on (.t (pathOf d)) w) ((ops[j]?).bind (·.dst))) E K (runI (cpOp P o o.op) P cf E K) = .ok r K1:=h
   rw [hd] at h
   have h : onBT (orU (getP (pathOf d) E)) (fun b=>@Bool.rec (fun _=>Q4) (.ok (.tuple []) K) (runI (cpOp P o o.op) P cf E K) (@Bool.rec (fun _=>Bool) (bNot w) w b)) (fun l=>isNilL (.ok (.tuple []) K) l) .no = .ok r K1:=h
   rw [rdT] at h
   have hwa : ∀ v,E.env d = v → wantedA ops E.env o = (match v with | .bool b=>some (b == w) | .tuple []=>some false | _=>none):=fun v hv=>by
    subst hv
    unfold wantedA
    rw [hg]
    simp only [hd]
    generalize E.env d = v
    cases v with
    | tuple l=>cases l <;> rfl
    | _=>rfl
   rcases onBT_no h with ⟨b,hv,h⟩ | ⟨l,hv,h⟩
   ·have hb : (@Bool.rec (fun _=>Bool) (bNot w) w b) = (b == w):=by cases b <;> cases w <;> rfl
    have hw:=hwa _ hv
    simp only at hw
    rw [← hb] at hw
    rcases bqQ h with ⟨h1,h⟩ | ⟨h1,h⟩
    ·rw [h1] at hw;exact hrun hw h
    ·rw [h1] at hw
     cases h
     exact hskip hw
   ·cases l with
    | nil=>
     cases h
     exact hskip (hwa _ hv)
    | cons a l=>exact noOk h

inductive S4 where
 | no
 | ok (E : KE) (K : KH)
inductive Ready where
 | mk (dst : Option Pa) (g : G4) (i : Ins)
noncomputable def dst4 (n : Nat) : Option Tmp → Bool:=oElim true (fun d=>(@Bool.rec (fun _=>_) (false) (Nat.ble d 3999) (Nat.ble (Nat.succ d) n)))
noncomputable def readyOf (P : Program) (n : Nat) (ops : Array Oper) (o : Oper) : Ready:=(@Bool.rec (fun _=>_) (.mk Option.none .bad .bad) (.mk (oElim Option.none (fun d=>some (pathOf d)) o.dst) (gdOf ops o.guard) (cpOp P o o.op)) (dst4 n o.dst))
noncomputable def setE (E : KE) (v : AV) : Option Pa → KE:=oElim E (fun p=>putP v p E)
noncomputable def qS (q : Q4) : (AV → KH → S4) → S4:=@Q4.rec (fun _=>(AV → KH → S4) → S4) (fun _=>.no) (fun r K k=>k r K) q
noncomputable def one4 (P : Program) (cf : CF) (E : KE) (K : KH) (k : KE → KH → S4) : Ready → S4:=@Ready.rec (fun _=>S4) (fun d g i=>qS (runG g E K (runI i P cf E K)) (fun r K1=>k (setE E r d) K1))
noncomputable def kS4 (P : Program) (cf : CF) : List Ready → KE → KH → S4:=@List.rec Ready (fun _=>KE → KH → S4) .ok (fun i _ ih E K=>one4 P cf E K ih i)

theorem qS_ok {q : Q4} {k : AV → KH → S4} {E1 : KE} {K1 : KH} (h : qS q k = .ok E1 K1) : ∃ r K,q = .ok r K ∧ k r K = .ok E1 K1:=by
 cases q with
 | no=>exact nomatch (show S4.no = S4.ok E1 K1 from h)
 | ok r K=>exact ⟨r,K,rfl,h⟩
theorem dst4_ok {n : Nat} {d : Option Tmp} (h : dst4 n d = true) : dstOk n d = true ∧ ∀ t,d = some t → t ≤ 3999:=by
 cases d with
 | none=>exact ⟨rfl,fun t ht=>by cases ht⟩
 | some d=>
  have h : @Bool.rec (fun _=>Bool) false (Nat.ble d 3999) (Nat.ble (d + 1) n) = true:=h
  rw [bleN,bleN] at h
  by_cases h1 : d + 1 ≤ n
  ·rw [decide_eq_true h1] at h
   have h:=of_decide_eq_true h
   exact ⟨decide_eq_true h1,fun t ht=>by cases ht;exact h⟩
  ·rw [decide_eq_false h1] at h;cases h
theorem setE_eq {E : KE} {v : AV} {d : Option Tmp} (h : ∀ t,d = some t → t ≤ 3999) : setE E v (oElim Option.none (fun d=>some (pathOf d)) d) = E.set d v:=by
 cases d with
 | none=>rfl
 | some d=>
  show putP v (pathOf d) E = Tr.put v 12 E d
  exact putP_eq v d E 12 (Nat.lt_of_le_of_lt (Nat.add_le_add_right (h d rfl) 1) (by decide))
theorem one4_ok {P : Program} {cf : CF} {n : Nat} {ops : Array Oper} {o : Oper} {E : KE} {K : KH} {k : KE → KH → S4} {E1 : KE} {K1 : KH} (h : one4 P cf E K k (readyOf P n ops o) = .ok E1 K1) :
  dstOk n o.dst = true ∧ ∃ r K',kOne P (cfo cf) ops o E K = some (r,K') ∧ k (E.set o.dst r) K' = .ok E1 K1:=by
 unfold readyOf at h
 cases hd : dst4 n o.dst with
 | false=>rw [hd] at h;exact nomatch (show S4.no = S4.ok E1 K1 from h)
 | true=>
  rw [hd] at h
  obtain ⟨h1,h2⟩:=dst4_ok hd
  have h : qS (runG (gdOf ops o.guard) E K (runI (cpOp P o o.op) P cf E K)) (fun r K1=>k (setE E r (oElim Option.none (fun d=>some (pathOf d)) o.dst)) K1) = .ok E1 K1:=h
  obtain ⟨r,K',h3,h⟩:=qS_ok h
  rw [setE_eq h2] at h
  exact ⟨h1,r,K',runG_ok h3,h⟩

theorem kS4_ok {P : Program} {cf : CF} {n : Nat} {ops : Array Oper} : ∀ (l : List Oper) (is : List Nat) (hl : is.map (fun i=>ops[i]?) = l.map some) {E : KE} {K : KH} {E1 : KE} {K1 : KH},kS4 P cf (map4 (readyOf P n ops) l) E K = .ok E1 K1 → kS P (cfo cf) n ops is E K = some (E1,K1)
 | [],is,hl,E,K,E1,K1,h=>by
  obtain rfl : is = []:=by simpa using hl
  cases h
  rfl
 | o :: l,is,hl,E,K,E1,K1,h=>by
  cases is with
  | nil=>simp at hl
  | cons i is=>
   simp only [List.map_cons,List.cons.injEq] at hl
   have h : one4 P cf E K (kS4 P cf (map4 (readyOf P n ops) l)) (readyOf P n ops o) = .ok E1 K1:=h
   obtain ⟨h1,r,K',h2,h⟩:=one4_ok h
   have:=kS4_ok l is hl.2 h
   simp only [kS,hl.1,h1,cond_true,h2]
   exact this
theorem range_ops (ops : Array Oper) : (List.range ops.size).map (fun i=>ops[i]?) = ops.toList.map some:=by
 refine List.ext_getElem? fun i=>?_
 simp only [List.getElem?_map]
 by_cases hi : i < ops.size
 ·simp [hi]
 ·simp [hi]
end Go.Ev
