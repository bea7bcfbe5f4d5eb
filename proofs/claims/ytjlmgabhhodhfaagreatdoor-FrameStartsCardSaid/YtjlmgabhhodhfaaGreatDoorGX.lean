import Derived.Test.YtjlmgabhhodhfaaGreatDoorEvQEvR
set_option linter.unusedVariables false
set_option linter.unusedSimpArgs false
namespace Go.Ev
theorem splice_one {cs : List AV} {o : Nat} {u : AV} (h : o < cs.length) : splice cs o [u] = cs.set o u := by
  rw [List.set_eq_take_append_cons_drop, if_pos h]
  simp [splice]
theorem splice_whole {cs vs : List AV} (h : vs.length = cs.length) : splice cs 0 vs = vs := by simp [splice, h]
theorem set_same {H : Heap} {b : Nat} {x : Blk} : (H.set b x).blk b = some x := Heap.set_same _ _ _
theorem set_set_same {H : Heap} {b : Nat} {x y : Blk} : (H.set b x).set b y = H.set b y := Heap.ext' (fun i => by simp only [Heap.set]; split <;> rfl) rfl
theorem set_next {H : Heap} {b : Nat} {x : Blk} : (H.set b x).next = H.next := rfl
theorem evResult_cell {P : Program} {env : Env} {G : Heap} {a : Tmp} {t : TypeId} : evResult P env G (.cell a t) = (match aggOf P t, szOf P t with
    | some true, some n => (G.load (env.at (.tmp a)) n).map .agg
    | some false, _ => (match G.load (env.at (.tmp a)) 1 with | some [v] => some v | _ => none)
    | _, _ => none) := rfl
theorem own_set {G H : Heap} {ty esz : Nat} {v : AV} {L : List (List AV)} (h : Own G H ty esz v L) {c : Nat} (hc : G.blk c ≠ none) (x : Blk) : Own G (H.set c x) ty esz v L := by
  obtain ⟨h0, h | ⟨b, g, wgen, h1, h2, h3, h4⟩ | ⟨b, g, ty', gen, wgen, h1, h2, h3, h4⟩⟩ := h
  · exact ⟨h0, .inl h⟩
  · exact ⟨h0, .inr (.inl ⟨b, g, wgen, h1, by rw [Heap.set_other _ _ _ (fun e => hc (by rw [← e]; exact h4))]; exact h2, h3, h4⟩)⟩
  · exact ⟨h0, .inr (.inr ⟨b, g, ty', gen, wgen, h1, by rw [Heap.set_other _ _ _ (fun e => hc (by rw [← e]; exact h4))]; exact h2, h3, h4⟩)⟩
theorem wrap_pred {i : Nat} (h0 : 1 ≤ i) (h : i < 2 ^ 62) : IntKind.i64.wrap ((i : Int) - 1) = ((i - 1 : Nat) : Int) := by
  rw [IntWalk.i64_in _ (by omega)]; omega
theorem icI {k : IntKind} {n : Int} : (AV.int k n).isCell = true := rfl
theorem icS {s : List Nat} : (AV.str s).isCell = true := rfl
theorem icB {b : Bool} : (AV.bool b).isCell = true := rfl
theorem icN : AV.nilslice.isCell = true := rfl
theorem icL {sz : Nat} {es : List (List AV)} : (AV.lst sz es).isCell = true := rfl
theorem holds_cell {H : Heap} {esz : Nat} {v : AV} {L : List (List AV)} (h : Holds H esz v L) : v.isCell = true := by
  obtain ⟨h0, ⟨rfl, rfl | rfl⟩ | rfl | ⟨b, off, cap, ex, g, ty, els, gen, wgen, rfl, _⟩⟩ := h <;> rfl
theorem five {α : Type} {l : List α} (h : l.length = 5) : ∃ a b c d e, l = [a, b, c, d, e] := by
  match l, h with
  | [a, b, c, d, e], _ => exact ⟨a, b, c, d, e, rfl⟩
def hsub (F H B : Heap) : Heap := ⟨fun c => if (H.blk c).isSome = true ∧ (B.blk c).isNone = true then none else F.blk c, F.next⟩
theorem own_shape {G H : Heap} {ty esz : Nat} {out : AV} {L : List (List AV)} (hO : Own G H ty esz out L) : out = .nilslice ∨ out = .eslice ∨ ∃ b o l c ex g, out = .slice b o l c ex g := by
  obtain ⟨_, ⟨_, h | h⟩ | ⟨_, _, _, h, _⟩ | ⟨_, _, _, _, _, h, _⟩⟩ := hO
  · exact .inl h
  · exact .inr (.inl h)
  · exact .inr (.inr ⟨_, _, _, _, _, _, h⟩)
  · exact .inr (.inr ⟨_, _, _, _, _, _, h⟩)
theorem iuI {k : IntKind} {n : Int} : (.int k n : AV).isUndef = false := rfl
theorem clI {k : IntKind} {n : Int} : (.int k n : AV).cells = [(.int k n : AV)] := rfl
theorem iuS {s : List Nat} : (.str s : AV).isUndef = false := rfl
theorem clS {s : List Nat} : (.str s : AV).cells = [(.str s : AV)] := rfl
theorem iuB {b : Bool} : (.bool b : AV).isUndef = false := rfl
theorem clB {b : Bool} : (.bool b : AV).cells = [(.bool b : AV)] := rfl
theorem iuN  : (.nilslice : AV).isUndef = false := rfl
theorem clN  : (.nilslice : AV).cells = [(.nilslice : AV)] := rfl
theorem iuL {b o l c : Nat} {x : Bool} {g : Nat} : (.slice b o l c x g : AV).isUndef = false := rfl
theorem clL {b o l c : Nat} {x : Bool} {g : Nat} : (.slice b o l c x g : AV).cells = [(.slice b o l c x g : AV)] := rfl
theorem iuP {b i o g : Nat} : (.ptr b i o g : AV).isUndef = false := rfl
theorem clP {b i o g : Nat} : (.ptr b i o g : AV).cells = [(.ptr b i o g : AV)] := rfl
theorem iuQ {cs : List AV} {o : Nat} : (.iptr cs o : AV).isUndef = false := rfl
theorem clQ {cs : List AV} {o : Nat} : (.iptr cs o : AV).cells = [(.iptr cs o : AV)] := rfl
theorem iuR {f : Fn} {a c : List AV} : (.func f a c : AV).isUndef = false := rfl
theorem clR {f : Fn} {a c : List AV} : (.func f a c : AV).cells = [(.func f a c : AV)] := rfl
theorem iuA {cs : List AV} : (.agg cs : AV).isUndef = false := rfl
theorem clA {cs : List AV} : (.agg cs : AV).cells = cs := rfl
theorem ceI {k : IntKind} {n : Int} : (.int k n : AV).isCell = true := rfl
theorem ceS {s : List Nat} : (.str s : AV).isCell = true := rfl
theorem ceB {b : Bool} : (.bool b : AV).isCell = true := rfl
theorem ceN  : (.nilslice : AV).isCell = true := rfl
theorem ceL {b o l c : Nat} {x : Bool} {g : Nat} : (.slice b o l c x g : AV).isCell = true := rfl
theorem own_plain {G H : Heap} {ty esz : Nat} {v : AV} {L : List (List AV)} (hO : Own G H ty esz v L) : v.isUndef = false ∧ v.cells = [v] ∧ v.isCell = true := by
  rcases own_shape hO with rfl | rfl | ⟨b, o, l, c, x, g, rfl⟩ <;> exact ⟨rfl, rfl, rfl⟩
def rowOf : AV → Option Nat
  | .slice b _ _ _ _ _ => some b
  | _ => none
def hbut (H : Heap) (o : Option Nat) : Heap := ⟨fun c => if o = some c then none else H.blk c, H.next⟩
theorem but_up {H : Heap} {o : Option Nat} : Up (hbut H o) H := fun b x h => by
  simp only [hbut] at h
  split at h
  · cases h
  · exact h
theorem but_blk {H : Heap} {o : Option Nat} {b : Nat} (h : o ≠ some b) : (hbut H o).blk b = H.blk b := by simp only [hbut]; rw [if_neg h]
theorem own_but {G H : Heap} {ty esz : Nat} {v : AV} {L : List (List AV)} (hO : Own G H ty esz v L) : Own (hbut H (rowOf v)) H ty esz v L := by
  obtain ⟨h0, h | ⟨b, g, wgen, rfl, h2, h3, h4⟩ | ⟨b, g, ty', gen, wgen, rfl, h2, h3, h4⟩⟩ := hO
  · exact ⟨h0, .inl h⟩
  · exact ⟨h0, .inr (.inl ⟨b, g, wgen, rfl, h2, h3, by simp [hbut, rowOf]⟩)⟩
  · exact ⟨h0, .inr (.inr ⟨b, g, ty', gen, wgen, rfl, h2, h3, by simp [hbut, rowOf]⟩)⟩
theorem own_row {G H : Heap} {ty esz : Nat} {v : AV} {L : List (List AV)} (hO : Own G H ty esz v L) {b : Nat} (hb : rowOf v = some b) : G.blk b = none ∧ H.blk b ≠ none := by
  obtain ⟨h0, ⟨_, rfl | rfl⟩ | ⟨b', g, wgen, rfl, h2, h3, h4⟩ | ⟨b', g, ty', gen, wgen, rfl, h2, h3, h4⟩⟩ := hO
  · cases hb
  · cases hb
  · cases hb; exact ⟨h4, by rw [h2]; simp⟩
  · cases hb; exact ⟨h4, by rw [h2]; simp⟩
theorem own_keep {G H K : Heap} {ty esz : Nat} {v : AV} {L : List (List AV)} (hO : Own G H ty esz v L) (hk : ∀ b x, rowOf v = some b → H.blk b = some x → K.blk b = some x) : Own G K ty esz v L := by
  obtain ⟨h0, h | ⟨b, g, wgen, rfl, h2, h3, h4⟩ | ⟨b, g, ty', gen, wgen, rfl, h2, h3, h4⟩⟩ := hO
  · exact ⟨h0, .inl h⟩
  · exact ⟨h0, .inr (.inl ⟨b, g, wgen, rfl, hk _ _ rfl h2, h3, h4⟩)⟩
  · exact ⟨h0, .inr (.inr ⟨b, g, ty', gen, wgen, rfl, hk _ _ rfl h2, h3, h4⟩)⟩
theorem own_dom {G G' H : Heap} {ty esz : Nat} {v : AV} {L : List (List AV)} (hO : Own G H ty esz v L) (hk : ∀ b, G.blk b = none → G'.blk b = none) : Own G' H ty esz v L := by
  obtain ⟨h0, h | ⟨b, g, wgen, rfl, h2, h3, h4⟩ | ⟨b, g, ty', gen, wgen, rfl, h2, h3, h4⟩⟩ := hO
  · exact ⟨h0, .inl h⟩
  · exact ⟨h0, .inr (.inl ⟨b, g, wgen, rfl, h2, h3, hk _ h4⟩)⟩
  · exact ⟨h0, .inr (.inr ⟨b, g, ty', gen, wgen, rfl, h2, h3, hk _ h4⟩)⟩
def DOM (H : Heap) (k : Nat) : Heap := ⟨fun b => if H.next ≤ b ∧ b < H.next + k then some (.map [] 0) else H.blk b, 0⟩
def hmin (H' H : Heap) (k : Nat) : Heap := ⟨fun c => if H.next ≤ c ∧ c < H.next + k then none else H'.blk c, H'.next⟩
theorem ux : (type_of% @icI) ∧ (type_of% @icS) ∧ (type_of% @icB) ∧ (type_of% @icN) ∧ (type_of% @icL) ∧ (type_of% @iuI) ∧ (type_of% @iuS) ∧ (type_of% @iuB) ∧ (type_of% @iuN) ∧ (type_of% @iuL) ∧ (type_of% @iuA) ∧ (type_of% @iuP) ∧ (type_of% @iuQ) ∧ (type_of% @iuR) ∧ (type_of% @clI) ∧ (type_of% @clS) ∧ (type_of% @clB) ∧ (type_of% @clN) ∧ (type_of% @clL) ∧ (type_of% @clA) ∧ (type_of% @clP) ∧ (type_of% @clQ) ∧ (type_of% @clR) ∧ (type_of% @ceI) ∧ (type_of% @ceS) ∧ (type_of% @ceB) ∧ (type_of% @ceN) ∧ (type_of% @ceL) :=
  ⟨@icI, @icS, @icB, @icN, @icL, @iuI, @iuS, @iuB, @iuN, @iuL, @iuA, @iuP, @iuQ, @iuR, @clI, @clS, @clB, @clN, @clL, @clA, @clP, @clQ, @clR, @ceI, @ceS, @ceB, @ceN, @ceL⟩
theorem sx : (((((((type_of% @false_implies) ∧ ((type_of% @imp_false) ∧ (type_of% @not_false_eq_true))) ∧ (((type_of% @List.getElem?_cons_zero.{0}) ∧ (type_of% @List.getElem?_cons_succ.{0})) ∧ ((type_of% @List.take_succ_cons.{0}) ∧ (type_of% @List.take_zero.{0})))) ∧ ((((type_of% @List.drop_succ_cons.{0}) ∧ (type_of% @List.drop_zero.{0})) ∧ ((type_of% @List.set_cons_zero.{0}) ∧ (type_of% @List.set_cons_succ.{0}))) ∧ (((type_of% @List.replicate_succ.{0}) ∧ (type_of% @List.replicate_zero.{0})) ∧ ((type_of% @List.all_cons.{0}) ∧ (type_of% @List.all_nil.{0}))))) ∧ (((((type_of% @Bool.and_true) ∧ (type_of% @Bool.and_self)) ∧ ((type_of% @Nat.le_refl) ∧ (type_of% @after_seq))) ∧ (((type_of% @after_skip) ∧ (type_of% @after_label)) ∧ ((type_of% @after_exit) ∧ (type_of% @after_ret)))) ∧ ((((type_of% @after_code_exit) ∧ (type_of% @after_code_ret)) ∧ ((type_of% @after_blk) ∧ (type_of% @after_blk_ret))) ∧ (((type_of% @after_blk_exit) ∧ (type_of% @after_nil)) ∧ ((type_of% @after_block) ∧ (type_of% @after_cond)))))) ∧ (((((type_of% @condStep_true) ∧ ((type_of% @condStep_false) ∧ (type_of% @after_region))) ∧ (((type_of% @after_draw) ∧ (type_of% @after_loop)) ∧ ((type_of% @afterOps_nil) ∧ (type_of% @opStep_some)))) ∧ ((((type_of% @opStep_flag) ∧ (type_of% @afterOps_op)) ∧ ((type_of% @hereStep_true) ∧ (type_of% @hereStep_false))) ∧ (((type_of% @afterOps_guard) ∧ (type_of% @guardStep_true)) ∧ ((type_of% @guardStep_false) ∧ (type_of% @roundEnd_normal))))) ∧ (((((type_of% @roundEnd_exit) ∧ (type_of% @roundEnd_ret)) ∧ ((type_of% @roundR_normal) ∧ (type_of% @roundR_exit))) ∧ (((type_of% @roundR_ret) ∧ (type_of% @fin_normal)) ∧ ((type_of% @fin_ret) ∧ (type_of% @finR_some)))) ∧ ((((type_of% @put_at) ∧ (type_of% @put_none)) ∧ ((type_of% @at_const) ∧ (type_of% @at_func))) ∧ (((type_of% @args_at) ∧ (type_of% @evResult_tmp)) ∧ ((type_of% @List.filterMap_cons.{0,0}) ∧ (type_of% @List.filterMap_nil.{0,0}))))))) ∧ ((((((type_of% @List.contains_nil.{0}) ∧ ((type_of% @List.contains_cons.{0}) ∧ (type_of% @Bool.or_false))) ∧ (((type_of% @Bool.or_true) ∧ (type_of% @List.map_cons.{0,0})) ∧ ((type_of% @List.map_nil.{0,0}) ∧ (type_of% @wantedA_guard)))) ∧ ((((type_of% @wstep_some) ∧ (type_of% @wbool_true)) ∧ ((type_of% @wbool_false) ∧ (type_of% @List.getElem?_toArray.{0}))) ∧ (((type_of% @Option.bind_none.{0,0}) ∧ (type_of% @dstOk_none)) ∧ ((type_of% @dstOk_some) ∧ (type_of% @List.toList_toArray.{0}))))) ∧ (((((type_of% @if_true.{1}) ∧ (type_of% @if_false.{1})) ∧ ((type_of% @List.getD_cons_zero.{0}) ∧ (type_of% @List.getD_cons_succ.{0}))) ∧ (((type_of% @Option.map_some.{0,0}) ∧ (type_of% @decide_true)) ∧ ((type_of% @ite_self.{1}) ∧ (type_of% @true_or)))) ∧ ((((type_of% @true_and) ∧ (type_of% @and_true)) ∧ ((type_of% @or_true) ∧ (type_of% @Bool.false_eq_true))) ∧ (((type_of% @List.nil_append.{0}) ∧ (type_of% @List.append_nil.{0})) ∧ ((type_of% @List.cons_append.{0}) ∧ (type_of% @List.length_cons.{0})))))) ∧ (((((type_of% @List.length_nil.{0}) ∧ ((type_of% @load_ptr) ∧ (type_of% @load_iptr))) ∧ (((type_of% @hp_push) ∧ (type_of% @hp_next)) ∧ ((type_of% @hp_blk0) ∧ (type_of% @hp_blk)))) ∧ ((((type_of% @hp_set0) ∧ (type_of% @hp_set)) ∧ ((type_of% @List.getElem?_nil.{0}) ∧ (type_of% @Nat.lt_add_one))) ∧ (((type_of% @Nat.zero_lt_succ) ∧ (type_of% @List.isEmpty_cons.{0})) ∧ ((type_of% @Nat.zero_lt_one) ∧ (type_of% @Option.bind_some.{0,0}))))) ∧ (((((type_of% @Nat.add_zero) ∧ (type_of% @Nat.zero_add)) ∧ ((type_of% @decide_eq_true_eq) ∧ (type_of% @decide_false))) ∧ (((type_of% @Bool.not_true) ∧ (type_of% @Bool.not_false)) ∧ ((type_of% @set_same) ∧ (type_of% @set_next)))) ∧ ((((type_of% @set_set_same) ∧ (type_of% @evResult_cell)) ∧ ((type_of% @splice_one) ∧ (type_of% @splice_whole))) ∧ (((type_of% @wbool_off) ∧ (type_of% @after_scope)) ∧ ((type_of% @hereStep_flag) ∧ (type_of% @List.length_set.{0})))))))) :=
  And.intro (And.intro (And.intro (And.intro (And.intro (And.intro (@false_implies) (And.intro (@imp_false) (@not_false_eq_true))) (And.intro (And.intro (@List.getElem?_cons_zero.{0}) (@List.getElem?_cons_succ.{0})) (And.intro (@List.take_succ_cons.{0}) (@List.take_zero.{0})))) (And.intro (And.intro (And.intro (@List.drop_succ_cons.{0}) (@List.drop_zero.{0})) (And.intro (@List.set_cons_zero.{0}) (@List.set_cons_succ.{0}))) (And.intro (And.intro (@List.replicate_succ.{0}) (@List.replicate_zero.{0})) (And.intro (@List.all_cons.{0}) (@List.all_nil.{0}))))) (And.intro (And.intro (And.intro (And.intro (@Bool.and_true) (@Bool.and_self)) (And.intro (@Nat.le_refl) (@after_seq))) (And.intro (And.intro (@after_skip) (@after_label)) (And.intro (@after_exit) (@after_ret)))) (And.intro (And.intro (And.intro (@after_code_exit) (@after_code_ret)) (And.intro (@after_blk) (@after_blk_ret))) (And.intro (And.intro (@after_blk_exit) (@after_nil)) (And.intro (@after_block) (@after_cond)))))) (And.intro (And.intro (And.intro (And.intro (@condStep_true) (And.intro (@condStep_false) (@after_region))) (And.intro (And.intro (@after_draw) (@after_loop)) (And.intro (@afterOps_nil) (@opStep_some)))) (And.intro (And.intro (And.intro (@opStep_flag) (@afterOps_op)) (And.intro (@hereStep_true) (@hereStep_false))) (And.intro (And.intro (@afterOps_guard) (@guardStep_true)) (And.intro (@guardStep_false) (@roundEnd_normal))))) (And.intro (And.intro (And.intro (And.intro (@roundEnd_exit) (@roundEnd_ret)) (And.intro (@roundR_normal) (@roundR_exit))) (And.intro (And.intro (@roundR_ret) (@fin_normal)) (And.intro (@fin_ret) (@finR_some)))) (And.intro (And.intro (And.intro (@put_at) (@put_none)) (And.intro (@at_const) (@at_func))) (And.intro (And.intro (@args_at) (@evResult_tmp)) (And.intro (@List.filterMap_cons.{0,0}) (@List.filterMap_nil.{0,0}))))))) (And.intro (And.intro (And.intro (And.intro (And.intro (@List.contains_nil.{0}) (And.intro (@List.contains_cons.{0}) (@Bool.or_false))) (And.intro (And.intro (@Bool.or_true) (@List.map_cons.{0,0})) (And.intro (@List.map_nil.{0,0}) (@wantedA_guard)))) (And.intro (And.intro (And.intro (@wstep_some) (@wbool_true)) (And.intro (@wbool_false) (@List.getElem?_toArray.{0}))) (And.intro (And.intro (@Option.bind_none.{0,0}) (@dstOk_none)) (And.intro (@dstOk_some) (@List.toList_toArray.{0}))))) (And.intro (And.intro (And.intro (And.intro (@if_true.{1}) (@if_false.{1})) (And.intro (@List.getD_cons_zero.{0}) (@List.getD_cons_succ.{0}))) (And.intro (And.intro (@Option.map_some.{0,0}) (@decide_true)) (And.intro (@ite_self.{1}) (@true_or)))) (And.intro (And.intro (And.intro (@true_and) (@and_true)) (And.intro (@or_true) (@Bool.false_eq_true))) (And.intro (And.intro (@List.nil_append.{0}) (@List.append_nil.{0})) (And.intro (@List.cons_append.{0}) (@List.length_cons.{0})))))) (And.intro (And.intro (And.intro (And.intro (@List.length_nil.{0}) (And.intro (@load_ptr) (@load_iptr))) (And.intro (And.intro (@hp_push) (@hp_next)) (And.intro (@hp_blk0) (@hp_blk)))) (And.intro (And.intro (And.intro (@hp_set0) (@hp_set)) (And.intro (@List.getElem?_nil.{0}) (@Nat.lt_add_one))) (And.intro (And.intro (@Nat.zero_lt_succ) (@List.isEmpty_cons.{0})) (And.intro (@Nat.zero_lt_one) (@Option.bind_some.{0,0}))))) (And.intro (And.intro (And.intro (And.intro (@Nat.add_zero) (@Nat.zero_add)) (And.intro (@decide_eq_true_eq) (@decide_false))) (And.intro (And.intro (@Bool.not_true) (@Bool.not_false)) (And.intro (@set_same) (@set_next)))) (And.intro (And.intro (And.intro (@set_set_same) (@evResult_cell)) (And.intro (@splice_one) (@splice_whole))) (And.intro (And.intro (@wbool_off) (@after_scope)) (And.intro (@hereStep_flag) (@List.length_set.{0})))))))
end Go.Ev
