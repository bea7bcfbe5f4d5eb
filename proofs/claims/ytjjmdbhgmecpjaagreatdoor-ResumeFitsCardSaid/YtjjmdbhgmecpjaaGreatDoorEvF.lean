import Derived.Test.YtjjmdbhgmecpjaaGreatDoorEvE
set_option linter.unusedVariables false
set_option linter.unusedSimpArgs false
namespace Go.Ev
section
variable {P : Program} {C : Mem} {E : Emb} (w : World)

theorem strOf_length (s : ByteArray) : (strOf s).length = s.size := by simp [strOf]

theorem lessA_sound : ∀ (a b : List UInt8), Op.bytesLess a b = lessA (a.map UInt8.toNat) (b.map UInt8.toNat)
  | x, [] => by cases x <;> rfl
  | [], _ :: _ => rfl
  | a :: x, b :: y => by
    simp only [Op.bytesLess, List.map_cons, lessA, lessA_sound x y]
    congr 1
    rw [Bool.eq_iff_iff]
    simp only [Bool.and_eq_true, beq_iff_eq, UInt8.toNat_inj]

theorem lessA_str (s s' : ByteArray) : Op.bytesLess s.toList s'.toList = lessA (strOf s) (strOf s') := by
  rw [ByteArray.toList_eq, ByteArray.toList_eq]; exact lessA_sound _ _

theorem evInt_sound {op : BinOp} {k : IntKind} {a b : Int} {r : AV} (h : evInt op k a b = some r) (hs : op ≠ .shl ∧ op ≠ .shr) (t : TypeId) :
    ∃ v, (binOp op t (.int k a) (.int k b)).run P w = .ok v w ∧ Rep C E r v := by
  cases op <;> simp only [evInt] at h
  all_goals first
    | (cases h; done)
    | (exact absurd rfl hs.1)
    | (exact absurd rfl hs.2)
    | (cases h; refine ⟨_, by simp [binOp, Op.intArith, Op.intBits, Op.intCmp]; rfl, by constructor⟩)
    | (cases h; refine ⟨_, rfl, by constructor⟩)
    | (split at h
       · cases h
       · rename_i hb
         cases h
         refine ⟨_, by simp [binOp, Op.intDiv, hb]; rfl, by constructor⟩)

theorem strOf_append (s s' : ByteArray) : strOf (s ++ s') = strOf s ++ strOf s' := by simp [strOf]

theorem evStr_sound {op : BinOp} {a b : ByteArray} {r : AV} (h : evStr op (strOf a) (strOf b) = some r) (t : TypeId) :
    ∃ v, (binOp op t (.string a) (.string b)).run P w = .ok v w ∧ Rep C E r v := by
  cases op <;> simp only [evStr] at h
  case add =>
    split at h
    · rename_i hl
      cases h
      rw [strOf_length, strOf_length] at hl
      have hn : ¬ ((9223372036854775807 : Int) < ((a.size : Int) + (b.size : Int))) := by unfold maxBytes at hl; omega
      refine ⟨.string (a ++ b), ?_, .str _ _ (strOf_append a b)⟩
      simp [binOp, Op.stringOp, IntKind.max, IntKind.signed, IntKind.bits, hn]
    · cases h
  all_goals first
    | (cases h; done)
    | (cases h; refine ⟨_, rfl, ?_⟩; simp only [strOf_beq, ← lessA_str]; constructor)

theorem binOp_eql {t : TypeId} {u v : Value} {r : Bool} (h : (Op.equalIn 10000 t u v).run P w = .ok r w)
    (hi : ∀ k a k' b, ¬ (u = .int k a ∧ v = .int k' b)) (hs : ∀ a b, ¬ (u = .string a ∧ v = .string b)) (hf : ∀ k a, u ≠ .float k a) (hc : ∀ k a b, u ≠ .complex k a b) :
    (binOp .eql t u v).run P w = .ok (.bool r) w ∧ (binOp .neq t u v).run P w = .ok (.bool (!r)) w := by
  constructor <;> (unfold binOp; split <;> first
    | (exact absurd ⟨rfl, rfl⟩ (hi _ _ _ _))
    | (exact absurd ⟨rfl, rfl⟩ (hs _ _))
    | (exact absurd rfl (hf _ _))
    | (exact absurd rfl (hc _ _ _))
    | (simp [Op.equal, Op.maxDepth, h]; done)
    | (simp_all; done)
    | skip)

theorem rep_ne_float {a : AV} {v : Value} (h : Rep C E a v) (ha : a.isUndef = false) : (∀ k n, v ≠ .float k n) ∧ (∀ k m n, v ≠ .complex k m n) := by
  cases h <;> simp_all [AV.isUndef]

def isConst : Operand → Bool
  | .const _ => true
  | _ => false

theorem eqGuard_ok {op : BinOp} {t : TypeId} {x y : Operand} {u v : Value} (h1 : u = .nilIface → v = .nilIface → isConst x = true ∨ isConst y = true)
    (h2 : ∀ xs ys, u = .agg xs → v = .agg ys → P.eqGuardType P.depth t = false) : (eqGuard op t x y u v).run P w = .ok () w := by
  cases op <;> first
    | (simp [eqGuard]; done)
    | (simp only [eqGuard]
       simp only [Bool.not_true, Bool.false_eq_true, if_false]
       split
       · have := h1 rfl rfl
         cases x <;> cases y <;> simp_all [isConst]
       · have := h2 _ _ rfl rfl
         simp [run_program, this]
       · simp)

end
end Go.Ev
