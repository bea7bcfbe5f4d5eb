import Derived.Test.YtjlmgabhhodhfaaGreatDoorEvCEvD
import Derived.Laws.Rows
set_option linter.unusedVariables false
set_option linter.unusedSimpArgs false
namespace Go.Ev
section
variable {P : Program} {C : Mem} {E : Emb}

theorem rep_avCell (v : Value) : Rep C E (avCell v) v:=by
 unfold avCell
 split
 case h_9 f xs ys=>
  split
  ·rename_i h
   obtain ⟨h1,h2⟩:=h
   obtain rfl : xs = #[]:=Array.eq_empty_of_size_eq_zero h1
   obtain rfl : ys = #[]:=Array.eq_empty_of_size_eq_zero h2
   exact .func f [] [] [] [] .nil .nil
  ·exact .undef _
 all_goals first
  | exact .bool _
  | exact .int _ _
  | exact .str _ _ rfl
  | exact .nilptr
  | exact .nilslice
  | exact .nilMap
  | exact .nilFunc
  | exact .nilIface
  | exact .undef _

theorem repL_map_avCell : ∀ l : List Value,RepL C E (l.map avCell) l
 | []=>.nil
 | v :: l=>.cons _ v _ l (rep_avCell v) (repL_map_avCell l)

theorem rep_avOf (v : Value) : Rep C E (avOf v) v:=by
 unfold avOf
 split
 ·rename_i cs;simpa using Rep.agg _ _ (repL_map_avCell (C:=C) (E:=E) cs.toList)
 ·rename_i cs;simpa using Rep.tuple _ _ (repL_map_avCell (C:=C) (E:=E) cs.toList)
 ·exact rep_avCell _

theorem rep_cells {a : AV} {v : Value} (h : Rep C E a v) (hu : a.isUndef = false) : RepL C E a.cells v.cells.toList:=by
  cases h
  case agg cs vs h=>simpa [AV.cells,Value.cells] using h
  all_goals first
    | (simp [AV.isUndef] at hu;done)
    | (simp only [AV.cells,Value.cells,List.toList_toArray]
       refine .cons _ _ _ _ ?_ .nil
       constructor <;> assumption)

theorem rep_bool {b : Bool} {v : Value} (h : Rep C E (.bool b) v) : v = .bool b:=by cases h;rfl
theorem rep_int {k : IntKind} {n : Int} {v : Value} (h : Rep C E (.int k n) v) : v = .int k n:=by cases h;rfl
theorem rep_agg {cs : List AV} {v : Value} (h : Rep C E (.agg cs) v) : ∃ vs,v = .agg vs.toArray ∧ RepL C E cs vs:=by cases h;exact ⟨_,rfl,by assumption⟩
theorem rep_tuple {cs : List AV} {v : Value} (h : Rep C E (.tuple cs) v) : ∃ vs,v = .tuple vs.toArray ∧ RepL C E cs vs:=by cases h;exact ⟨_,rfl,by assumption⟩
theorem rep_str {l : List Nat} {v : Value} (h : Rep C E (.str l) v) : ∃ s,v = .string s ∧ strOf s = l:=by cases h;exact ⟨_,rfl,by assumption⟩

theorem repL_take : ∀ {as : List AV} {vs : List Value} (n : Nat),RepL C E as vs → RepL C E (as.take n) (vs.take n)
 | _,_,0,_=>by simpa using RepL.nil
 | _,_,n + 1,.nil=>by simpa using RepL.nil
 | _,_,n + 1,.cons a v as vs h h'=>by simpa using RepL.cons a v _ _ h (repL_take n h')
theorem repL_drop : ∀ {as : List AV} {vs : List Value} (n : Nat),RepL C E as vs → RepL C E (as.drop n) (vs.drop n)
 | _,_,0,h=>by simpa using h
 | _,_,n + 1,.nil=>by simpa using RepL.nil
 | _,_,n + 1,.cons a v as vs h h'=>by simpa using repL_drop n h'
theorem repL_append : ∀ {as bs : List AV} {vs us : List Value},RepL C E as vs → RepL C E bs us → RepL C E (as ++ bs) (vs ++ us)
 | _,_,_,_,.nil,h=>by simpa using h
 | _,_,_,_,.cons a v as vs h h',h2=>by simpa using RepL.cons a v _ _ h (repL_append h' h2)

variable (w : World)

theorem run_isAgg' {t : TypeId} {b : Bool} (h : aggOf P t = some b) : (isAgg t).run P w = .ok b w:=by
 unfold aggOf at h
 cases hu : P.underlying t with
 | none=>simp [hu] at h
 | some d=>
  simp only [hu,Option.map_some,Option.some.injEq] at h
  subst h
  cases d <;> simp [isAgg,run_underlying hu,isAggD]

theorem run_sizeOf' {t : TypeId} {n : Nat} (h : szOf P t = some n) : (sizeOf t).run P w = .ok n w:=by
 unfold szOf at h
 cases hi : P.info? t with
 | none=>simp [hi] at h
 | some i=>simp [hi] at h;simp [sizeOf,typeInfo,hi,h]

theorem run_zeroValue' {t : TypeId} {z : AV} (h : zeroOf P t = some z) : ∃ v,(zeroValue t).run P w = .ok v w ∧ Rep C E z v:=by
 unfold zeroOf at h
 cases hi : P.info? t with
 | none=>simp [hi] at h
 | some i=>
  simp only [hi,Option.bind_some] at h
  cases hz : i.zero with
  | none=>simp [hz] at h
  | some v=>
   simp only [hz,Option.map_some,Option.some.injEq] at h
   exact ⟨v,by simp [zeroValue,typeInfo,hi,hz],h ▸ rep_avOf v⟩

theorem run_part' {t : TypeId} {cs : List AV} {vs : List Value} {off : Nat} {r : AV} (hr : RepL C E cs vs) (h : partOf P t cs off = some r) : ∃ v,(part t vs.toArray off).run P w = .ok v w ∧ Rep C E r v:=by
 unfold partOf at h
 cases ha : aggOf P t with
 | none=>simp [ha] at h
 | some b=>
  cases b with
  | true=>
   cases hs : szOf P t with
   | none=>simp [ha,hs] at h
   | some n=>
    simp only [ha,hs] at h
    split at h
    ·rename_i hle
     cases h
     refine ⟨.agg ((vs.drop off).take n).toArray,?_,.agg _ _ (repL_take n (repL_drop off hr))⟩
     simp only [part,Sem.run_bind,run_isAgg' w ha,Result.andThen_ok,if_true,run_sizeOf' w hs,Sem.run_pure]
     congr 2
     simp [List.take_drop]
    ·cases h
  | false=>
   simp only [ha] at h
   obtain ⟨v,hv,hrep⟩:=hr.get off r h
   refine ⟨v,?_,hrep⟩
   simp [part,run_isAgg' w ha,hv]


theorem strOf_inj {s s' : ByteArray} (h : strOf s = strOf s') : s = s':=by
 unfold strOf at h
 have h2 : s.data.toList = s'.data.toList:=by
  exact (List.map_inj_right (fun a b h=>UInt8.toNat_inj.1 h)).1 h
 cases s;cases s'
 simp at h2
 rw [h2]

theorem strOf_beq (s s' : ByteArray) : (strOf s == strOf s') = (s.toList == s'.toList):=by
 rw [ByteArray.toList_eq,ByteArray.toList_eq]
 rw [Bool.eq_iff_iff]
 simp only [beq_iff_eq]
 constructor
 ·intro h;rw [strOf_inj h]
 ·intro h;unfold strOf;rw [h]


set_option maxHeartbeats 2000000 in
theorem eqA_sound : ∀ (d : Nat) (t : TypeId) (x y : AV) (u v : Value) (r : Bool),eqA P d t x y = some r → Rep C E x u → Rep C E y v → (Op.equalIn d t u v).run P w = .ok r w:=by
  intro d
  induction d with
  | zero=>intro t x y u v r h;simp [eqA] at h
  | succ d ih=>
    intro t x y u v r h hx hy
    have fields : ∀ (fs : List Field) (xs ys : List AV) (us vs : List Value) (r : Bool),eqFields P (eqA P d) xs ys fs = some r → RepL C E xs us → RepL C E ys vs →
        (Op.eqFields d us.toArray vs.toArray fs).run P w = .ok r w:=by
      intro fs
      induction fs with
      | nil=>intro xs ys us vs r h _ _;simp [eqFields] at h;subst h;simp [Op.eqFields]
      | cons f fs ihf=>
        intro xs ys us vs r h hx hy
        simp only [eqFields] at h
        simp only [Op.eqFields]
        split at h
        · rename_i hn
          rw [if_neg (by simpa using hn)]
          exact ihf _ _ _ _ _ h hx hy
        · rename_i hn
          rw [if_pos hn]
          split at h
          · rename_i a b ha hb
            obtain ⟨va,ra,pa⟩:=run_part' w hx ha
            obtain ⟨vb,rb,pb⟩:=run_part' w hy hb
            simp only [Sem.run_bind,ra,rb,Result.andThen_ok]
            split at h
            · rename_i he
              rw [ih _ _ _ _ _ _ he pa pb]
              simp only [Result.andThen_ok,Bool.not_true,Bool.false_eq_true,if_false]
              exact ihf _ _ _ _ _ h hx hy
            · rename_i he
              cases h
              rw [ih _ _ _ _ _ _ he pa pb]
              simp
            · cases h
          · cases h
    rw [eqA.eq_def] at h
    dsimp only at h
    split at h
    case h_25 fs xs ys ht=>
      split at h
      · cases h
      · rename_i hsh
        obtain ⟨us,rfl,hus⟩:=rep_agg hx
        obtain ⟨vs,rfl,hvs⟩:=rep_agg hy
        have hf : P.fieldsOf t = fs:=by simp [Program.fieldsOf,ht]
        rw [run_equalIn_struct w d t us.toArray vs.toArray (by rw [hf];exact ht) (by simpa using hsh),hf]
        exact fields _ _ _ _ _ _ h hus hvs
    all_goals first
      | (cases h;done)
      | (rename_i ht
         cases hx;cases hy
         first
           | (cases h;simp [Op.equalIn,run_underlying ht];done)
           | (split at h <;> first | (cases h;done) | (rename_i hk;cases h;subst hk;simp [Op.equalIn,run_underlying ht];done))
           | (rename_i s1 l1 s2 l2;cases h;subst l1;subst l2;simp [Op.equalIn,run_underlying ht,beq_toListBytes,strOf_beq];done)
           | skip)

end
end Go.Ev
set_option linter.unusedVariables false
set_option linter.unusedSimpArgs false
namespace Go.Ev
section
variable {P : Program} {C : Mem} {E : Emb} (w : World)

theorem strOf_length (s : ByteArray) : (strOf s).length = s.size:=by simp [strOf]

theorem lessA_sound : ∀ (a b : List UInt8),Op.bytesLess a b = lessA (a.map UInt8.toNat) (b.map UInt8.toNat)
 | x,[]=>by cases x <;> rfl
 | [],_ :: _=>rfl
 | a :: x,b :: y=>by
  simp only [Op.bytesLess,List.map_cons,lessA,lessA_sound x y]
  congr 1
  rw [Bool.eq_iff_iff]
  simp only [Bool.and_eq_true,beq_iff_eq,UInt8.toNat_inj]

theorem lessA_str (s s' : ByteArray) : Op.bytesLess s.toList s'.toList = lessA (strOf s) (strOf s'):=by
 rw [ByteArray.toList_eq,ByteArray.toList_eq];exact lessA_sound _ _

theorem evInt_sound {op : BinOp} {k : IntKind} {a b : Int} {r : AV} (h : evInt op k a b = some r) (hs : op ≠ .shl ∧ op ≠ .shr) (t : TypeId) :
    ∃ v,(binOp op t (.int k a) (.int k b)).run P w = .ok v w ∧ Rep C E r v:=by
  cases op <;> simp only [evInt] at h
  all_goals first
    | (cases h;done)
    | (exact absurd rfl hs.1)
    | (exact absurd rfl hs.2)
    | (cases h;refine ⟨_,by simp [binOp,Op.intArith,Op.intBits,Op.intCmp];rfl,by constructor⟩)
    | (cases h;refine ⟨_,rfl,by constructor⟩)
    | (split at h
       · cases h
       · rename_i hb
         cases h
         refine ⟨_,by simp [binOp,Op.intDiv,hb];rfl,by constructor⟩)

theorem strOf_append (s s' : ByteArray) : strOf (s ++ s') = strOf s ++ strOf s':=by simp [strOf]

theorem evStr_sound {op : BinOp} {a b : ByteArray} {r : AV} (h : evStr op (strOf a) (strOf b) = some r) (t : TypeId) :
  ∃ v,(binOp op t (.string a) (.string b)).run P w = .ok v w ∧ Rep C E r v:=by
 cases op <;> simp only [evStr] at h
 case add=>
  split at h
  ·rename_i hl
   cases h
   rw [strOf_length,strOf_length] at hl
   have hn : ¬ ((9223372036854775807 : Int) < ((a.size : Int) + (b.size : Int))):=by unfold maxBytes at hl;omega
   refine ⟨.string (a ++ b),?_,.str _ _ (strOf_append a b)⟩
   simp [binOp,Op.stringOp,IntKind.max,IntKind.signed,IntKind.bits,hn]
  ·cases h
 all_goals first
  | (cases h;done)
  | (cases h;refine ⟨_,rfl,?_⟩;simp only [strOf_beq,← lessA_str];constructor)

theorem binOp_eql {t : TypeId} {u v : Value} {r : Bool} (h : (Op.equalIn 10000 t u v).run P w = .ok r w)
  (hi : ∀ k a k' b,¬ (u = .int k a ∧ v = .int k' b)) (hs : ∀ a b,¬ (u = .string a ∧ v = .string b)) (hf : ∀ k a,u ≠ .float k a) (hc : ∀ k a b,u ≠ .complex k a b) :
  (binOp .eql t u v).run P w = .ok (.bool r) w ∧ (binOp .neq t u v).run P w = .ok (.bool (!r)) w:=by
 constructor <;> (unfold binOp;split <;> first
  | (exact absurd ⟨rfl,rfl⟩ (hi _ _ _ _))
  | (exact absurd ⟨rfl,rfl⟩ (hs _ _))
  | (exact absurd rfl (hf _ _))
  | (exact absurd rfl (hc _ _ _))
  | (simp [Op.equal,Op.maxDepth,h];done)
  | (simp_all;done)
  | skip)

theorem rep_ne_float {a : AV} {v : Value} (h : Rep C E a v) (ha : a.isUndef = false) : (∀ k n,v ≠ .float k n) ∧ (∀ k m n,v ≠ .complex k m n):=by
 cases h <;> simp_all [AV.isUndef]

def isConst : Operand → Bool
 | .const _=>true
 | _=>false

theorem eqGuard_ok {op : BinOp} {t : TypeId} {x y : Operand} {u v : Value} (h1 : u = .nilIface → v = .nilIface → isConst x = true ∨ isConst y = true)
    (h2 : ∀ xs ys,u = .agg xs → v = .agg ys → P.eqGuardType P.depth t = false) : (eqGuard op t x y u v).run P w = .ok () w:=by
  cases op <;> first
    | (simp [eqGuard];done)
    | (simp only [eqGuard]
       simp only [Bool.not_true,Bool.false_eq_true,if_false]
       split
       · have:=h1 rfl rfl
         cases x <;> cases y <;> simp_all [isConst]
       · have:=h2 _ _ rfl rfl
         simp [run_program,this]
       · simp)

end
end Go.Ev
set_option linter.unusedVariables false
set_option linter.unusedSimpArgs false
namespace Go.Ev
section
variable {P : Program} {C : Mem} {E : Emb} (w : World)

theorem eqA_defined {d : Nat} {t : TypeId} {a b : AV} {r : Bool} (h : eqA P d t a b = some r) : a.isUndef = false ∧ b.isUndef = false:=by
 cases d with
 | zero=>simp [eqA] at h
 | succ d=>
  rw [eqA.eq_def] at h
  dsimp only at h
  split at h <;> first | (cases h;done) | exact ⟨rfl,rfl⟩

theorem evBin_sound {op : BinOp} {t : TypeId} {x y : Operand} {a b r : AV} {u v : Value} (h : evBin P op t x y a b = some r) (hu : Rep C E a u) (hv : Rep C E b v) :
    ∃ z,(eqGuard op t x y u v).run P w = .ok () w ∧ (binOp op t u v).run P w = .ok z w ∧ Rep C E r z:=by
  unfold evBin at h
  split at h
  · rename_i k m k' n
    obtain rfl:=rep_int hu
    obtain rfl:=rep_int hv
    split at h
    · cases h
    · rename_i hn
      cases h
      exact ⟨.int k (k.wrap (m * 2 ^ (min n.toNat k.bits))),eqGuard_ok w (by simp) (by simp),by simp [binOp,Op.shift,hn],.int _ _⟩
  · rename_i k m k' n
    obtain rfl:=rep_int hu
    obtain rfl:=rep_int hv
    split at h
    · cases h
    · rename_i hn
      cases h
      exact ⟨.int k (m.fdiv (2 ^ (min n.toNat k.bits))),eqGuard_ok w (by simp) (by simp),by simp [binOp,Op.shift,hn],.int _ _⟩
  · rename_i op k m k' n h1 h2
    obtain rfl:=rep_int hu
    obtain rfl:=rep_int hv
    split at h
    · rename_i hk
      subst hk
      obtain ⟨z,hz,hr⟩:=evInt_sound (C:=C) (E:=E) (P:=P) w h ⟨fun e=>by subst e;simp_all,fun e=>by subst e;simp_all⟩ t
      exact ⟨z,eqGuard_ok w (by simp) (by simp),hz,hr⟩
    · cases h
  · rename_i op m n
    obtain ⟨s,rfl,rfl⟩:=rep_str hu
    obtain ⟨s',rfl,rfl⟩:=rep_str hv
    obtain ⟨z,hz,hr⟩:=evStr_sound (C:=C) (E:=E) (P:=P) w h t
    exact ⟨z,eqGuard_ok w (by simp) (by simp),hz,hr⟩
  all_goals first
    | (cases h;done)
    | (rename_i _ _ hni hns
       split at h
       · rename_i hok
         cases he : eqA P 10000 t a b with
         | none=>simp [he] at h
         | some q=>
           simp only [he,Option.map_some,Option.some.injEq] at h
           subst h
           obtain ⟨hau,hbu⟩:=eqA_defined he
           have hrun:=eqA_sound (C:=C) (E:=E) w 10000 t a b u v q he hu hv
           have hfl:=rep_ne_float hu hau
           have hb:=binOp_eql w hrun (fun k m k' n ⟨e1,e2⟩=>by
               subst e1;subst e2
               cases hu <;> first | (simp [AV.isUndef] at hau;done) | skip
               cases hv <;> first | (simp [AV.isUndef] at hbu;done) | skip
               exact hni _ _ _ _ rfl rfl) (fun m n ⟨e1,e2⟩=>by
               subst e1;subst e2
               cases hu <;> first | (simp [AV.isUndef] at hau;done) | skip
               cases hv <;> first | (simp [AV.isUndef] at hbu;done) | skip
               simp_all) hfl.1 hfl.2
           refine ⟨_,eqGuard_ok w (fun e1 e2=>?_) (fun xs ys e1 e2=>?_),by first | exact hb.1 | exact hb.2,.bool _⟩
           · subst e1;subst e2
             cases hu <;> first | (simp [AV.isUndef] at hau;done) | skip
             cases hv <;> first | (simp [AV.isUndef] at hbu;done) | skip
             cases x <;> cases y <;> simp_all [eqOk,isConst]
           · subst e1;subst e2
             cases hu <;> first | (simp [AV.isUndef] at hau;done) | skip
             cases hv <;> first | (simp [AV.isUndef] at hbu;done) | skip
             simpa [eqOk] using hok
       · cases h)

theorem evUn_sound {op : UnOp} {a r : AV} {u : Value} (h : evUn op a = some r) (hu : Rep C E a u) : ∃ z,(Op.unary op u).run P w = .ok z w ∧ Rep C E r z:=by
 unfold evUn at h
 split at h
 ·rename_i k n
  obtain rfl:=rep_int hu
  cases h
  exact ⟨_,by simp [Op.unary,Op.intArith],.int _ _⟩
 ·rename_i k n
  obtain rfl:=rep_int hu
  cases h
  exact ⟨_,by simp [Op.unary,Op.intBits],.int _ _⟩
 ·rename_i b
  obtain rfl:=rep_bool hu
  cases h
  exact ⟨_,by simp [Op.unary],.bool _⟩
 ·cases h

theorem evConvert_sound {s d : TypeId} {a r : AV} {u : Value} (h : evConvert P s d a = some r) (hu : Rep C E a u) : ∃ z,(convert s d u).run P w = .ok z w ∧ Rep C E r z:=by
 unfold evConvert at h
 split at h
 ·rename_i sd k k' n hs hd
  obtain rfl:=rep_int hu
  cases h
  exact ⟨_,by simp [convert,run_underlying hs,run_underlying hd,Conv.intToInt],.int _ _⟩
 ·rename_i sd l hs hd
  obtain ⟨s',rfl,rfl⟩:=rep_str hu
  cases h
  refine ⟨.string s',?_,.str _ _ rfl⟩
  simp only [convert,Sem.run_bind,run_underlying hs,run_underlying hd,Result.andThen_ok]
  cases sd <;> simp
 ·cases h

theorem boundsOk_iff {l h m : Int} (hb : boundsOk l h m = true) : 0 ≤ l ∧ l ≤ h ∧ h ≤ m:=by
 simp [boundsOk] at hb;exact ⟨hb.1.1,hb.1.2,hb.2⟩

theorem run_sliceBound {k : IntKind} {n : Int} {y : Nat} {code : BoundsCode} (h0 : 0 ≤ n) (h1 : n ≤ y) : (Instr.sliceBound (.int k n) y code).run P w = .ok n.toNat w:=by
 simp [Instr.sliceBound,asIntOf,h0,h1]

theorem run_sliceBounds {isS : Bool} {len cap : Nat} {lo hi : Option Value} {l h : Int} (hlo : (lo = none ∧ l = 0) ∨ ∃ k,lo = some (.int k l)) (hhi : (hi = none ∧ h = len) ∨ ∃ k,hi = some (.int k h))
  (hb : 0 ≤ l ∧ l ≤ h ∧ h ≤ cap) : (Instr.sliceBounds isS len cap lo hi none).run P w = .ok (l.toNat,h.toNat,cap) w:=by
 obtain ⟨b1,b2,b3⟩:=hb
 have hh : (h.toNat : Int) = h:=by omega
 rcases hlo with ⟨rfl,rfl⟩ | ⟨k,rfl⟩ <;> rcases hhi with ⟨rfl,rfl⟩ | ⟨k',rfl⟩
 ·simp [Instr.sliceBounds]
 ·simp only [Instr.sliceBounds,Sem.run_bind,Sem.run_pure,Result.andThen_ok]
  cases isS <;> simp [run_sliceBound (P:=P) w (k:=k') (y:=cap) (by omega : 0 ≤ h) b3]
 ·simp only [Instr.sliceBounds,Sem.run_bind,Sem.run_pure,Result.andThen_ok]
  simp [run_sliceBound (P:=P) w (k:=k) (y:=len) b1 (by omega)]
 ·simp only [Instr.sliceBounds,Sem.run_bind,Sem.run_pure,Result.andThen_ok]
  cases isS <;> simp [run_sliceBound (P:=P) w (k:=k') (y:=cap) (by omega : 0 ≤ h) b3,run_sliceBound (P:=P) w (k:=k) (y:=h.toNat) b1 (by omega)]

theorem run_sliceBounds3 {isS : Bool} {len cap : Nat} {lo : Option Value} {l h m : Int} {kh km : IntKind} (hlo : (lo = none ∧ l = 0) ∨ ∃ k,lo = some (.int k l))
  (hb : 0 ≤ l ∧ l ≤ h ∧ h ≤ m ∧ m ≤ cap) : (Instr.sliceBounds isS len cap lo (some (.int kh h)) (some (.int km m))).run P w = .ok (l.toNat,h.toNat,m.toNat) w:=by
 obtain ⟨b1,b2,b3,b4⟩:=hb
 rcases hlo with ⟨rfl,rfl⟩ | ⟨k,rfl⟩
 ·simp only [Instr.sliceBounds,Sem.run_bind,Sem.run_pure,Result.andThen_ok]
  cases isS <;> simp [run_sliceBound (P:=P) w (k:=km) (y:=cap) (by omega : 0 ≤ m) b4,run_sliceBound (P:=P) w (k:=kh) (y:=m.toNat) (by omega : 0 ≤ h) (by omega)]
 ·simp only [Instr.sliceBounds,Sem.run_bind,Sem.run_pure,Result.andThen_ok]
  cases isS <;> simp [run_sliceBound (P:=P) w (k:=km) (y:=cap) (by omega : 0 ≤ m) b4,run_sliceBound (P:=P) w (k:=kh) (y:=m.toNat) (by omega : 0 ≤ h) (by omega),run_sliceBound (P:=P) w (k:=k) (y:=h.toNat) b1 (by omega)]

theorem optInt_rep {ρ : Operand → AV} {ev : Operand → Value} (hρ : ∀ x,Rep C E (ρ x) (ev x)) {o : Option Operand} {n : Option Int} (h : optInt ρ o = some n) :
  (o = none ∧ n = none) ∨ ∃ k m,n = some m ∧ o.map ev = some (.int k m):=by
 unfold optInt at h
 split at h
 ·cases h;exact .inl ⟨rfl,rfl⟩
 ·rename_i x
  split at h
  ·rename_i k m hx
   cases h
   have:=hρ x
   rw [hx] at this
   exact .inr ⟨k,m,rfl,by simp [rep_int this]⟩
  ·cases h

theorem run_index_string {t : TypeId} (ht : P.underlying t = some .string) {s : ByteArray} {k : IntKind} {n : Int} (h0 : 0 ≤ n) {c : UInt8} (hc : s.data.toList[n.toNat]? = some c) :
  (Instr.index t (.string s) (.int k n)).run P w = .ok (.int .u8 c.toNat) w:=by
 have hc' : s[n.toNat]? = some c:=by
  obtain ⟨hlt,he⟩:=List.getElem?_eq_some_iff.1 hc
  rw [getElem?_pos s n.toNat (by simpa using hlt)]
  have he' : s.data[n.toNat]'(by simpa using hlt) = c:=by simpa using he
  exact congrArg some he'
 simp [Instr.index,asIntOf,run_underlying ht,h0,hc']

theorem evIndex_sound {t : TypeId} {a i r : AV} {u v : Value} (h : evIndex P t a i = some r) (hu : Rep C E a u) (hv : Rep C E i v) : ∃ z,(Instr.index t u v).run P w = .ok z w ∧ Rep C E r z:=by
 unfold evIndex at h
 split at h
 ·rename_i k n
  obtain rfl:=rep_int hv
  split at h
  ·rename_i s ht
   obtain ⟨s',rfl,rfl⟩:=rep_str hu
   split at h
   ·rename_i h0
    cases hc : (strOf s')[n.toNat]? with
    | none=>simp [hc] at h
    | some c=>
     simp only [hc,Option.map_some,Option.some.injEq] at h
     subst h
     unfold strOf at hc
     rw [List.getElem?_map] at hc
     cases hc' : s'.data.toList[n.toNat]? with
     | none=>simp [hc'] at hc
     | some c'=>
      simp only [hc',Option.map_some,Option.some.injEq] at hc
      subst hc
      exact ⟨_,run_index_string w ht h0 hc',.int _ _⟩
   ·cases h
  ·rename_i len e cs ht
   obtain ⟨vs,rfl,hvs⟩:=rep_agg hu
   split at h
   ·rename_i hb
    cases hs : szOf P e with
    | none=>simp [hs] at h
    | some sz=>
     simp only [hs,Option.bind_some] at h
     obtain ⟨z,hz,hr⟩:=run_part' w hvs h
     refine ⟨z,?_,hr⟩
     simp [Instr.index,asIntOf,run_underlying ht,hb,run_sizeOf' w hs,hz]
   ·cases h
  ·cases h
 ·cases h

theorem WRel.esz {w0 : World} {H : Heap} {w : World} (hw : WRel C w0 E H w) {b g s : Nat} (h : H.eszOf b g = some s) {L : Loc} (hL : E.loc b g = some L) : LocOk C E w w0.heap.size L s (match H.blk b with | some (.row _ _ els _ _)=>els | _=>[]):=by
 unfold Heap.eszOf at h
 split at h
 ·rename_i ty esz els gen wgen hb
  split at h
  ·rename_i hg
   cases h
   obtain ⟨L',hL',hl⟩:=(hw.row _ _ _ _ _ _ hb).loc g hg ((hw.dom _ _ _ hL).2.2 _ _ _ _ _ hb)
   rw [hL] at hL';cases hL'
   simpa [hb] using hl
  ·cases h
 ·cases h

theorem evIndexAddr_sound {w0 : World} {H : Heap} (hw : WRel C w0 E H w) {t : TypeId} {a i r : AV} {u v : Value} (h : evIndexAddr P H t a i = some r) (hu : Rep C E a u) (hv : Rep C E i v) :
  ∃ z,(Instr.indexAt t u v).run P w = .ok z w ∧ Rep C E r z:=by
 unfold evIndexAddr at h
 split at h
 ·rename_i k n
  obtain rfl:=rep_int hv
  split at h
  ·rename_i e b off len cap ex g ht
   split at h
   ·rename_i hb
    obtain ⟨hb1,hb2,hes⟩:=hb
    have hb : 0 ≤ n ∧ n < (len : Int):=⟨hb1,hb2⟩
    cases hs : szOf P e with
    | none=>simp [hs] at h
    | some s=>
     simp only [hs,Option.map_some,Option.some.injEq] at h
     subst h
     cases hu with
     | slice _ _ _ _ _ _ L ad rc hL h1 h2 h3 h4 h5 h6 h7=>
      have he:=(hw.esz (by rw [← hes,hs]) hL).sz
      have hrc : 0 < rc:=by omega
      have had:=h6 hrc
      subst had
      refine ⟨_,by simp [Instr.indexAt,asIntOf,run_underlying ht,hb,run_sizeOf' w hs,Addr.add_lit];rfl,?_⟩
      refine .ptr b _ 0 g L _ hL (by omega) (by omega) ?_
      rw [he,Nat.add_zero,show off + n.toNat - L.lo = (off - L.lo) + n.toNat by omega,Nat.add_mul]
      omega
   ·cases h
  ·rename_i e sz es ht
   split at h
   ·rename_i hb
    obtain ⟨h0,hs⟩:=hb
    cases hc : es[n.toNat]? with
    | none=>simp [hc] at h
    | some cs=>
     simp only [hc,Option.map_some,Option.some.injEq] at h
     subst h
     cases hu with
     | lst _ _ blk co len rc ad hE h1 h2 h6=>
      have hlt : n.toNat < es.length:=(List.getElem?_eq_some_iff.1 hc).1
      have hrc : 0 < rc:=by omega
      have had:=h6 hrc
      subst had
      obtain ⟨hl,hm⟩:=hE.get n.toNat cs hc
      have hb : 0 ≤ n ∧ n < (len : Int):=⟨h0,by omega⟩
      refine ⟨_,by simp [Instr.indexAt,asIntOf,run_underlying ht,hb,run_sizeOf' w hs,Addr.add_lit];rfl,?_⟩
      exact .iptr cs 0 blk (co + n.toNat * sz) _ hm rfl
   ·cases h
  ·rename_i len e cs o ht
   split at h
   ·rename_i hb
    cases hs : szOf P e with
    | none=>simp [hs] at h
    | some sz=>
     simp only [hs,Option.map_some,Option.some.injEq] at h
     subst h
     cases hu with
     | iptr _ _ blk co off hm h3=>
      refine ⟨_,by simp [Instr.indexAt,asIntOf,Instr.sureAddr,run_underlying ht,hb,run_sizeOf' w hs,Addr.add_lit];rfl,?_⟩
      exact .iptr cs _ blk co _ hm (by omega)
   ·cases h
  ·cases h
 ·cases h
end
end Go.Ev
