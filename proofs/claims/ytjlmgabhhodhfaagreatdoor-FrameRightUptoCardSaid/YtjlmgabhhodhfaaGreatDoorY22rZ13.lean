import Derived.Test.YtjlmgabhhodhfaaGreatDoorZ11Z12
import Derived.Test.YtjlmgabhhodhfaaGreatDoorEvUEvX
set_option linter.unusedVariables false
set_option linter.unusedSimpArgs false
set_option maxRecDepth 100000
namespace Go.Proofs.T
open Go.Ev

section
variable {P : Program}

theorem shp_bool {n : Nat} {t : TypeId} {xs : List AV} (hu : P.underlying t = some .bool) (h : Shp P n t xs) : ∃ b,xs = [.bool b]:=by
 cases n with
 | zero=>exact h.elim
 | succ n=>simpa [Shp,hu] using h
theorem shp_int {n : Nat} {t : TypeId} {k : IntKind} {xs : List AV} (hu : P.underlying t = some (.int k)) (h : Shp P n t xs) : ∃ x,xs = [.int k x] ∧ k.min ≤ x ∧ x ≤ k.max:=by
 cases n with
 | zero=>exact h.elim
 | succ n=>simpa [Shp,hu] using h
theorem shp_str {n : Nat} {t : TypeId} {xs : List AV} (hu : P.underlying t = some .string) (h : Shp P n t xs) : ∃ s,xs = [.str s]:=by
 cases n with
 | zero=>exact h.elim
 | succ n=>simp [Shp,hu] at h;obtain ⟨l,h1,_⟩:=h;exact ⟨l,h1⟩
theorem shp_slice {n : Nat} {t e : TypeId} {c b : Nat} {xs : List AV} (hu : P.underlying t = some (.slice e)) (hc : P.cellsOf e = c) (hb : P.bytesOf e = b) (hc0 : 0 < c) (h : Shp P n t xs) :
  ∃ m v L,xs = [v] ∧ (∀ H,Holds H c v L) ∧ L.length * b ≤ reachBytes ∧ (∀ x ∈ L,Shp P m e x) ∧ n = m + 1 ∧ AV.isCell v = true:=by
 cases n with
 | zero=>exact h.elim
 | succ n=>
  simp only [Shp,hu,hc,hb] at h
  rcases h with h | ⟨h,_⟩ | ⟨es,h1,h2,h3⟩
  ·exact ⟨n,.nilslice,[],h,fun H=>Holds.nil,by simp,by simp,rfl,rfl⟩
  ·omega
  ·exact ⟨n,.lst c es,es,h1,fun H=>Holds.lst fun x hx=>(h3 x hx).1,h2,fun x hx=>(h3 x hx).2,rfl,rfl⟩
theorem shp_struct {n : Nat} {t : TypeId} {fs : Array Field} {c : Nat} {xs : List AV} (hu : P.underlying t = some (.struct fs)) (hc : P.cellsOf t = c) (h : Shp P n t xs) :
  ∃ m,n = m + 1 ∧ xs.length = c ∧ ∀ f ∈ fs.toList,Shp P m f.type ((xs.drop f.offset).take (P.cellsOf f.type)):=by
 cases n with
 | zero=>exact h.elim
 | succ n=>
  simp only [Shp,hu,hc] at h
  exact ⟨n,rfl,h.1,h.2⟩

def okT (P : Program) : Nat → TypeId → Bool
 | 0,_=>false
 | n + 1,t=>
  match P.underlying t with
  | some .bool | some (.int _) | some .string=>true
  | some (.slice e)=>decide (0 < P.cellsOf e)
  | some (.struct fs)=>contig P fs.toList 0 (P.cellsOf t) && fs.toList.all fun f=>okT P n f.type
  | _=>false

end

theorem cells3 : Tryz.prog.cellsOf 3 = 1:=by kernel_rfl
theorem bytes3 : Tryz.prog.bytesOf 3 = 8:=by kernel_rfl
theorem cells9 : Tryz.prog.cellsOf 9 = 1:=by kernel_rfl
theorem bytes9 : Tryz.prog.bytesOf 9 = 16:=by kernel_rfl
theorem cells23 : Tryz.prog.cellsOf 23 = 1:=by kernel_rfl
theorem cells24 : Tryz.prog.cellsOf 24 = 1:=by kernel_rfl
theorem cells34 : Tryz.prog.cellsOf 34 = 5:=by kernel_rfl
theorem bytes34 : Tryz.prog.bytesOf 34 = 80:=by kernel_rfl
theorem cells104 : Tryz.prog.cellsOf 104 = 9:=by kernel_rfl
theorem bytes104 : Tryz.prog.bytesOf 104 = 120:=by kernel_rfl
theorem cells83 : Tryz.prog.cellsOf 83 = 1:=by kernel_rfl
theorem cells85 : Tryz.prog.cellsOf 85 = 4:=by kernel_rfl
theorem bytes85 : Tryz.prog.bytesOf 85 = 56:=by kernel_rfl
theorem cells22 : Tryz.prog.cellsOf 22 = 1:=by kernel_rfl
theorem cells127 : Tryz.prog.cellsOf 127 = 4:=by kernel_rfl
theorem bytes127 : Tryz.prog.bytesOf 127 = 40:=by kernel_rfl
theorem cells25 : Tryz.prog.cellsOf 25 = 1:=by kernel_rfl
theorem cells27 : Tryz.prog.cellsOf 27 = 4:=by kernel_rfl
theorem und34 : Tryz.prog.underlying 34 = some (.struct #[{ name:= "Kind",type:=3,offset:=0,embedded:=false,tag:= "",pkgPath:= "",byteOffset:=0 },{ name:= "Int",type:=3,offset:=1,embedded:=false,tag:= "",pkgPath:= "",byteOffset:=8 },{ name:= "Text",type:=9,offset:=2,embedded:=false,tag:= "",pkgPath:= "",byteOffset:=16 },{ name:= "Items",type:=24,offset:=3,embedded:=false,tag:= "",pkgPath:= "",byteOffset:=32 },{ name:= "Keys",type:=23,offset:=4,embedded:=false,tag:= "",pkgPath:= "",byteOffset:=56 }]):=by kernel_rfl
theorem und104 : Tryz.prog.underlying 104 = some (.struct #[{ name:= "Op",type:=3,offset:=0,embedded:=false,tag:= "",pkgPath:= "",byteOffset:=0 },{ name:= "A",type:=3,offset:=1,embedded:=false,tag:= "",pkgPath:= "",byteOffset:=8 },{ name:= "B",type:=3,offset:=2,embedded:=false,tag:= "",pkgPath:= "",byteOffset:=16 },{ name:= "Text",type:=9,offset:=3,embedded:=false,tag:= "",pkgPath:= "",byteOffset:=24 },{ name:= "Val",type:=34,offset:=4,embedded:=false,tag:= "",pkgPath:= "",byteOffset:=40 }]):=by kernel_rfl
theorem und85 : Tryz.prog.underlying 85 = some (.struct #[{ name:= "Name",type:=9,offset:=0,embedded:=false,tag:= "",pkgPath:= "",byteOffset:=0 },{ name:= "Params",type:=3,offset:=1,embedded:=false,tag:= "",pkgPath:= "",byteOffset:=16 },{ name:= "Slots",type:=3,offset:=2,embedded:=false,tag:= "",pkgPath:= "",byteOffset:=24 },{ name:= "Code",type:=83,offset:=3,embedded:=false,tag:= "",pkgPath:= "",byteOffset:=32 }]):=by kernel_rfl
theorem und127 : Tryz.prog.underlying 127 = some (.struct #[{ name:= "Kind",type:=3,offset:=0,embedded:=false,tag:= "",pkgPath:= "",byteOffset:=0 },{ name:= "Name",type:=9,offset:=1,embedded:=false,tag:= "",pkgPath:= "",byteOffset:=8 },{ name:= "Func",type:=3,offset:=2,embedded:=false,tag:= "",pkgPath:= "",byteOffset:=24 },{ name:= "Check",type:=3,offset:=3,embedded:=false,tag:= "",pkgPath:= "",byteOffset:=32 }]):=by kernel_rfl
theorem und27 : Tryz.prog.underlying 27 = some (.struct #[{ name:= "Funcs",type:=22,offset:=0,embedded:=false,tag:= "",pkgPath:= "",byteOffset:=0 },{ name:= "Globals",type:=23,offset:=1,embedded:=false,tag:= "",pkgPath:= "",byteOffset:=24 },{ name:= "Inits",type:=24,offset:=2,embedded:=false,tag:= "",pkgPath:= "",byteOffset:=48 },{ name:= "Handlers",type:=25,offset:=3,embedded:=false,tag:= "",pkgPath:= "",byteOffset:=72 }]):=by kernel_rfl
theorem lay_all (t : TypeId) (h : t < Tryz.prog.types.size) : layB Tryz.prog t = true ∧ kidB Tryz.prog Tryz.prog.types.size t = true:=by
 have : (List.range Tryz.prog.types.size).all (fun t=>layB Tryz.prog t && kidB Tryz.prog Tryz.prog.types.size t) = true:=by kernel_rfl
 have:=List.all_eq_true.1 this t (by simpa using h)
 simpa using this
theorem l4 {α : Type} {l : List α} (h : l.length = 4) : ∃ a b c d,l = [a,b,c,d]:=by
 match l,h with
 | [a,b,c,d],_=>exact ⟨a,b,c,d,rfl⟩
theorem l5 {α : Type} {l : List α} (h : l.length = 5) : ∃ a b c d e,l = [a,b,c,d,e]:=by
 match l,h with
 | [a,b,c,d,e],_=>exact ⟨a,b,c,d,e,rfl⟩
theorem l9 {α : Type} {l : List α} (h : l.length = 9) : ∃ a b c d e f g i j,l = [a,b,c,d,e,f,g,i,j]:=by
 match l,h with
 | [a,b,c,d,e,f,g,i,j],_=>exact ⟨a,b,c,d,e,f,g,i,j,rfl⟩
theorem vt_up : ∀ (n : Nat) {cs : List AV},VT n cs → VT (n + 1) cs
 | 0,cs,h=>h.elim
 | n + 1,cs,⟨k,i,s,v,w,L,M,e,h1,h2,h3,h4⟩=>⟨k,i,s,v,w,L,M,e,h1,h2,fun c hc=>vt_up n (h3 c hc),h4⟩
theorem vt_le {n m : Nat} {cs : List AV} (h : VT n cs) (hm : n ≤ m) : VT m cs:=by
 obtain ⟨d,rfl⟩ : ∃ d,m = n + d:=⟨m - n,by omega⟩
 clear hm
 induction d with
 | zero=>exact h
 | succ d ih=>exact vt_up _ ih
theorem strs_of {m : Nat} {L : List (List AV)} (h : ∀ x ∈ L,Shp Tryz.prog m 9 x) : StrL L:=fun c hc=>shp_str und9 (h c hc)
theorem val_of {n : Nat} {cs : List AV} (h : Shp Tryz.prog n 34 cs) : ∃ m,n = m + 1 ∧ ∃ (k i : Int) (s : List Nat) (v w : AV) (L M : List (List AV)),cs = [.int .i64 k,.int .i64 i,.str s,v,w] ∧ (∀ H,Holds H 5 v L) ∧ L.length * 80 ≤ 140737488355328 ∧ (∃ m3,m = m3 + 1 ∧ ∀ c ∈ L,Shp Tryz.prog m3 34 c) ∧ (∀ H,Holds H 1 w M) ∧ M.length * 16 ≤ 140737488355328 ∧ StrL M:=by
 obtain ⟨m,rfl,hl,hf⟩:=shp_struct und34 cells34 h
 have f0:=hf _ (List.mem_of_getElem? (i:=0) rfl)
 have f1:=hf _ (List.mem_of_getElem? (i:=1) rfl)
 have f2:=hf _ (List.mem_of_getElem? (i:=2) rfl)
 have f3:=hf _ (List.mem_of_getElem? (i:=3) rfl)
 have f4:=hf _ (List.mem_of_getElem? (i:=4) rfl)
 simp only [cells3,cells9,cells23,cells24] at f0 f1 f2 f3 f4
 obtain ⟨x0,h0,_⟩:=shp_int und3 f0
 obtain ⟨x1,h1,_⟩:=shp_int und3 f1
 obtain ⟨s,h2⟩:=shp_str und9 f2
 obtain ⟨m3,v3,L3,a3,b3,c3,d3,e3,_⟩:=shp_slice und24 cells34 bytes34 (by decide) f3
 obtain ⟨m4,v4,L4,a4,b4,c4,d4,e4,_⟩:=shp_slice und23 cells9 bytes9 (by decide) f4
 obtain ⟨y0,y1,y2,y3,y4,rfl⟩:=l5 hl
 simp at h0 h1 h2 a3 a4
 subst h0 h1 h2 a3 a4
 refine ⟨m,rfl,x0,x1,s,y3,y4,L3,L4,rfl,b3,?_,⟨m3,e3,d3⟩,b4,?_,strs_of d4⟩
 ·simp only [reachBytes] at c3;omega
 ·simp only [reachBytes] at c4;omega
theorem vt_of : ∀ (n : Nat) (cs : List AV),Shp Tryz.prog n 34 cs → VT n cs:=by
 intro n
 induction n using Nat.strongRecOn with
 | _ n ih=>
  intro cs h
  obtain ⟨m,rfl,k,i,s,v,w,L,M,rfl,b3,n3,⟨m3,rfl,d3⟩,b4,n4,hs⟩:=val_of h
  exact ⟨k,i,s,v,w,L,M,rfl,b3,by omega,fun c hc=>vt_up _ (ih m3 (by omega) c (d3 c hc)),b4,by omega,hs⟩
theorem inst_of {n N : Nat} {cs : List AV} (h : Shp Tryz.prog n 104 cs) (hN : n ≤ N) : InsT N cs:=by
 obtain ⟨m,rfl,hl,hf⟩:=shp_struct und104 cells104 h
 have f0:=hf _ (List.mem_of_getElem? (i:=0) rfl)
 have f1:=hf _ (List.mem_of_getElem? (i:=1) rfl)
 have f2:=hf _ (List.mem_of_getElem? (i:=2) rfl)
 have f3:=hf _ (List.mem_of_getElem? (i:=3) rfl)
 have f4:=hf _ (List.mem_of_getElem? (i:=4) rfl)
 simp only [cells3,cells9,cells34] at f0 f1 f2 f3 f4
 obtain ⟨x0,h0,_⟩:=shp_int und3 f0
 obtain ⟨x1,h1,_⟩:=shp_int und3 f1
 obtain ⟨x2,h2,_⟩:=shp_int und3 f2
 obtain ⟨s,h3⟩:=shp_str und9 f3
 have hV:=vt_of _ _ f4
 obtain ⟨y0,y1,y2,y3,y4,y5,y6,y7,y8,rfl⟩:=l9 hl
 simp at h0 h1 h2 h3
 subst h0 h1 h2 h3
 exact ⟨x0,x1,x2,s,_,rfl,vt_le hV (by omega)⟩
theorem fun_of {n N : Nat} {c : List AV} (h : Shp Tryz.prog n 85 c) (hN : n ≤ N) : ∃ (nm : List Nat) (P S : Int) (v : AV) (L : List (List AV)),c = [.str nm,.int .i64 P,.int .i64 S,v] ∧ (∀ H,Holds H 9 v L) ∧ (∀ x ∈ L,InsT N x) ∧ L.length < 2 ^ 60:=by
 obtain ⟨m,rfl,hl,hf⟩:=shp_struct und85 cells85 h
 have f0:=hf _ (List.mem_of_getElem? (i:=0) rfl)
 have f1:=hf _ (List.mem_of_getElem? (i:=1) rfl)
 have f2:=hf _ (List.mem_of_getElem? (i:=2) rfl)
 have f3:=hf _ (List.mem_of_getElem? (i:=3) rfl)
 simp only [cells3,cells9,cells83] at f0 f1 f2 f3
 obtain ⟨s,h0⟩:=shp_str und9 f0
 obtain ⟨x1,h1,_⟩:=shp_int und3 f1
 obtain ⟨x2,h2,_⟩:=shp_int und3 f2
 obtain ⟨m3,v3,L3,a3,b3,c3,d3,e3,_⟩:=shp_slice und83 cells104 bytes104 (by decide) f3
 obtain ⟨y0,y1,y2,y3,rfl⟩:=l4 hl
 simp at h0 h1 h2 a3
 subst h0 h1 h2 a3
 refine ⟨s,x1,x2,y3,L3,rfl,b3,fun x hx=>inst_of (d3 x hx) (by omega),?_⟩
 simp only [reachBytes] at c3;omega
theorem han_of {n : Nat} {c : List AV} (h : Shp Tryz.prog n 127 c) : ∃ (k : Int) (nm : List Nat) (f g : Int),c = [.int .i64 k,.str nm,.int .i64 f,.int .i64 g]:=by
 obtain ⟨m,rfl,hl,hf⟩:=shp_struct und127 cells127 h
 have f0:=hf _ (List.mem_of_getElem? (i:=0) rfl)
 have f1:=hf _ (List.mem_of_getElem? (i:=1) rfl)
 have f2:=hf _ (List.mem_of_getElem? (i:=2) rfl)
 have f3:=hf _ (List.mem_of_getElem? (i:=3) rfl)
 simp only [cells3,cells9] at f0 f1 f2 f3
 obtain ⟨x0,h0,_⟩:=shp_int und3 f0
 obtain ⟨s,h1⟩:=shp_str und9 f1
 obtain ⟨x2,h2,_⟩:=shp_int und3 f2
 obtain ⟨x3,h3,_⟩:=shp_int und3 f3
 obtain ⟨y0,y1,y2,y3,rfl⟩:=l4 hl
 simp at h0 h1 h2 h3
 subst h0 h1 h2 h3
 exact ⟨x0,s,x2,x3,rfl⟩
theorem cod_of {n N : Nat} {cs : List AV} (h : Shp Tryz.prog n 27 cs) (hN : n ≤ N) : ∃ (vF vG vI vH : AV) (LF LG LI LH : List (List AV)),cs = [vF,vG,vI,vH] ∧ CodT N vF vG vI vH LF LG LI LH:=by
 obtain ⟨m,rfl,hl,hf⟩:=shp_struct und27 cells27 h
 have f0:=hf _ (List.mem_of_getElem? (i:=0) rfl)
 have f1:=hf _ (List.mem_of_getElem? (i:=1) rfl)
 have f2:=hf _ (List.mem_of_getElem? (i:=2) rfl)
 have f3:=hf _ (List.mem_of_getElem? (i:=3) rfl)
 simp only [cells22,cells23,cells24,cells25] at f0 f1 f2 f3
 obtain ⟨m0,v0,L0,a0,b0,c0,d0,e0,_⟩:=shp_slice und22 cells85 bytes85 (by decide) f0
 obtain ⟨m1,v1,L1,a1,b1,c1,d1,e1,_⟩:=shp_slice und23 cells9 bytes9 (by decide) f1
 obtain ⟨m2,v2,L2,a2,b2,c2,d2,e2,_⟩:=shp_slice und24 cells34 bytes34 (by decide) f2
 obtain ⟨m3,v3,L3,a3,b3,c3,d3,e3,_⟩:=shp_slice und25 cells127 bytes127 (by decide) f3
 obtain ⟨y0,y1,y2,y3,rfl⟩:=l4 hl
 simp at a0 a1 a2 a3
 subst a0 a1 a2 a3
 simp only [reachBytes] at c0 c1 c2 c3
 exact ⟨_,_,_,_,L0,L1,L2,L3,rfl,⟨b0,fun c hc=>fun_of (d0 c hc) (by omega),by omega,b1,by omega,b2,fun c hc=>vt_le (vt_of _ _ (d2 c hc)) (by omega),by omega,b3,fun c hc=>han_of (d3 c hc),by omega⟩⟩
theorem shp_slice2 {P : Program} {n : Nat} {t e : TypeId} {c b : Nat} {xs : List AV} (hu : P.underlying t = some (.slice e)) (hc : P.cellsOf e = c) (hb : P.bytesOf e = b) (hc0 : 0 < c) (h : Shp P n t xs) :
  ∃ m v L,xs = [v] ∧ (∀ H,Holds H c v L) ∧ L.length * b ≤ reachBytes ∧ (∀ x ∈ L,Shp P m e x) ∧ n = m + 1 ∧ cnt P n t xs = (L.map fun cs=>1 + cnt P m e cs).sum:=by
 cases n with
 | zero=>exact h.elim
 | succ n=>
  simp only [Shp,hu,hc,hb] at h
  rcases h with h | ⟨h,_⟩ | ⟨es,h1,h2,h3⟩
  ·exact ⟨n,.nilslice,[],h,fun H=>Holds.nil,by simp,by simp,rfl,by subst h;simp [cnt,hu]⟩
  ·omega
  ·exact ⟨n,.lst c es,es,h1,fun H=>Holds.lst fun x hx=>(h3 x hx).1,h2,fun x hx=>(h3 x hx).2,rfl,by subst h1;simp [cnt,hu]⟩
theorem sum_mono {α : Type} {f g : α → Nat} : ∀ {L : List α},(∀ x ∈ L,f x ≤ g x) → (L.map f).sum ≤ (L.map g).sum
 | [],_=>Nat.le_refl _
 | a :: l,h=>by
  have h1:=h a List.mem_cons_self
  have h2:=sum_mono (L:=l) fun x hx=>h x (List.mem_cons_of_mem _ hx)
  simp only [List.map_cons,List.sum_cons]
  omega
theorem len_sum {α : Type} {f : α → Nat} : ∀ (L : List α),L.length ≤ (L.map fun x=>1 + f x).sum
 | []=>Nat.le_refl _
 | a :: l=>by
  have:=len_sum (f:=f) l
  simp only [List.map_cons,List.sum_cons,List.length_cons]
  omega
theorem und31 : Tryz.prog.underlying 31 = some (.struct #[{ name:= "State",type:=3,offset:=0,embedded:=false,tag:= "",pkgPath:= "",byteOffset:=0 },{ name:= "Frames",type:=28,offset:=1,embedded:=false,tag:= "",pkgPath:= "",byteOffset:=8 },{ name:= "Future",type:=3,offset:=2,embedded:=false,tag:= "",pkgPath:= "",byteOffset:=32 },{ name:= "Waits",type:=29,offset:=3,embedded:=false,tag:= "",pkgPath:= "",byteOffset:=40 },{ name:= "Select",type:=4,offset:=4,embedded:=false,tag:= "",pkgPath:= "",byteOffset:=64 },{ name:= "Key",type:=9,offset:=5,embedded:=false,tag:= "",pkgPath:= "",byteOffset:=72 }]):=by kernel_rfl
theorem und55 : Tryz.prog.underlying 55 = some (.struct #[{ name:= "Func",type:=3,offset:=0,embedded:=false,tag:= "",pkgPath:= "",byteOffset:=0 },{ name:= "PC",type:=3,offset:=1,embedded:=false,tag:= "",pkgPath:= "",byteOffset:=8 },{ name:= "Slots",type:=24,offset:=2,embedded:=false,tag:= "",pkgPath:= "",byteOffset:=16 },{ name:= "Stack",type:=24,offset:=3,embedded:=false,tag:= "",pkgPath:= "",byteOffset:=40 },{ name:= "Marks",type:=53,offset:=4,embedded:=false,tag:= "",pkgPath:= "",byteOffset:=64 }]):=by kernel_rfl
theorem und92 : Tryz.prog.underlying 92 = some (.struct #[{ name:= "Kind",type:=3,offset:=0,embedded:=false,tag:= "",pkgPath:= "",byteOffset:=0 },{ name:= "Target",type:=3,offset:=1,embedded:=false,tag:= "",pkgPath:= "",byteOffset:=8 },{ name:= "Slot",type:=3,offset:=2,embedded:=false,tag:= "",pkgPath:= "",byteOffset:=16 },{ name:= "Height",type:=3,offset:=3,embedded:=false,tag:= "",pkgPath:= "",byteOffset:=24 },{ name:= "Undos",type:=90,offset:=4,embedded:=false,tag:= "",pkgPath:= "",byteOffset:=32 },{ name:= "Thrown",type:=34,offset:=5,embedded:=false,tag:= "",pkgPath:= "",byteOffset:=56 }]):=by kernel_rfl
theorem und94 : Tryz.prog.underlying 94 = some (.struct #[{ name:= "Func",type:=3,offset:=0,embedded:=false,tag:= "",pkgPath:= "",byteOffset:=0 },{ name:= "Args",type:=24,offset:=1,embedded:=false,tag:= "",pkgPath:= "",byteOffset:=8 }]):=by kernel_rfl
theorem cells31 : Tryz.prog.cellsOf 31 = 6:=by kernel_rfl
theorem cells55 : Tryz.prog.cellsOf 55 = 5:=by kernel_rfl
theorem cells92 : Tryz.prog.cellsOf 92 = 10:=by kernel_rfl
theorem cells94 : Tryz.prog.cellsOf 94 = 2:=by kernel_rfl
theorem cells28 : Tryz.prog.cellsOf 28 = 1:=by kernel_rfl
theorem cells29 : Tryz.prog.cellsOf 29 = 1:=by kernel_rfl
theorem cells53 : Tryz.prog.cellsOf 53 = 1:=by kernel_rfl
theorem cells90 : Tryz.prog.cellsOf 90 = 1:=by kernel_rfl
theorem cells4 : Tryz.prog.cellsOf 4 = 1:=by kernel_rfl
theorem bytes55 : Tryz.prog.bytesOf 55 = 88:=by kernel_rfl
theorem bytes92 : Tryz.prog.bytesOf 92 = 136:=by kernel_rfl
theorem bytes94 : Tryz.prog.bytesOf 94 = 32:=by kernel_rfl
theorem l2 {α : Type} {l : List α} (h : l.length = 2) : ∃ a b,l = [a,b]:=by
 match l,h with
 | [a,b],_=>exact ⟨a,b,rfl⟩
theorem l6 {α : Type} {l : List α} (h : l.length = 6) : ∃ a b c d e f,l = [a,b,c,d,e,f]:=by
 match l,h with
 | [a,b,c,d,e,f],_=>exact ⟨a,b,c,d,e,f,rfl⟩
theorem l10 {α : Type} {l : List α} (h : l.length = 10) : ∃ a b c d e f g i j k,l = [a,b,c,d,e,f,g,i,j,k]:=by
 match l,h with
 | [a,b,c,d,e,f,g,i,j,k],_=>exact ⟨a,b,c,d,e,f,g,i,j,k,rfl⟩
theorem und_of {n N : Nat} {c : List AV} (h : Shp Tryz.prog n 94 c) (hN : n ≤ N) : UndT N c ∧ undN c ≤ cnt Tryz.prog n 94 c:=by
 obtain ⟨m,rfl,hl,hf⟩:=shp_struct und94 cells94 h
 have f0:=hf _ (List.mem_of_getElem? (i:=0) rfl)
 have f1:=hf _ (List.mem_of_getElem? (i:=1) rfl)
 simp only [cells3,cells24] at f0 f1
 obtain ⟨x0,h0,_⟩:=shp_int und3 f0
 obtain ⟨m1,v1,L1,a1,b1,c1,d1,e1,k1⟩:=shp_slice2 und24 cells34 bytes34 (by decide) f1
 obtain ⟨y0,y1,rfl⟩:=l2 hl
 simp at h0 a1 k1
 subst h0 a1
 refine ⟨⟨x0,y1,L1,rfl,b1,fun x hx=>vt_le (vt_of _ _ (d1 x hx)) (by omega),?_⟩,?_⟩
 ·simp only [reachBytes] at c1;omega
 ·rw [und_n b1]
  have e : cnt Tryz.prog (m + 1) 94 [.int .i64 x0,y1] = cnt Tryz.prog m 3 [.int .i64 x0] + (cnt Tryz.prog m 24 [y1] + 0):=by simp [cnt,und94,cells3,cells24]
  rw [e,k1]
  have:=len_sum (f:=fun cs=>cnt Tryz.prog m1 34 cs) L1
  omega
theorem mrk_of {n N : Nat} {c : List AV} (h : Shp Tryz.prog n 92 c) (hN : n ≤ N) : MrkT N c ∧ mrkN c ≤ 1 + cnt Tryz.prog n 92 c:=by
 obtain ⟨m,rfl,hl,hf⟩:=shp_struct und92 cells92 h
 have f0:=hf _ (List.mem_of_getElem? (i:=0) rfl)
 have f1:=hf _ (List.mem_of_getElem? (i:=1) rfl)
 have f2:=hf _ (List.mem_of_getElem? (i:=2) rfl)
 have f3:=hf _ (List.mem_of_getElem? (i:=3) rfl)
 have f4:=hf _ (List.mem_of_getElem? (i:=4) rfl)
 have f5:=hf _ (List.mem_of_getElem? (i:=5) rfl)
 simp only [cells3,cells90,cells34] at f0 f1 f2 f3 f4 f5
 obtain ⟨x0,h0,_⟩:=shp_int und3 f0
 obtain ⟨x1,h1,_⟩:=shp_int und3 f1
 obtain ⟨x2,h2,_⟩:=shp_int und3 f2
 obtain ⟨x3,h3,_⟩:=shp_int und3 f3
 obtain ⟨m4,v4,L4,a4,b4,c4,d4,e4,k4⟩:=shp_slice2 und90 cells94 bytes94 (by decide) f4
 have hV:=vt_of _ _ f5
 obtain ⟨y0,y1,y2,y3,y4,y5,y6,y7,y8,y9,rfl⟩:=l10 hl
 simp at h0 h1 h2 h3 a4 k4 hV
 subst h0 h1 h2 h3 a4
 refine ⟨⟨x0,x1,x2,x3,y4,L4,y5,y6,y7,y8,y9,rfl,b4,fun x hx=>(und_of (d4 x hx) (by omega)).1,?_,vt_le hV (by omega)⟩,?_⟩
 ·simp only [reachBytes] at c4;omega
 ·rw [mrk_n b4]
  have e : cnt Tryz.prog (m + 1) 92 [.int .i64 x0,.int .i64 x1,.int .i64 x2,.int .i64 x3,y4,y5,y6,y7,y8,y9] = cnt Tryz.prog m 3 [.int .i64 x0] + (cnt Tryz.prog m 3 [.int .i64 x1] + (cnt Tryz.prog m 3 [.int .i64 x2] + (cnt Tryz.prog m 3 [.int .i64 x3] + (cnt Tryz.prog m 90 [y4] + (cnt Tryz.prog m 34 [y5,y6,y7,y8,y9] + 0))))):=by simp [cnt,und92,cells3,cells90,cells34]
  rw [e,k4]
  have:=sum_mono (f:=undN) (g:=fun cs=>1 + cnt Tryz.prog m4 94 cs) (L:=L4) fun x hx=>by have:=(und_of (N:=m4) (d4 x hx) (Nat.le_refl _)).2;omega
  omega
theorem frm_of {n N : Nat} {c : List AV} (h : Shp Tryz.prog n 55 c) (hN : n ≤ N) : FrmT N c ∧ frmN c ≤ cnt Tryz.prog n 55 c:=by
 obtain ⟨m,rfl,hl,hf⟩:=shp_struct und55 cells55 h
 have f0:=hf _ (List.mem_of_getElem? (i:=0) rfl)
 have f1:=hf _ (List.mem_of_getElem? (i:=1) rfl)
 have f2:=hf _ (List.mem_of_getElem? (i:=2) rfl)
 have f3:=hf _ (List.mem_of_getElem? (i:=3) rfl)
 have f4:=hf _ (List.mem_of_getElem? (i:=4) rfl)
 simp only [cells3,cells24,cells53] at f0 f1 f2 f3 f4
 obtain ⟨x0,h0,_⟩:=shp_int und3 f0
 obtain ⟨x1,h1,_⟩:=shp_int und3 f1
 obtain ⟨m2,v2,L2,a2,b2,c2,d2,e2,k2⟩:=shp_slice2 und24 cells34 bytes34 (by decide) f2
 obtain ⟨m3,v3,L3,a3,b3,c3,d3,e3,k3⟩:=shp_slice2 und24 cells34 bytes34 (by decide) f3
 obtain ⟨m4,v4,L4,a4,b4,c4,d4,e4,k4⟩:=shp_slice2 und53 cells92 bytes92 (by decide) f4
 obtain ⟨y0,y1,y2,y3,y4,rfl⟩:=l5 hl
 simp at h0 h1 a2 a3 a4 k2 k3 k4
 subst h0 h1 a2 a3 a4
 simp only [reachBytes] at c2 c3 c4
 refine ⟨⟨x0,x1,y2,y3,y4,L2,L3,L4,rfl,b2,b3,b4,fun x hx=>vt_le (vt_of _ _ (d2 x hx)) (by omega),fun x hx=>vt_le (vt_of _ _ (d3 x hx)) (by omega),fun x hx=>(mrk_of (d4 x hx) (by omega)).1,by omega,by omega,by omega⟩,?_⟩
 rw [frm_n b2 b3 b4]
 have e : cnt Tryz.prog (m + 1) 55 [.int .i64 x0,.int .i64 x1,y2,y3,y4] = cnt Tryz.prog m 3 [.int .i64 x0] + (cnt Tryz.prog m 3 [.int .i64 x1] + (cnt Tryz.prog m 24 [y2] + (cnt Tryz.prog m 24 [y3] + (cnt Tryz.prog m 53 [y4] + 0)))):=by simp [cnt,und55,cells3,cells24,cells53]
 rw [e,k2,k3,k4]
 have q2:=len_sum (f:=fun cs=>cnt Tryz.prog m2 34 cs) L2
 have q3:=len_sum (f:=fun cs=>cnt Tryz.prog m3 34 cs) L3
 have q4:=sum_mono (f:=mrkN) (g:=fun cs=>1 + cnt Tryz.prog m4 92 cs) (L:=L4) fun x hx=>(mrk_of (N:=m4) (d4 x hx) (Nat.le_refl _)).2
 omega
theorem cor_of {n N : Nat} {cs : List AV} (h : Shp Tryz.prog n 31 cs) (hN : n ≤ N) : ∃ (st : Int) (vf : AV) (fut : Int) (vw : AV) (sel : Bool) (key : List Nat) (Lf Lw : List (List AV)),cs = [.int .i64 st,vf,.int .i64 fut,vw,.bool sel,.str key] ∧ (∀ H,Holds H 5 vf Lf) ∧ (∀ x ∈ Lf,FrmT N x) ∧ Lf.length < 2 ^ 60 ∧ (∀ H,Holds H 1 vw Lw) ∧ (Lf.map frmN).sum ≤ cnt Tryz.prog n 31 cs:=by
 obtain ⟨m,rfl,hl,hf⟩:=shp_struct und31 cells31 h
 have f0:=hf _ (List.mem_of_getElem? (i:=0) rfl)
 have f1:=hf _ (List.mem_of_getElem? (i:=1) rfl)
 have f2:=hf _ (List.mem_of_getElem? (i:=2) rfl)
 have f3:=hf _ (List.mem_of_getElem? (i:=3) rfl)
 have f4:=hf _ (List.mem_of_getElem? (i:=4) rfl)
 have f5:=hf _ (List.mem_of_getElem? (i:=5) rfl)
 simp only [cells3,cells28,cells29,cells4,cells9] at f0 f1 f2 f3 f4 f5
 obtain ⟨x0,h0,_⟩:=shp_int und3 f0
 obtain ⟨m1,v1,L1,a1,b1,c1,d1,e1,k1⟩:=shp_slice2 und28 cells55 bytes55 (by decide) f1
 obtain ⟨x2,h2,_⟩:=shp_int und3 f2
 obtain ⟨m3,v3,L3,a3,b3,c3,d3,e3,k3⟩:=shp_slice2 und29 cells3 bytes3 (by decide) f3
 obtain ⟨x4,h4⟩:=shp_bool und4 f4
 obtain ⟨x5,h5⟩:=shp_str und9 f5
 obtain ⟨y0,y1,y2,y3,y4,y5,rfl⟩:=l6 hl
 simp at h0 h2 h4 h5 a1 a3 k1
 subst h0 h2 h4 h5 a1 a3
 simp only [reachBytes] at c1
 refine ⟨x0,y1,x2,y3,x4,x5,L1,L3,rfl,b1,fun x hx=>(frm_of (d1 x hx) (by omega)).1,by omega,b3,?_⟩
 have e : cnt Tryz.prog (m + 1) 31 [.int .i64 x0,y1,.int .i64 x2,y3,.bool x4,.str x5] = cnt Tryz.prog m 3 [.int .i64 x0] + (cnt Tryz.prog m 28 [y1] + (cnt Tryz.prog m 3 [.int .i64 x2] + (cnt Tryz.prog m 29 [y3] + (cnt Tryz.prog m 4 [.bool x4] + (cnt Tryz.prog m 9 [.str x5] + 0))))):=by simp [cnt,und31,cells3,cells28,cells29,cells4,cells9]
 rw [e,k1]
 have:=sum_mono (f:=frmN) (g:=fun cs=>1 + cnt Tryz.prog m1 55 cs) (L:=L1) fun x hx=>by have:=(frm_of (N:=m1) (d1 x hx) (Nat.le_refl _)).2;omega
 omega
end Go.Proofs.T
