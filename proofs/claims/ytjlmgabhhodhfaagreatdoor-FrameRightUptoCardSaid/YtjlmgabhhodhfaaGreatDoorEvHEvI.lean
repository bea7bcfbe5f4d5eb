import Derived.Test.YtjlmgabhhodhfaaGreatDoorEvEEvG
import Derived.Laws.AppendOwn
set_option linter.unusedVariables false
set_option linter.unusedSimpArgs false
namespace Go.Ev
section
variable {P : Program} {C : Mem} {w0 : World} {E : Emb} {H : Heap} {w : World}

theorem load_cells (hw : WRel C w0 E H w) {a : AV} {u : Value} {n : Nat} {cs : List AV} (h : H.load a n = some cs) (hu : Rep C E a u) :
  ∃ ad vs,u = .pointer (some ad) ∧ cs.length = n ∧ RepL C E cs vs ∧ ∀ j v,vs[j]? = some v → w.cell? (ad.add j) = some v:=by
 unfold Heap.load at h
 split at h
 ·rename_i cs' o
  split at h
  ·rename_i hle
   cases h
   cases hu with
   | iptr _ _ blk co off hm h3=>
    obtain ⟨vs,h1,h2⟩:=choose_cells (C:=C) (E:=E) (w:=w) (blk:=blk) ((cs'.drop o).take n) off (fun j c hj=>by
     rw [List.getElem?_take] at hj
     split at hj
     ·rw [List.getElem?_drop] at hj
      obtain ⟨v,hv,hr⟩:=hm.get (o + j) c hj
      exact ⟨v,by subst h3;rw [Nat.add_assoc];exact (hw.mem _ _ _ hv).2,hr⟩
     ·cases hj)
    exact ⟨_,vs,rfl,by simp;omega,h1,fun j v hj=>by rw [Addr.add_lit];exact h2 j v hj⟩
  ·cases h
 ·rename_i b i o g
  split at h
  ·rename_i ty esz els gen wgen hb
   split at h
   ·rename_i hg
    split at h
    ·rename_i cs' hi
     cases h
     cases hu with
     | ptr _ _ _ _ L off hL h1 h2 h3=>
      obtain ⟨L',hL',hl⟩:=(hw.row _ _ _ _ _ _ hb).loc g hg.1 ((hw.dom _ _ _ hL).2.2 _ _ _ _ _ hb)
      rw [hL] at hL';cases hL'
      have hcl:=(hw.row _ _ _ _ _ _ hb).len cs' (List.mem_of_getElem? hi)
      obtain ⟨vs,r1,r2⟩:=choose_cells (C:=C) (E:=E) (w:=w) (blk:=L.blk) ((cs'.drop o).take n) off (fun j c hj=>by
       rw [List.getElem?_take] at hj
       split at hj
       ·rw [List.getElem?_drop] at hj
        obtain ⟨v,hv,hr⟩:=hl.cell i (o + j) cs' c h1 h2 hi hj
        exact ⟨v,by subst h3;rw [hl.sz,Nat.add_assoc];exact hv,hr⟩
       ·cases hj)
      exact ⟨_,vs,rfl,by simp;omega,r1,fun j v hj=>by rw [Addr.add_lit];exact r2 j v hj⟩
    ·cases h
   ·cases h
  ·cases h
 ·cases h

theorem run_loadCells' {ad : Addr} {vs : List Value} (h : ∀ j v,vs[j]? = some v → w.cell? (ad.add j) = some v) {n : Nat} (hn : vs.length = n) : (loadCells ad n).run P w = .ok vs.toArray w:=by
 subst hn;exact run_loadCells_list w ad vs h

theorem load_agg (hw : WRel C w0 E H w) {t : TypeId} {a : AV} {u : Value} {n : Nat} {cs : List AV} (ha : aggOf P t = some true) (hs : szOf P t = some n) (h : H.load a n = some cs) (hu : Rep C E a u) :
  ∃ z,(Instr.loadAt t u).run P w = .ok z w ∧ Rep C E (.agg cs) z:=by
 obtain ⟨ad,vs,rfl,hl,hr,hc⟩:=load_cells hw h hu
 refine ⟨.agg vs.toArray,?_,.agg _ _ hr⟩
 have:=run_loadCells' (P:=P) hc (n:=n) (by rw [hr.length,hl])
 simp [Instr.loadAt,Instr.sureAddr,loadVar,run_isAgg' w ha,run_sizeOf' w hs,this]

theorem load_one (hw : WRel C w0 E H w) {t : TypeId} {a r : AV} {u : Value} (ha : aggOf P t = some false) (h : H.load a 1 = some [r]) (hu : Rep C E a u) :
  ∃ z,(Instr.loadAt t u).run P w = .ok z w ∧ Rep C E r z:=by
 obtain ⟨ad,vs,rfl,hl,hr,hc⟩:=load_cells hw h hu
 cases hr with
 | cons _ v _ _ h1 h2=>
  refine ⟨v,?_,h1⟩
  have:=hc 0 v rfl
  have h0 : ad.add 0 = ad:=by simp [Addr.add]
  rw [h0] at this
  simp [Instr.loadAt,Instr.sureAddr,loadVar,run_isAgg' w ha,this]

theorem rep_oneCell {a : AV} {v : Value} (h : Rep C E a v) (hc : a.isCell = true) : v.oneCell' = true:=by
 cases h <;> simp_all [AV.isCell,Value.oneCell']

theorem repL_oneCell : ∀ {as : List AV} {vs : List Value},RepL C E as vs → as.all AV.isCell = true → ∀ v ∈ vs,v.oneCell' = true
 | _,_,.nil,_,v,hv=>by cases hv
 | _,_,.cons a u as vs h h',hc,v,hv=>by
  simp only [List.all_cons,Bool.and_eq_true] at hc
  rcases List.mem_cons.1 hv with rfl | hv
  ·exact rep_oneCell h hc.1
  ·exact repL_oneCell h' hc.2 v hv

theorem cell_lt {i ext lo esz j co size : Nat} (h1 : lo ≤ i) (h2 : i < ext) (hj : j < esz) (hr : co + (ext - lo) * esz ≤ size) : co + (i - lo) * esz + j < size:=by
 have : (i - lo + 1) * esz ≤ (ext - lo) * esz:=Nat.mul_le_mul_right _ (by omega)
 rw [Nat.add_mul] at this
 omega

theorem place_inj {i i' esz j j' : Nat} (hj : j < esz) (hj' : j' < esz) (h : i * esz + j = i' * esz + j') : i = i' ∧ j = j':=by
 have e1 : (i * esz + j) / esz = i:=by rw [Nat.mul_comm,Nat.mul_add_div (by omega),Nat.div_eq_of_lt hj,Nat.add_zero]
 have e2 : (i' * esz + j') / esz = i':=by rw [Nat.mul_comm,Nat.mul_add_div (by omega),Nat.div_eq_of_lt hj',Nat.add_zero]
 have : i = i':=by rw [← e1,← e2,h]
 subst this
 exact ⟨rfl,by omega⟩

theorem splice_length {cs vs : List AV} {o : Nat} (h : o + vs.length ≤ cs.length) : (splice cs o vs).length = cs.length:=by
 simp [splice];omega

theorem splice_get {cs vs : List AV} {o j : Nat} (h : o + vs.length ≤ cs.length) : (splice cs o vs)[j]? = if o ≤ j ∧ j < o + vs.length then vs[j - o]? else cs[j]?:=by
 unfold splice
 rw [List.append_assoc]
 by_cases h1 : j < o
 ·rw [List.getElem?_append_left (by simp;omega),if_neg (by omega),List.getElem?_take,if_pos h1]
 ·rw [List.getElem?_append_right (by simp;omega)]
  have e : j - (cs.take o).length = j - o:=by simp;omega
  rw [e]
  by_cases h2 : j < o + vs.length
  ·rw [if_pos ⟨by omega,h2⟩,List.getElem?_append_left (by omega)]
  ·rw [if_neg (by omega),List.getElem?_append_right (by omega),List.getElem?_drop]
   congr 1
   omega

theorem store_ok (hw : WRel C w0 E H w) {t : TypeId} {a x : AV} {u v : Value} {H' : Heap} (hs : szOf P t = some x.cells.length) (hx : x.isUndef = false) (h : H.store a x.cells = some H') (hu : Rep C E a u) (hv : Rep C E x v) :
  ∃ w',(Instr.storeAt t u v).run P w = .ok () w' ∧ WRel C w0 E H' w':=by
 have hcs:=rep_cells hv hx
 generalize hX : x.cells = xs at *
 unfold Heap.store at h
 split at h
 ·rename_i b i o g
  split at h
  ·rename_i ty esz els gen wgen hb
   split at h
   ·rename_i hg
    obtain ⟨rfl,hle,hall⟩:=hg
    split at h
    ·rename_i cs hi
     cases h
     cases hu with
     | ptr _ _ _ _ L off hL h1 h2 h3=>
      obtain ⟨G,hG,hlo,hext⟩:=hw.newest hb
      rw [hL] at hG;cases hG
      have hcl:=(hw.row _ _ _ _ _ _ hb).len cs (List.mem_of_getElem? hi)
      have hlen : v.cells.toList.length = xs.length:=hcs.length
      have hsz:=hlo.sz
      have hoff : ∀ j,j < v.cells.toList.length → off + j < L.size:=fun j hj=>by
       have:=cell_lt (j:=o + j) h1 h2 (by omega) hlo.room
       subst h3
       rw [hsz]
       omega
      have hc : ∀ j,j < v.cells.toList.length → (w.cell? ⟨L.blk,off + j,none⟩).isSome = true:=fun j hj=>(hlo.shape _ (hoff j hj)).1
      have hrun:=run_storeCells_cells (P:=P) L.blk off v.cells.toList 0 w (by simpa using hc) (fun j hj=>by simpa using (hlo.shape _ (hoff j hj)).2) (repL_oneCell hcs hall)
      refine ⟨w.setCells L.blk off v.cells.toList,?_,?_⟩
      ·have h1' : v.cells.size = xs.length:=by simpa using hlen
       simp [Instr.storeAt,Instr.sureAddr,storeVar,run_sizeOf' w hs,h1',hrun]
      ·refine hw.write (Chg.setCells w L.blk off v.cells.toList hc) hb hL (fun x y ⟨e1,e2,e3⟩=>⟨e1,?_⟩) (by simp) (fun cs' hcs'=>?_) (fun i' j cs' c e1 e2 e3 e4=>?_)
       ·subst e1
        have:=hc (y - off) (by omega)
        rwa [show off + (y - off) = y by omega] at this
       ·rcases List.mem_or_eq_of_mem_set hcs' with hm | rfl
        ·exact (hw.row _ _ _ _ _ _ hb).len cs' hm
        ·rw [splice_length (by omega)];exact hcl
       ·have hj : j < esz:=by
         have hl' : cs'.length = esz:=by
          rw [List.getElem?_set] at e3
          split at e3
          ·split at e3
           ·cases e3;rw [splice_length (by omega)];exact hcl
           ·cases e3
          ·exact (hw.row _ _ _ _ _ _ hb).len cs' (List.mem_of_getElem? e3)
         have:=(List.getElem?_eq_some_iff.1 e4).1
         omega
        rw [List.getElem?_set] at e3
        split at e3
        ·rename_i hii
         subst hii
         split at e3
         ·cases e3
          rw [splice_get (by omega)] at e4
          split at e4
          ·rename_i hin
           obtain ⟨z,hz,hr⟩:=hcs.get _ _ e4
           refine ⟨z,?_,hr⟩
           have hlt:=(List.getElem?_eq_some_iff.1 hz).1
           have:=World.cell?_setCells_in L.blk v.cells.toList off w hc (j - o) hlt
           rw [show off + (j - o) = L.co + (i - L.lo) * esz + j by subst h3;rw [hsz];omega] at this
           rw [this,← hz,List.getElem?_eq_getElem hlt]
          ·rename_i hout
           obtain ⟨z,hz,hr⟩:=hlo.cell i j cs c e1 e2 hi e4
           refine ⟨z,?_,hr⟩
           rw [World.cell?_setCells_out]
           ·exact hz
           ·intro _ _
            simp only
            subst h3
            rw [hsz,hlen]
            omega
         ·cases e3
        ·rename_i hne
         obtain ⟨z,hz,hr⟩:=hlo.cell i' j cs' c e1 e2 e3 e4
         refine ⟨z,?_,hr⟩
         rw [World.cell?_setCells_out]
         ·exact hz
         ·intro _ _
          simp only
          subst h3
          rw [hsz,hlen]
          apply Classical.byContradiction
          intro hcon
          have hk : ∃ q,q < xs.length ∧ (i' - L.lo) * esz + j = (i - L.lo) * esz + (o + q):=⟨(i' - L.lo) * esz + j - ((i - L.lo) * esz + o),by omega,by omega⟩
          obtain ⟨q,hq,heq⟩:=hk
          have:=(place_inj hj (by omega) heq).1
          omega
    ·cases h
   ·cases h
  ·cases h
 ·cases h

theorem newVar_ok (hw : WRel C w0 E H w) (hfree : H.blk H.next = none) {t : TypeId} {x : AV} {v : Value} (hx : x.isUndef = false) (hv : Rep C E x v) :
  ∃ E' ad w',(newVar t v).run P w = .ok ad w' ∧ E.le E' ∧ WRel C w0 E' (H.push (.row t x.cells.length [x.cells] 0 0)) w' ∧ Rep C E' (.ptr H.next 0 0 0) (.pointer (some ad)):=by
 have hcs:=rep_cells hv hx
 have hlen : v.cells.size = x.cells.length:=by have:=hcs.length;simpa using this
 let L : Loc:=⟨w.heap.size,0,0,1,x.cells.length,x.cells.length⟩
 have hnew:=hw.newRow hfree (w':=w.alloc (.cells v.cells t)) (Chg.alloc w _ _) t x.cells.length [x.cells] L rfl (by simp) rfl rfl rfl (by simp) (by simp [L])
  (fun o ho=>by
   simp only [L] at ho ⊢
   refine ⟨?_,World.frozen?_alloc_new _ _ _ _⟩
   rw [World.cell?_alloc_new,Array.getElem?_eq_getElem (by omega)];rfl)
  (fun i j cs c hi h3 h4=>by
   have : i = 0:=by simpa using hi
   subst this
   simp at h3;subst h3
   obtain ⟨z,hz,hr⟩:=hcs.get j c h4
   refine ⟨z,?_,hr⟩
   simp only [L]
   rw [World.cell?_alloc_new]
   simpa using hz)
 refine ⟨_,⟨w.heap.size,0,none⟩,_,by simp [newVar,newRow],hnew.1,hnew.2,?_⟩
 exact .ptr _ 0 0 0 L 0 (Emb.set_same _ _ _ _) (by simp [L]) (by simp [L]) (by simp [L])

end
end Go.Ev
set_option linter.unusedVariables false
set_option linter.unusedSimpArgs false
namespace Go.Ev
section
variable {P : Program} {C : Mem} {w0 : World} {E : Emb} {H : Heap} {w : World}

theorem flatten_get : ∀ {es : List (List AV)} {esz : Nat},(∀ cs ∈ es,cs.length = esz) → ∀ (q : Nat) (c : AV),es.flatten[q]? = some c → ∃ i j cs,q = i * esz + j ∧ es[i]? = some cs ∧ cs[j]? = some c ∧ j < esz
 | [],esz,_,q,c,h=>by simp at h
 | e :: es,esz,hl,q,c,h=>by
  have he:=hl e (by simp)
  simp only [List.flatten_cons] at h
  by_cases hq : q < e.length
  ·rw [List.getElem?_append_left hq] at h
   exact ⟨0,q,e,by omega,rfl,h,by omega⟩
  ·rw [List.getElem?_append_right (by omega)] at h
   obtain ⟨i,j,cs,h1,h2,h3,h4⟩:=flatten_get (fun cs hc=>hl cs (by simp [hc])) (q - e.length) c h
   exact ⟨i + 1,j,cs,by rw [Nat.add_mul];omega,by simpa using h2,h3,h4⟩

theorem flatten_at : ∀ {es : List (List AV)} {esz : Nat},(∀ cs ∈ es,cs.length = esz) → ∀ (i j : Nat) (cs : List AV) (c : AV),es[i]? = some cs → cs[j]? = some c → es.flatten[i * esz + j]? = some c
 | [],esz,_,i,j,cs,c,h,_=>by simp at h
 | e :: es,esz,hl,0,j,cs,c,h,h'=>by
  simp at h;subst h
  rw [List.flatten_cons,List.getElem?_append_left (by have:=(List.getElem?_eq_some_iff.1 h').1;omega)]
  simpa using h'
 | e :: es,esz,hl,i + 1,j,cs,c,h,h'=>by
  have he:=hl e (by simp)
  rw [List.flatten_cons,List.getElem?_append_right (by rw [Nat.add_mul];omega)]
  have:=flatten_at (es:=es) (fun cs hc=>hl cs (by simp [hc])) i j cs c (by simpa using h) h'
  rw [show (i + 1) * esz + j - e.length = i * esz + j by rw [Nat.add_mul];omega]
  exact this

theorem flatten_len : ∀ {es : List (List AV)} {esz : Nat},(∀ cs ∈ es,cs.length = esz) → es.flatten.length = es.length * esz
 | [],esz,_=>by simp
 | e :: es,esz,hl=>by
  rw [List.flatten_cons,List.length_append,flatten_len (fun cs hc=>hl cs (by simp [hc])),hl e (by simp),List.length_cons,Nat.add_mul]
  omega

theorem elems_ok (hw : WRel C w0 E H w) {a : AV} {u : Value} {esz n : Nat} {new : List (List AV)} (h : H.elems esz n a = some new) (hu : Rep C E a u) :
  ∃ vs,RepL C E new.flatten vs ∧ new.length = n ∧ (∀ cs ∈ new,cs.length = esz) ∧ ∀ w' : World,(∀ a,w'.cell? a = w.cell? a) → (Builtin.firstCells esz n u).run P w' = .ok vs.toArray w':=by
 unfold Heap.elems at h
 split at h
 ·split at h
  ·rename_i hn
   cases h;subst hn
   cases hu
   exact ⟨[],.nil,rfl,by simp,fun w' _=>by simp [Builtin.firstCells]⟩
  ·cases h
 ·split at h
  ·rename_i hn
   cases h;subst hn
   cases hu
   exact ⟨[],.nil,rfl,by simp,fun w' _=>by simp [Builtin.firstCells,loadCells,loadCellsFrom]⟩
  ·cases h
 ·rename_i b off len cap ex g
  split at h
  ·rename_i ty sz els gen wgen hb
   split at h
   ·rename_i hg
    obtain ⟨hg,rfl,hn⟩:=hg
    cases h
    cases hu with
    | slice _ _ _ _ _ _ L ad rc hL h1 h2 h3 h4 h5 h6 h7=>
     obtain ⟨L',hL',hl⟩:=(hw.row _ _ _ _ _ _ hb).loc g hg ((hw.dom _ _ _ hL).2.2 _ _ _ _ _ hb)
     rw [hL] at hL';cases hL'
     have hlen:=(hw.row _ _ _ _ _ _ hb).len
     have hext:=hl.ext
     have hsub : ∀ cs ∈ (els.drop off).take n,cs.length = sz:=fun cs hc=>hlen cs (List.mem_of_mem_drop (List.mem_of_mem_take hc))
     have hnl : ((els.drop off).take n).length = n:=by simp;omega
     obtain ⟨vs,r1,r2⟩:=choose_cells (C:=C) (E:=E) (w:=w) (blk:=L.blk) ((els.drop off).take n).flatten (L.co + (off - L.lo) * sz) (fun q c hq=>by
      obtain ⟨i,j,cs,e1,e2,e3,e4⟩:=flatten_get hsub q c hq
      rw [List.getElem?_take] at e2
      split at e2
      ·rw [List.getElem?_drop] at e2
       obtain ⟨v,hv,hr⟩:=hl.cell (off + i) j cs c (by omega) (by omega) e2 e3
       refine ⟨v,?_,hr⟩
       rw [show off + i - L.lo = (off - L.lo) + i by omega,Nat.add_mul] at hv
       rw [e1]
       rw [show L.co + (off - L.lo) * sz + (i * sz + j) = L.co + ((off - L.lo) * sz + i * sz) + j by omega]
       exact hv
      ·cases e2)
     refine ⟨vs,r1,hnl,hsub,fun w' hw'=>?_⟩
     have hvl : vs.length = n * sz:=by rw [r1.length,flatten_len hsub,hnl]
     rcases Nat.eq_zero_or_pos rc with h0 | h0
     ·have : n = 0:=by omega
      subst this
      have : vs = []:=List.eq_nil_of_length_eq_zero (by simpa using hvl)
      subst this
      simp [Builtin.firstCells,loadCells,loadCellsFrom]
     ·have had:=h6 h0
      subst had
      exact run_firstCells_some w' sz n _ _ _ vs hvl (fun j v hj=>by rw [hw',Addr.add_lit,hl.sz];exact r2 j v hj)
   ·cases h
  ·cases h
 ·rename_i sz es
  split at h
  ·rename_i hg
   obtain ⟨rfl,hn⟩:=hg
   cases h
   cases hu with
   | lst _ _ blk co len rc ad hE h1 h2 h6=>
    have hsub : ∀ cs ∈ es.take n,cs.length = sz:=fun cs hc=>by
     obtain ⟨i,hi⟩:=List.getElem?_of_mem (List.mem_of_mem_take hc)
     exact (hE.get i cs hi).1
    have hnl : (es.take n).length = n:=by simp;omega
    obtain ⟨vs,r1,r2⟩:=choose_cells (C:=C) (E:=E) (w:=w) (blk:=blk) (es.take n).flatten co (fun q c hq=>by
     obtain ⟨i,j,cs,e1,e2,e3,e4⟩:=flatten_get hsub q c hq
     rw [List.getElem?_take] at e2
     split at e2
     ·obtain ⟨_,hm⟩:=hE.get i cs e2
      obtain ⟨v,hv,hr⟩:=hm.get j c e3
      exact ⟨v,by rw [e1,← Nat.add_assoc];exact (hw.mem _ _ _ hv).2,hr⟩
     ·cases e2)
    refine ⟨vs,r1,hnl,hsub,fun w' hw'=>?_⟩
    have hvl : vs.length = n * sz:=by rw [r1.length,flatten_len hsub,hnl]
    rcases Nat.eq_zero_or_pos rc with h0 | h0
    ·have : n = 0:=by omega
     subst this
     have : vs = []:=List.eq_nil_of_length_eq_zero (by simpa using hvl)
     subst this
     simp [Builtin.firstCells,loadCells,loadCellsFrom]
    ·have had:=h6 h0
     subst had
     exact run_firstCells_some w' sz n _ _ _ vs hvl (fun j v hj=>by rw [hw',Addr.add_lit];exact r2 j v hj)
  ·cases h
 ·rename_i s
  split at h
  ·rename_i hg
   obtain ⟨rfl,hn⟩:=hg
   cases h
   obtain ⟨s',rfl,rfl⟩:=rep_str hu
   have hone : ∀ cs ∈ (((strOf s').take n).map fun (c : Nat)=>[AV.int .u8 (c : Int)]),cs.length = 1:=by
    intro cs hc;obtain ⟨c,_,rfl⟩:=List.mem_map.1 hc;rfl
   refine ⟨(s'.data.toList.take n).map fun b=>Value.int .u8 b.toNat,?_,by simp;omega,hone,fun w' hw'=>?_⟩
   ·have : ∀ l : List UInt8,RepL C E (((l.map UInt8.toNat).map fun (c : Nat)=>[AV.int .u8 (c : Int)]).flatten) (l.map fun b=>Value.int .u8 b.toNat):=by
     intro l
     induction l with
     | nil=>exact .nil
     | cons b l ih=>simpa using RepL.cons _ _ _ _ (.int _ _) ih
    have h2:=this (s'.data.toList.take n)
    unfold strOf
    rw [← List.map_take]
    exact h2
   ·simp only [Builtin.firstCells,Sem.run_pure]
    congr 1
    apply Array.ext'
    simp [List.map_take]
  ·cases h
 ·cases h

theorem len_ok {a : AV} {u : Value} {n : Nat} (h : a.len? = some n) (hu : Rep C E a u) (w' : World) : (Builtin.lenOf u).run P w' = .ok n w':=by
 unfold AV.len? at h
 split at h <;> first | (cases h;done) | skip
 all_goals cases h
 ·cases hu;simp [Builtin.lenOf]
 ·cases hu;simp [Builtin.lenOf]
 ·cases hu;simp [Builtin.lenOf]
 ·cases hu with
  | lst _ _ blk co len rc ad hE h1 h2 h6=>subst h1;simp [Builtin.lenOf]
 ·obtain ⟨s,rfl,rfl⟩:=rep_str hu;simp [Builtin.lenOf,strOf_length]

section run
variable {t u ty e : TypeId} {i : TypeInfo} {z : Value} {d : TypeDesc} {x : Value} {n : Nat} {news : List Value}

set_option maxHeartbeats 8000000 in
theorem run_append_fits (ht : P.underlying t = some (.slice e)) (hu : P.underlying u = some d) (hd : ∀ k,d ≠ .int k) (hi : P.info? e = some i) (hx : (Builtin.lenOf x).run P w = .ok n w)
  (hf : (Builtin.firstCells i.size n x).run P w = .ok news.toArray w) {a : Addr} {sLen sCap : Nat} (hfit : sLen + n ≤ sCap) {w' : World} (hst : (storeCells (a.add (sLen * i.size)) news).run P w = .ok () w') :
  (Builtin.append_ #[t,u] ty #[.slice (some a) sLen sCap,x]).run P w = .ok (.slice (some a) (sLen + n) sCap) w':=by
 cases d <;> first | (exact absurd rfl (hd _)) | simp [Builtin.append_,run_underlying ht,run_underlying hu,sizeOf,typeInfo,hi,hx,hf,hfit,hst]

set_option maxHeartbeats 8000000 in
theorem run_append_none (ht : P.underlying t = some (.slice e)) (hu : P.underlying u = some d) (hd : ∀ k,d ≠ .int k) (hi : P.info? e = some i) (hx : (Builtin.lenOf x).run P w = .ok 0 w)
  (hf : (Builtin.firstCells i.size 0 x).run P w = .ok #[] w) : (Builtin.append_ #[t,u] ty #[.slice none 0 0,x]).run P w = .ok (.slice none 0 0) w:=by
 cases d <;> first | (exact absurd rfl (hd _)) | simp [Builtin.append_,run_underlying ht,run_underlying hu,sizeOf,typeInfo,hi,hx,hf]

set_option maxHeartbeats 8000000 in
theorem run_append_new (ht : P.underlying t = some (.slice e)) (hu : P.underlying u = some d) (hd : ∀ k,d ≠ .int k) (hi : P.info? e = some i) (hz : i.zero = some z) (hx : (Builtin.lenOf x).run P w = .ok n w)
    (hf : (Builtin.firstCells i.size n x).run P w.drew = .ok news.toArray w.drew) {base : Option Addr} {sLen sCap : Nat} {olds : List Value}
    (ho : (Builtin.firstCells i.size sLen (.slice base sLen sCap)).run P w.drew = .ok olds.toArray w.drew) (hfit : sCap < sLen + n) (hb : (sLen + n) * i.bytes ≤ 140737488355328) (hl : sLen + n ≤ 140737488355328) :
    (Builtin.append_ #[t,u] ty #[.slice base sLen sCap,x]).run P w =
      .ok (.slice (some ⟨w.heap.size,0,none⟩) (sLen + n) (grownCap w (sLen + n) sCap e))
        (w.drew.alloc (.cells (olds.toArray ++ news.toArray ++ Builtin.zeroCells z.cells (grownCap w (sLen + n) sCap e - (sLen + n))) e)):=by
  have hn : ¬ (sLen + n ≤ sCap):=by omega
  have h63' : ¬ (9223372036854775807 < ((sLen : Int) + (n : Int))):=by omega
  have h48' : ¬ (281474976710656 < Builtin.nextslicecap (sLen + n) sCap * i.bytes):=by
    have:=growslice_fits (bytes:=i.bytes) hfit hb
    omega
  cases d <;> first
    | (exact absurd rfl (hd _))
    | (simp [Builtin.append_,run_underlying ht,run_underlying hu,sizeOf,typeInfo,zeroValue,hi,hz,hx,hn,h63',h48',Question.forced,hf,ho,newRow,grownCap]
       done)
    | (simp [Builtin.append_,run_underlying ht,run_underlying hu,sizeOf,typeInfo,zeroValue,hi,hz,hx,hn,h63',h48',Question.forced,hf,ho,newRow,grownCap]
       congr 2
       apply Array.ext'
       simp [List.append_assoc])
end run

end
end Go.Ev
