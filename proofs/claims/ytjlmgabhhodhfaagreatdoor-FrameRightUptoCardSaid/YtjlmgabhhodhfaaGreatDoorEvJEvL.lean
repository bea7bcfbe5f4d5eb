import Derived.Test.YtjlmgabhhodhfaaGreatDoorEvHEvI
import Derived.Laws.MakeOwn
set_option linter.unusedVariables false
set_option linter.unusedSimpArgs false
namespace Go.Ev
section
variable {P : Program} {C : Mem} {w0 : World} {E : Emb} {H : Heap} {w : World}

theorem newRow_ok (hw : WRel C w0 E H w) (hfree : H.blk H.next = none) {w1 : World} (hc1 : Chg w w1 (fun _ _=>False)) (hs1 : w1.heap.size = w.heap.size) {ty esz : Nat} {els : List (List AV)} {vals : List Value} {zs : Array Value} {rc : Nat} (hr : RepL C E els.flatten vals)
  (hl : ∀ cs ∈ els,cs.length = esz) (hrc : els.length ≤ rc) (hz : vals.length + zs.size = rc * esz) {k cap : Nat} {ex : Bool} (hk : k ≤ cap) (hcap : cap ≤ els.length) (hex : ex = true → rc = cap) :
  ∃ E',E.le E' ∧ WRel C w0 E' (H.push (.row ty esz els 0 0)) (w1.alloc (.cells (vals.toArray ++ zs) ty)) ∧
   Rep C E' (.slice H.next 0 k cap ex 0) (.slice (some ⟨w.heap.size,0,none⟩) k rc):=by
 have hvl : vals.length = els.length * esz:=by rw [hr.length,flatten_len hl]
 let L : Loc:=⟨w.heap.size,0,0,els.length,esz,rc * esz⟩
 have hnew:=hw.newRow hfree (w':=w1.alloc (.cells (vals.toArray ++ zs) ty)) (hc1.trans (Chg.alloc w1 _ _)) ty esz els L rfl (by simp [hs1]) rfl rfl rfl hl (by simp only [L,Nat.zero_add,Nat.sub_zero];exact Nat.mul_le_mul_right _ hrc)
  (fun o ho=>by
   simp only [L] at ho ⊢
   rw [← hs1]
   refine ⟨?_,World.frozen?_alloc_new _ _ _ _⟩
   rw [World.cell?_alloc_new,Array.getElem?_eq_getElem (by simp;omega)];rfl)
  (fun i j cs c hi h3 h4=>by
   obtain ⟨z,hz,hr'⟩:=hr.get _ _ (flatten_at hl i j cs c h3 h4)
   refine ⟨z,?_,hr'⟩
   simp only [L]
   rw [← hs1,World.cell?_alloc_new,Nat.zero_add,Array.getElem?_append_left (by have:=(List.getElem?_eq_some_iff.1 hz).1;simpa using this)]
   simpa using hz)
 refine ⟨_,hnew.1,hnew.2,?_⟩
 exact .slice _ 0 k cap ex 0 L _ rc (Emb.set_same _ _ _ _) (by simp [L]) (by simp [L];omega) hk (by omega) hex (fun _=>by simp [L]) (by simp [L])

theorem setAll_length {els new : List (List AV)} {i : Nat} (h : i + new.length ≤ els.length) : (setAll els i new).length = els.length:=by
 simp [setAll];omega

theorem setAll_get {els new : List (List AV)} {i j : Nat} (h : i + new.length ≤ els.length) : (setAll els i new)[j]? = if i ≤ j ∧ j < i + new.length then new[j - i]? else els[j]?:=by
 unfold setAll
 rw [List.append_assoc]
 by_cases h1 : j < i
 ·rw [List.getElem?_append_left (by simp;omega),if_neg (by omega),List.getElem?_take,if_pos h1]
 ·rw [List.getElem?_append_right (by simp;omega)]
  have e : j - (els.take i).length = j - i:=by simp;omega
  rw [e]
  by_cases h2 : j < i + new.length
  ·rw [if_pos ⟨by omega,h2⟩,List.getElem?_append_left (by omega)]
  ·rw [if_neg (by omega),List.getElem?_append_right (by omega),List.getElem?_drop]
   congr 1
   omega

theorem size_zeroCells' (z : Array Value) (n : Nat) : (Builtin.zeroCells z n).size = n * z.size:=by simp [Builtin.zeroCells]

theorem setAll_ok (hw : WRel C w0 E H w) {b ty esz : Nat} {els new : List (List AV)} {gen wgen : Nat} {vals : List Value} {G : Loc} (hb : H.blk b = some (.row ty esz els gen wgen)) (hG : E.loc b gen = some G) {k : Nat} (hlo : G.lo ≤ k)
  (hk : k + new.length ≤ els.length) (hr : RepL C E new.flatten vals) (hl : ∀ cs ∈ new,cs.length = esz) (hcell : new.all (fun cs=>cs.all AV.isCell) = true) :
  (storeCells ⟨G.blk,G.co + (k - G.lo) * esz,none⟩ vals).run P w = .ok () (w.setCells G.blk (G.co + (k - G.lo) * esz) vals) ∧
  WRel C w0 E (H.set b (.row ty esz (setAll els k new) gen gen)) (w.setCells G.blk (G.co + (k - G.lo) * esz) vals):=by
 obtain ⟨G',hG',hlocok,hext⟩:=hw.newest hb
 rw [hG] at hG';cases hG'
 have hrow:=hw.row _ _ _ _ _ _ hb
 have hvl : vals.length = new.length * esz:=by rw [hr.length,flatten_len hl]
 generalize hoff : G.co + (k - G.lo) * esz = off
 have hroom:=hlocok.room
 have hin : ∀ j,j < vals.length → off + j < G.size:=fun j hj=>by
  have h1 : (k - G.lo + new.length) * esz ≤ (G.ext - G.lo) * esz:=Nat.mul_le_mul_right _ (by omega)
  rw [Nat.add_mul] at h1
  omega
 have hc : ∀ j,j < vals.length → (w.cell? ⟨G.blk,off + j,none⟩).isSome = true:=fun j hj=>(hlocok.shape _ (hin j hj)).1
 have hone : ∀ v ∈ vals,v.oneCell' = true:=repL_oneCell hr (by
  rw [List.all_eq_true] at hcell ⊢
  intro c hc'
  obtain ⟨cs,h1,h2⟩:=List.mem_flatten.1 hc'
  exact (List.all_eq_true.1 (hcell cs h1)) c h2)
 refine ⟨run_storeCells_cells (P:=P) G.blk off vals 0 w (by simpa using hc) (fun j hj=>by simpa using (hlocok.shape _ (hin j hj)).2) hone,?_⟩
 have hlen' : ∀ (i : Nat) (cs : List AV),(setAll els k new)[i]? = some cs → cs.length = esz:=fun i cs h=>by
  rw [setAll_get hk] at h
  split at h
  ·exact hl cs (List.mem_of_getElem? h)
  ·exact hrow.len cs (List.mem_of_getElem? h)
 refine hw.write (Chg.setCells w G.blk off vals hc) hb hG (fun x y ⟨e1,e2,e3⟩=>⟨e1,?_⟩) (setAll_length hk) (fun cs hcs=>?_) (fun i j cs c e1 e2 e3 e4=>?_)
 ·subst e1
  have:=hc (y - off) (by omega)
  rwa [show off + (y - off) = y by omega] at this
 ·obtain ⟨i,hi⟩:=List.getElem?_of_mem hcs
  exact hlen' i cs hi
 ·have hj : j < esz:=by
   have:=hlen' i cs e3
   have:=(List.getElem?_eq_some_iff.1 e4).1
   omega
  rw [setAll_get hk] at e3
  split at e3
  ·rename_i hki
   obtain ⟨z,hz,hr'⟩:=hr.get _ _ (flatten_at hl (i - k) j cs c e3 e4)
   refine ⟨z,?_,hr'⟩
   have hlt:=(List.getElem?_eq_some_iff.1 hz).1
   have:=World.cell?_setCells_in G.blk vals off w hc ((i - k) * esz + j) hlt
   rw [show off + ((i - k) * esz + j) = G.co + (i - G.lo) * esz + j by
    rw [← hoff,show i - G.lo = (k - G.lo) + (i - k) by omega,Nat.add_mul];omega] at this
   rw [this,← hz,List.getElem?_eq_getElem hlt]
  ·rename_i hki
   obtain ⟨z,hz,hr'⟩:=hlocok.cell i j cs c e1 e2 e3 e4
   refine ⟨z,?_,hr'⟩
   rw [World.cell?_setCells_out]
   ·exact hz
   ·intro _ _
    simp only
    apply Classical.byContradiction
    intro hcon
    have hk2 : ∃ p q,p < new.length ∧ q < esz ∧ (i - G.lo) * esz + j = ((k - G.lo) + p) * esz + q:=by
     refine ⟨((i - G.lo) * esz + j - (k - G.lo) * esz) / esz,((i - G.lo) * esz + j - (k - G.lo) * esz) % esz,?_,Nat.mod_lt _ (by omega),?_⟩
     ·rw [Nat.div_lt_iff_lt_mul (by omega)];omega
     ·have:=Nat.div_add_mod ((i - G.lo) * esz + j - (k - G.lo) * esz) esz
      rw [Nat.add_mul]
      rw [Nat.mul_comm] at this
      omega
    obtain ⟨p,q,hp,hq,heq⟩:=hk2
    have:=(place_inj hj hq heq).1
    omega

theorem append_core (hw : WRel C w0 E H w) {t u ty e : TypeId} {i : TypeInfo} {z : Value} {d : TypeDesc} (ht : P.underlying t = some (.slice e)) (hu : P.underlying u = some d) (hd : ∀ k,d ≠ .int k) (hi : P.info? e = some i) (hz : i.zero = some z)
  (hzs : z.cells.size = i.size) {s r : AV} {sv xv : Value} {n : Nat} {new : List (List AV)} {H' : Heap} (hfree : H.blk H.next = none ∨ H'.next = H.next)
  (ha : H.append e i.size i.bytes s new = some (r,H')) (hs : Rep C E s sv) {vs : List Value} (hvs : RepL C E new.flatten vs) (hnl : new.length = n) (hlen : ∀ cs ∈ new,cs.length = i.size)
  (hfc : ∀ w' : World,(∀ a,w'.cell? a = w.cell? a) → (Builtin.firstCells i.size n xv).run P w' = .ok vs.toArray w') (hlx : (Builtin.lenOf xv).run P w = .ok n w) :
  ∃ y E' w',(Builtin.append_ #[t,u] ty #[sv,xv]).run P w = .ok y w' ∧ E.le E' ∧ WRel C w0 E' H' w' ∧ Rep C E' r y:=by
 have hf:=hfc w (fun _=>rfl)
 have hfd:=hfc w.drew (fun _=>rfl)
 have hvl : vs.length = n * i.size:=by rw [hvs.length,flatten_len hlen,hnl]
 have hnil : n = 0 → vs = []:=fun h0=>List.eq_nil_of_length_eq_zero (by rw [hvl,h0,Nat.zero_mul])
 unfold Heap.append at ha
 split at ha
 case isFalse=>cases ha
 rename_i hcell
 have made : ∀ (base : Option Addr) (sLen sCap : Nat) (old : List (List AV)) (olds : List Value),old.length = sLen → (∀ cs ∈ old,cs.length = i.size) → RepL C E old.flatten olds →
   (Builtin.firstCells i.size sLen (.slice base sLen sCap)).run P w.drew = .ok olds.toArray w.drew → sCap < sLen + n → (sLen + n) * i.bytes ≤ 140737488355328 → sLen + n ≤ 140737488355328 → H.blk H.next = none →
   ∃ y E' w',(Builtin.append_ #[t,u] ty #[.slice base sLen sCap,xv]).run P w = .ok y w' ∧ E.le E' ∧ WRel C w0 E' (H.push (.row e i.size (old ++ new) 0 0)) w' ∧ Rep C E' (.slice H.next 0 (sLen + n) (sLen + n) false 0) y:=by
  intro base sLen sCap old olds h1 h2 h3 h4 h5 h6 h7 hfree
  have hrun:=run_append_new (P:=P) (ty:=ty) ht hu hd hi hz hlx hfd h4 h5 h6 h7
  have hge:=grownCap_ge w (sLen + n) sCap e
  have hol : olds.length = sLen * i.size:=by rw [h3.length,flatten_len h2,h1]
  have hll : ∀ cs ∈ old ++ new,cs.length = i.size:=fun cs hc=>by
   rcases List.mem_append.1 hc with hc | hc
   ·exact h2 cs hc
   ·exact hlen cs hc
  obtain ⟨E',g1,g2,g3⟩:=newRow_ok (ty:=e) hw hfree (Chg.drew w _) rfl (els:=old ++ new) (vals:=olds ++ vs) (zs:=Builtin.zeroCells z.cells (grownCap w (sLen + n) sCap e - (sLen + n))) (rc:=grownCap w (sLen + n) sCap e)
   (by rw [List.flatten_append];exact repL_append h3 hvs) hll (by simp;omega) (by
    rw [size_zeroCells',hzs,List.length_append,hol,hvl,← Nat.add_mul,← Nat.add_mul];congr 1;omega) (k:=sLen + n) (cap:=sLen + n) (ex:=false) (Nat.le_refl _) (by simp;omega) (by simp)
  refine ⟨_,E',_,hrun,g1,?_,g3⟩
  have : (olds ++ vs).toArray ++ Builtin.zeroCells z.cells (grownCap w (sLen + n) sCap e - (sLen + n)) = olds.toArray ++ vs.toArray ++ Builtin.zeroCells z.cells (grownCap w (sLen + n) sCap e - (sLen + n)):=by simp
  rw [this] at g2
  exact g2
 split at ha
 ·cases hs
  split at ha
  ·rename_i h0
   cases ha
   have h0' : n = 0:=by omega
   subst h0'
   refine ⟨_,E,w,run_append_none (P:=P) ht hu hd hi hlx (by rw [hf,hnil rfl]),Emb.le_refl _,hw,.nilslice⟩
  ·split at ha
   ·rename_i hb
    cases ha
    unfold maxBytes at hb
    have:=made none 0 0 [] [] rfl (by simp) .nil (by simp [Builtin.firstCells]) (by omega) (by rw [Nat.zero_add,← hnl];exact hb.1) (by omega) (hfree.resolve_right (by simp [Heap.push]))
    simpa [hnl] using this
   ·cases ha
 ·cases hs with
  | eslice a=>
   split at ha
   ·rename_i h0
    cases ha
    have h0' : n = 0:=by omega
    subst h0'
    refine ⟨_,E,w,run_append_fits (P:=P) ht hu hd hi hlx hf (by omega) (w':=w) (by rw [hnil rfl];simp [storeCells]),Emb.le_refl _,hw,.eslice a⟩
   ·split at ha
    ·rename_i hb
     cases ha
     unfold maxBytes at hb
     have:=made (some a) 0 0 [] [] rfl (by simp) .nil (by simp [Builtin.firstCells,loadCells,loadCellsFrom]) (by omega) (by rw [Nat.zero_add,← hnl];exact hb.1) (by omega) (hfree.resolve_right (by simp [Heap.push]))
     simpa [hnl] using this
    ·cases ha
 ·rename_i sz es
  split at ha
  ·rename_i h0
   cases ha
   have h0' : n = 0:=by omega
   subst h0'
   have hs':=hs
   cases hs with
   | lst _ _ blk co len rc ad hE h1 h2 h6=>
    exact ⟨_,E,w,run_append_fits (P:=P) ht hu hd hi hlx hf (by omega) (w':=w) (by rw [hnil rfl];simp [storeCells]),Emb.le_refl _,hw,hs'⟩
  ·cases ha
 ·rename_i b off len cap ex g
  have hs':=hs
  cases hs with
  | slice _ _ _ _ _ _ L a rc hL h1 h2 h3 h4 h5 h6 h7=>
   split at ha
   ·rename_i h0
    cases ha
    have h0' : n = 0:=by omega
    subst h0'
    exact ⟨_,E,w,run_append_fits (P:=P) ht hu hd hi hlx hf (by omega) (w':=w) (by rw [hnil rfl];simp [storeCells]),Emb.le_refl _,hw,hs'⟩
   ·rename_i hnew0
    split at ha
    ·rename_i ty' sz els gen wgen hb
     split at ha
     ·rename_i hg
      obtain ⟨hg,rfl,hby,hml⟩:=hg
      unfold maxBytes at hby hml
      rw [hnl] at hby hml
      obtain ⟨L',hL',hl⟩:=(hw.row _ _ _ _ _ _ hb).loc g hg ((hw.dom _ _ _ hL).2.2 _ _ _ _ _ hb)
      rw [hL] at hL';cases hL'
      have hlenE:=(hw.row _ _ _ _ _ _ hb).len
      have hext:=hl.ext
      have hLsz:=hl.sz
      split at ha
      ·rename_i hfit
       split at ha
       ·rename_i hgg
        subst hgg
        cases ha
        have had:=h6 (by omega)
        subst had
        have hst:=setAll_ok (P:=P) hw hb hL (k:=off + len) (by omega) (by omega) hvs hlen hcell
        refine ⟨_,E,_,run_append_fits (P:=P) ht hu hd hi hlx hf (by omega) (w':=w.setCells L.blk (L.co + (off + len - L.lo) * i.size) vs) ?_,Emb.le_refl _,hst.2,?_⟩
        ·rw [Addr.add_lit,hLsz,show L.co + (off - L.lo) * i.size + len * i.size = L.co + (off + len - L.lo) * i.size by
          rw [show off + len - L.lo = (off - L.lo) + len by omega,Nat.add_mul];omega]
         exact hst.1
        ·rw [← hnl]
         exact .slice b off (len + new.length) cap ex g L _ rc hL h1 h2 hfit h4 h5 h6 h7
       ·cases ha
      ·rename_i hnfit
       have holdE : H.elems i.size len (.slice b off len cap ex g) = some ((els.drop off).take len):=by
        simp [Heap.elems,hb,hg]
       obtain ⟨olds,ho1,ho2,ho3,ho4⟩:=elems_ok (P:=P) hw holdE hs'
       split at ha
       ·rename_i hex
        cases ha
        have:=made (some a) len rc _ olds ho2 ho3 ho1 (ho4 w.drew (fun _=>rfl)) (by have:=h5 hex;omega) hby hml (hfree.resolve_right (by simp [Heap.push]))
        rw [hnl]
        exact this
       ·rename_i hex
        split at ha
        ·rename_i hfr
         obtain ⟨rfl,hfr⟩:=hfr
         cases ha
         rw [hnl]
         by_cases hroom : len + n ≤ rc
         ·-- in place
          have had:=h6 (by omega)
          subst had
          have hGext:=(hw.row _ _ _ _ _ _ hb).last L hL
          generalize hoff : L.co + (off + len - L.lo) * i.size = o0
          have hsp : L.co + (off - L.lo) * i.size + len * i.size = o0:=by
           rw [← hoff,show off + len - L.lo = (off - L.lo) + len by omega,Nat.add_mul];omega
          have hend : L.co + (L.ext - L.lo) * i.size = o0:=by rw [← hoff];congr 3;omega
          have hin : ∀ j,j < vs.length → o0 + j < L.size:=fun j hj=>by
           have hh : (off - L.lo + (len + n)) * i.size ≤ (off - L.lo + rc) * i.size:=Nat.mul_le_mul_right _ (by omega)
           rw [hLsz] at h7
           rw [Nat.add_mul,Nat.add_mul] at hh
           omega
          have hc : ∀ j,j < vs.length → (w.cell? ⟨L.blk,o0 + j,none⟩).isSome = true:=fun j hj=>(hl.shape _ (hin j hj)).1
          have hone : ∀ v ∈ vs,v.oneCell' = true:=repL_oneCell hvs (by
           rw [List.all_eq_true] at hcell ⊢
           intro c hc'
           obtain ⟨cs,g1,g2⟩:=List.mem_flatten.1 hc'
           exact (List.all_eq_true.1 (hcell cs g1)) c g2)
          have hst:=run_storeCells_cells (P:=P) L.blk o0 vs 0 w (by simpa using hc) (fun j hj=>by simpa using (hl.shape _ (hin j hj)).2) hone
          have hchg:=Chg.setCells w L.blk o0 vs hc
          let L2 : Loc:=⟨L.blk,L.co,L.lo,L.ext + n,i.size,L.size⟩
          have hlocok : LocOk C E (w.setCells L.blk o0 vs) w0.heap.size L2 i.size (els ++ new):=by
           refine ⟨rfl,by have:=hl.lo;simp only [L2];omega,by simp only [L2];simp;omega,hl.base,Nat.lt_of_lt_of_le hl.lt hchg.size,?_,fun o ho=>⟨hchg.some _ _ hl.lt (hl.shape o ho).1,by rw [hchg.frozen _ _ hl.lt];exact (hl.shape o ho).2⟩,?_⟩
           ·simp only [L2]
            have hh : (off - L.lo + (len + n)) * i.size ≤ (off - L.lo + rc) * i.size:=Nat.mul_le_mul_right _ (by omega)
            rw [hLsz] at h7
            rw [show L.ext + n - L.lo = off - L.lo + (len + n) by omega]
            omega
           ·intro i' j cs c e1 e2 e3 e4
            simp only [L2] at e1 e2 ⊢
            by_cases hi' : i' < els.length
            ·rw [List.getElem?_append_left hi'] at e3
             obtain ⟨zz,hzz,hrr⟩:=hl.cell i' j cs c e1 (by omega) e3 e4
             refine ⟨zz,?_,hrr⟩
             rw [World.cell?_setCells_out]
             ·exact hzz
             ·intro _ _
              left
              simp only
              have hj : j < i.size:=by
               have:=hlenE cs (List.mem_of_getElem? e3)
               have:=(List.getElem?_eq_some_iff.1 e4).1
               omega
              have hh : (i' - L.lo + 1) * i.size ≤ (L.ext - L.lo) * i.size:=Nat.mul_le_mul_right _ (by omega)
              rw [Nat.add_mul] at hh
              omega
            ·rw [List.getElem?_append_right (by omega)] at e3
             obtain ⟨zz,hzz,hrr⟩:=hvs.get _ _ (flatten_at hlen _ j cs c e3 e4)
             refine ⟨zz,?_,hrr⟩
             have hlt:=(List.getElem?_eq_some_iff.1 hzz).1
             have:=World.cell?_setCells_in L.blk vs o0 w hc _ hlt
             rw [show o0 + ((i' - els.length) * i.size + j) = L.co + (i' - L.lo) * i.size + j by
              rw [← hend,show i' - L.lo = (L.ext - L.lo) + (i' - els.length) by omega,Nat.add_mul];omega] at this
             rw [this,← hzz,List.getElem?_eq_getElem hlt]
          have hgrow:=hw.grow hchg (L:=L2) hb hL (fun x y ⟨e1,e2,e3⟩=>⟨e1,by
            subst e1
            have:=hc (y - o0) (by omega)
            rwa [show o0 + (y - o0) = y by omega] at this,by omega⟩) hlen (.inl ⟨rfl,by
            simp only [L2]
            have : (L.ext - L.lo) * i.size ≤ (L.ext + n - L.lo) * i.size:=Nat.mul_le_mul_right _ (by omega)
            omega⟩) hlocok (by simp only [L2];simp;omega)
          refine ⟨_,_,_,run_append_fits (P:=P) ht hu hd hi hlx hf hroom (w':=w.setCells L.blk o0 vs) ?_,hgrow.1,hgrow.2,?_⟩
          ·rw [Addr.add_lit,hLsz,hsp];simpa using hst
          ·refine .slice b off (len + n) (len + n) false (g + 1) L2 _ rc (Emb.set_same _ _ _ _) (by simp only [L2];omega) (by simp only [L2];omega) (Nat.le_refl _) hroom (by simp) (fun _=>?_) ?_
           ·simp only [L2];rw [hLsz]
           ·simp only [L2];rw [hLsz] at h7;exact h7
         ·-- in a block of its own
          have hrun:=run_append_new (P:=P) (ty:=ty) ht hu hd hi hz hlx hfd (ho4 w.drew (fun _=>rfl)) (sCap:=rc) (base:=some a) (by omega) hby hml
          generalize hgc : grownCap w (len + n) rc e = gc at hrun
          have hge : len + n ≤ gc:=hgc ▸ grownCap_ge w (len + n) rc e
          have hol : olds.length = len * i.size:=by rw [ho1.length,flatten_len ho3,ho2]
          let cells : Array Value:=olds.toArray ++ vs.toArray ++ Builtin.zeroCells z.cells (gc - (len + n))
          have hcs : cells.size = gc * i.size:=by
           simp only [cells,Array.size_append,List.size_toArray,size_zeroCells',hzs,hol,hvl,← Nat.add_mul]
           congr 1;omega
          let L2 : Loc:=⟨w.heap.size,0,off,off + len + n,i.size,gc * i.size⟩
          have hchg : Chg w (w.drew.alloc (.cells cells e)) (fun _ _=>False):=(Chg.drew w _).trans (Chg.alloc w.drew _ _)
          have hboth : RepL C E (((els.drop off).take len) ++ new).flatten (olds ++ vs):=by rw [List.flatten_append];exact repL_append ho1 hvs
          have hbothl : ∀ cs ∈ ((els.drop off).take len) ++ new,cs.length = i.size:=fun cs hc=>by
           rcases List.mem_append.1 hc with hc | hc
           ·exact ho3 cs hc
           ·exact hlen cs hc
          have hdrop : (els.drop off).take len = els.drop off:=List.take_of_length_le (by simp;omega)
          have hlocok : LocOk C E (w.drew.alloc (.cells cells e)) w0.heap.size L2 i.size (els ++ new):=by
           refine ⟨rfl,by simp only [L2];omega,by simp only [L2];simp;omega,by simp only [L2];exact hw.below.size,by simp [L2],?_,fun o ho=>?_,?_⟩
           ·simp only [L2,Nat.zero_add];exact Nat.mul_le_mul_right _ (by omega)
           ·simp only [L2] at ho ⊢
            refine ⟨?_,World.frozen?_alloc_new w.drew _ _ _⟩
            have:=World.cell?_alloc_new w.drew cells e o
            rw [World.size_drew] at this
            rw [this,Array.getElem?_eq_getElem (by omega)];rfl
           ·intro i' j cs c e1 e2 e3 e4
            simp only [L2] at e1 e2 ⊢
            have e3' : (((els.drop off).take len) ++ new)[i' - off]? = some cs:=by
             rw [hdrop,← List.drop_append_of_le_length (by omega),List.getElem?_drop,show off + (i' - off) = i' by omega]
             exact e3
            obtain ⟨zz,hzz,hrr⟩:=hboth.get _ _ (flatten_at hbothl _ j cs c e3' e4)
            refine ⟨zz,?_,hrr⟩
            have:=World.cell?_alloc_new w.drew cells e ((i' - off) * i.size + j)
            rw [World.size_drew] at this
            rw [Nat.zero_add,this]
            have hlt:=(List.getElem?_eq_some_iff.1 hzz).1
            simp only [cells]
            rw [Array.getElem?_append_left (by simpa using hlt)]
            rw [← hzz]
            simp
          have hgrow:=hw.grow hchg (L:=L2) hb hL (fun x y hf=>hf.elim) hlen (.inr (by simp [L2])) hlocok (by simp only [L2];simp;omega)
          refine ⟨_,_,_,hrun,hgrow.1,hgrow.2,?_⟩
          refine .slice b off (len + n) (len + n) false (g + 1) L2 _ gc (Emb.set_same _ _ _ _) (by simp only [L2];omega) (by simp only [L2];omega) (Nat.le_refl _) hge (by simp) (fun _=>?_) ?_
          ·simp only [L2];simp
          ·simp only [L2];simp
        ·cases ha
     ·cases ha
    ·cases ha
 ·cases ha

theorem append_ok (hw : WRel C w0 E H w) {t u ty e : TypeId} {i : TypeInfo} {z : Value} {d : TypeDesc} (ht : P.underlying t = some (.slice e)) (hu : P.underlying u = some d) (hd : ∀ k,d ≠ .int k) (hi : P.info? e = some i) (hz : i.zero = some z)
  (hzs : z.cells.size = i.size) {s x r : AV} {sv xv : Value} {n : Nat} {new : List (List AV)} {H' : Heap} (hfree : H.blk H.next = none ∨ H'.next = H.next) (hn : x.len? = some n) (he : H.elems i.size n x = some new)
  (ha : H.append e i.size i.bytes s new = some (r,H')) (hs : Rep C E s sv) (hx : Rep C E x xv) :
  ∃ y E' w',(Builtin.append_ #[t,u] ty #[sv,xv]).run P w = .ok y w' ∧ E.le E' ∧ WRel C w0 E' H' w' ∧ Rep C E' r y:=by
 obtain ⟨vs,hvs,hnl,hlen,hfc⟩:=elems_ok (P:=P) hw he hx
 exact append_core (P:=P) hw ht hu hd hi hz hzs hfree ha hs hvs hnl hlen hfc (len_ok (P:=P) hn hx w)

theorem append_trunc {e : TypeId} {esz bytes b off len : Nat} {ty gen : Nat} {els new : List (List AV)} (hb0 : H.blk b ≠ none) (hc : new.all (fun cs=>cs.all AV.isCell) = true) (hn : 0 < new.length) (hl : off + len ≤ els.length) (h1 : (len + new.length) * bytes ≤ maxBytes) (h2 : len + new.length ≤ maxBytes) :
  (H.set b (.row ty esz (els.take (off + len)) (gen + 1) (gen + 1))).append e esz bytes (.slice b off len len false (gen + 1)) new = some (.slice b off (len + new.length) (len + new.length) false (gen + 2),H.set b (.row ty esz (els.take (off + len) ++ new) (gen + 2) (gen + 1))):=by
 have hss : ∀ x y,(H.set b x).set b y = H.set b y:=fun x y=>by
  simp only [Heap.set]
  congr 1
  funext i
  by_cases h : i = b <;> simp [h]
 have hn0 : new.length ≠ 0:=by omega
 have hlt : off + len = (els.take (off + len)).length:=by rw [List.length_take];omega
 simp only [Heap.append,hc,if_true,hn0,if_false,Heap.set_same,hss]
 rw [if_pos ⟨Nat.le_refl _,trivial,h1,h2⟩,if_neg (by omega)]
 simp only [Bool.false_eq_true,if_false]
 rw [if_pos ⟨trivial,hlt⟩]

theorem append1_ok (hw : WRel C w0 E H w) {t u ty e : TypeId} {i : TypeInfo} {z : Value} {d : TypeDesc} (ht : P.underlying t = some (.slice e)) (hu : P.underlying u = some d) (hd : ∀ k,d ≠ .int k) (hi : P.info? e = some i) (hz : i.zero = some z)
  (hzs : z.cells.size = i.size) {s x r : AV} {sv xv : Value} {n : Nat} {new : List (List AV)} {H' : Heap} (hfree : H.blk H.next = none ∨ H'.next = H.next) (hn : x.len? = some n) (he : H.elems i.size n x = some new)
  (ha : H.append1 e i.size i.bytes s new = some (r,H')) (hs : Rep C E s sv) (hx : Rep C E x xv) :
  ∃ y E' w',(Builtin.append_ #[t,u] ty #[sv,xv]).run P w = .ok y w' ∧ E.le E' ∧ WRel C w0 E' H' w' ∧ Rep C E' r y:=by
 unfold Heap.append1 at ha
 split at ha
 ·rename_i r0 h0
  cases ha
  exact append_ok (P:=P) hw ht hu hd hi hz hzs hfree hn he h0 hs hx
 ·split at ha
  ·rename_i b off len cap g _
   split at ha
   ·rename_i ty' sz els gen wgen hb
    split at ha
    ·rename_i hc
     obtain ⟨c1,c2,rfl,c3,rfl,c4,c5,c6⟩:=hc
     cases ha
     cases hs with
     | slice _ _ _ _ _ _ L a rc hL h1 h2 h3 h4 h5 h6 h7=>
      obtain ⟨t1,t2⟩:=hw.trunc hb hL (k:=off + len) (by omega) c4
      obtain ⟨vs,hvs,hnl,hlen,hfc⟩:=elems_ok (P:=P) hw he hx
      have hb0 : H.blk b ≠ none:=by rw [hb];simp
      obtain ⟨y,E',w',q1,q2,q3,q4⟩:=append_core (P:=P) (ty:=ty) t2 ht hu hd hi hz hzs (s:=.slice b off len len false (g + 1)) (sv:=.slice (some a) len rc) (xv:=xv) (n:=n) (new:=new) (.inr (by rfl))
       (append_trunc hb0 c1 c2 c4 c5 c6) (.slice b off len len false (g + 1) _ a rc (Emb.set_same _ _ _ _) h1 (Nat.le_refl _) (Nat.le_refl _) (by omega) (by simp) h6 h7)
       (RepL.mono (Mem.le_refl _) t1 hvs) hnl hlen hfc (len_ok (P:=P) hn hx w)
      exact ⟨y,E',w',q1,Emb.le_trans t1 q2,q3,q4⟩
    ·cases ha
   ·cases ha
  ·cases ha

end
end Go.Ev
set_option linter.unusedVariables false
set_option linter.unusedSimpArgs false
namespace Go.Ev
section
variable {P : Program} {C : Mem} {w0 : World} {E : Emb} {H : Heap} {w : World}

theorem foldl_set_list (off : Nat) : ∀ (vs : List Value) (k : Nat) (arr : Array Value),off + k + vs.length ≤ arr.size →
  ((vs.zipIdx k).foldl (fun (cs : Array Value) (p : Value × Nat)=>cs.setIfInBounds (off + p.2) p.1) arr).toList = arr.toList.take (off + k) ++ vs ++ arr.toList.drop (off + k + vs.length)
 | [],k,arr,_=>by simp
 | v :: vs,k,arr,h=>by
  simp only [List.zipIdx_cons,List.foldl_cons]
  rw [foldl_set_list off vs (k + 1) (arr.setIfInBounds (off + k) v) (by simp at h ⊢;omega)]
  have:=list_seg_step arr.toList (off + k) v vs (by simp at h ⊢;omega)
  simpa [Nat.add_assoc] using this

inductive RepP (C : Mem) (E : Emb) : List (Nat × AV) → List (Nat × Value) → Prop
 | nil : RepP C E [] []
 | cons (i : Nat) (a : AV) (v : Value) (as : List (Nat × AV)) (vs : List (Nat × Value)) (h : Rep C E a v) (h' : RepP C E as vs) : RepP C E ((i,a) :: as) ((i,v) :: vs)

theorem repP_map {ρ : Operand → AV} {ev : Operand → Value} (hρ : ∀ x,Rep C E (ρ x) (ev x)) : ∀ l : List (Nat × Operand),RepP C E (l.map fun p=>(p.1,ρ p.2)) (l.map fun p=>(p.1,ev p.2))
 | []=>.nil
 | (i,x) :: l=>.cons i _ _ _ _ (hρ x) (repP_map hρ l)

theorem fill_ok {place : Nat → Option (Nat × Nat)} {parts : List (Nat × AV)} {pv : List (Nat × Value)} (hp : RepP C E parts pv) : ∀ {cells r : List AV} {arr : Array Value},RepL C E cells arr.toList → fillA place cells parts = some r →
  ∃ arr',Instr.fill place arr pv = some arr' ∧ RepL C E r arr'.toList:=by
 induction hp with
 | nil=>intro cells r arr hr h;simp [fillA] at h;subst h;exact ⟨arr,by simp [Instr.fill],hr⟩
 | cons i a v as vs h h' ih=>
  intro cells r arr hr hf
  simp only [fillA] at hf
  cases hpl : place i with
  | none=>simp [hpl] at hf
  | some os=>
   obtain ⟨off,size⟩:=os
   simp only [hpl] at hf
   split at hf
   ·rename_i hc
    obtain ⟨hu,hl,hle⟩:=hc
    have hcv:=rep_cells h hu
    have hvl : v.cells.size = size:=by have:=hcv.length;simp at this;omega
    have hal : arr.size = cells.length:=by have:=hr.length;simpa using this
    have hset:=foldl_set_list off v.cells.toList 0 arr (by simp;omega)
    have hr2 : RepL C E (splice cells off a.cells) ((v.cells.zipIdx.foldl (fun (cs : Array Value) (p : Value × Nat)=>cs.setIfInBounds (off + p.2) p.1) arr)).toList:=by
     have e : v.cells.zipIdx.foldl (fun (cs : Array Value) (p : Value × Nat)=>cs.setIfInBounds (off + p.2) p.1) arr = (v.cells.toList.zipIdx).foldl (fun (cs : Array Value) (p : Value × Nat)=>cs.setIfInBounds (off + p.2) p.1) arr:=by
      rw [← Array.foldl_toList,Array.toList_zipIdx]
     rw [e,hset]
     unfold splice
     have hl2 : v.cells.toList.length = a.cells.length:=hcv.length
     rw [← hl2]
     simp only [Nat.add_zero]
     exact repL_append (repL_append (repL_take off hr) hcv) (repL_drop _ hr)
    obtain ⟨arr',h1,h2⟩:=ih hr2 hf
    refine ⟨arr',?_,h2⟩
    simp only [Instr.fill,hpl]
    rw [if_neg (by simp [hvl];omega)]
    exact h1
   ·cases hf

theorem zero_rep {t : TypeId} {z : AV} (h : zeroOf P t = some z) : ∃ i v,P.info? t = some i ∧ i.zero = some v ∧ Rep C E z v:=by
 unfold zeroOf at h
 cases hi : P.info? t with
 | none=>simp [hi] at h
 | some i=>
  simp only [hi,Option.bind_some] at h
  cases hz : i.zero with
  | none=>simp [hz] at h
  | some v=>
   simp only [hz,Option.map_some,Option.some.injEq] at h
   exact ⟨i,v,rfl,hz,h ▸ rep_avOf v⟩

theorem places_some : ∀ (fs : List Field),fs.all (fun f=>(szOf P f.type).isSome) = true → ∃ pl : List (Nat × Nat),fs.mapM (fun (f : Field)=>(P.info? f.type).map fun i=>(f.offset,i.size)) = some pl ∧
  ∀ i : Nat,pl[i]? = (fs[i]?).bind fun (f : Field)=>(szOf P f.type).map fun s=>(f.offset,s)
 | [],_=>⟨[],by simp,by simp⟩
 | f :: fs,h=>by
  simp only [List.all_cons,Bool.and_eq_true] at h
  obtain ⟨pl,h1,h2⟩:=places_some fs h.2
  have h3:=h.1
  unfold szOf at h3
  cases hi : P.info? f.type with
  | none=>simp [hi] at h3
  | some it=>
   refine ⟨(f.offset,it.size) :: pl,by simp [List.mapM_cons,hi,h1],fun i=>?_⟩
   cases i with
   | zero=>simp [szOf,hi]
   | succ i=>simpa using h2 i

theorem build_ok {t : TypeId} {parts : List (Nat × AV)} {pv : Array (Nat × Value)} {r : AV} (hp : RepP C E parts pv.toList) (h : evBuild P t parts = some r) :
  ∃ z,(Instr.build t pv).run P w = .ok z w ∧ Rep C E r z:=by
 unfold evBuild at h
 split at h
 ·rename_i z fs hz hu
  split at h
  ·cases h
  ·rename_i hun
   split at h
   ·rename_i hall
    obtain ⟨it,zv,hi,hzv,hrep⟩:=zero_rep (C:=C) (E:=E) hz
    obtain ⟨pl,h1,h2⟩:=places_some fs.toList (by rw [← Array.all_toList] at hall;exact hall)
    cases hf : fillA (fun i=>(fs[i]?).bind fun (f : Field)=>(szOf P f.type).map fun s=>(f.offset,s)) z.cells parts with
    | none=>simp [hf] at h
    | some cs=>
     simp only [hf,Option.map_some,Option.some.injEq] at h
     subst h
     obtain ⟨arr',g1,g2⟩:=fill_ok hp (arr:=zv.cells) (rep_cells hrep (by simpa using hun)) hf
     have hpl : (fun (i : Nat)=>(fs[i]?).bind fun (f : Field)=>(szOf P f.type).map fun s=>(f.offset,s)) = (fun (i : Nat)=>pl.toArray[i]?):=by
      funext i
      have:=h2 i
      simp only [List.getElem?_toArray,this,Array.getElem?_toList]
     rw [hpl] at g1
     refine ⟨.agg arr',run_build w t pv arr' (by simp only [Program.built,hi,hu,hzv,h1];exact g1),?_⟩
     have:=Rep.agg (C:=C) (E:=E) _ _ g2
     simpa using this
   ·cases h
 ·rename_i z n e hz hu
  split at h
  ·cases h
  ·rename_i hun
   obtain ⟨it,zv,hi,hzv,hrep⟩:=zero_rep (C:=C) (E:=E) hz
   cases hs : szOf P e with
   | none=>simp [hs] at h
   | some s=>
    simp only [hs,Option.bind_some] at h
    cases hf : fillA (fun i=>some (i * s,s)) z.cells parts with
    | none=>simp [hf] at h
    | some cs=>
     simp only [hf,Option.map_some,Option.some.injEq] at h
     subst h
     obtain ⟨arr',g1,g2⟩:=fill_ok hp (arr:=zv.cells) (rep_cells hrep (by simpa using hun)) hf
     unfold szOf at hs
     cases hie : P.info? e with
     | none=>simp [hie] at hs
     | some ie=>
      simp [hie] at hs
      subst hs
      refine ⟨.agg arr',run_build w t pv arr' (by simp only [Program.built,hi,hu,hzv,hie];exact g1),?_⟩
      have:=Rep.agg (C:=C) (E:=E) _ _ g2
      simpa using this
 ·cases h

theorem flatten_set : ∀ (els : List (List AV)) (i esz : Nat) (c : List AV),(∀ cs ∈ els,cs.length = esz) → i < els.length → c.length = esz → (els.set i c).flatten = splice els.flatten (i * esz) c
 | [],_,_,_,_,h,_=>by simp at h
 | e :: els,0,esz,c,hl,_,hc=>by
  have:=hl e (by simp)
  simp [splice,hc]
  rw [List.drop_append_of_le_length (by omega),List.drop_of_length_le (by omega)]
  simp
 | e :: els,i + 1,esz,c,hl,h,hc=>by
  have he:=hl e (by simp)
  have ih:=flatten_set els i esz c (fun cs hcs=>hl cs (by simp [hcs])) (by simpa using h) hc
  simp only [List.set_cons_succ,List.flatten_cons,ih,splice]
  rw [show (i + 1) * esz = e.length + i * esz by rw [Nat.add_mul];omega]
  rw [List.take_length_add_append,show e.length + i * esz + c.length = e.length + (i * esz + c.length) by omega,List.drop_length_add_append]
  simp

theorem fillE_ok {esz : Nat} {parts : List (Nat × AV)} {pv : List (Nat × Value)} (hp : RepP C E parts pv) : ∀ {els r : List (List AV)} {arr : Array Value},(∀ cs ∈ els,cs.length = esz) → RepL C E els.flatten arr.toList → fillE esz els parts = some r →
  ∃ arr',Instr.fill (fun i=>some (i * esz,esz)) arr pv = some arr' ∧ RepL C E r.flatten arr'.toList ∧ (∀ cs ∈ r,cs.length = esz) ∧ r.length = els.length:=by
 induction hp with
 | nil=>intro els r arr hl hr h;simp [fillE] at h;subst h;exact ⟨arr,by simp [Instr.fill],hr,hl,rfl⟩
 | cons i a v as vs h h' ih=>
  intro els r arr hl hr hf
  simp only [fillE] at hf
  split at hf
  ·rename_i hc
   obtain ⟨hu,hla,hi⟩:=hc
   have hcv:=rep_cells h hu
   have hvl : v.cells.size = esz:=by have:=hcv.length;simp at this;omega
   have hfl:=flatten_len hl
   have hal : arr.size = els.length * esz:=by have:=hr.length;rw [hfl] at this;simpa using this
   have hie : i * esz + esz ≤ els.length * esz:=by
    have : (i + 1) * esz ≤ els.length * esz:=Nat.mul_le_mul_right _ hi
    rw [Nat.add_mul] at this;omega
   have hset:=foldl_set_list (i * esz) v.cells.toList 0 arr (by simp;omega)
   have hr2 : RepL C E (els.set i a.cells).flatten ((v.cells.zipIdx.foldl (fun (cs : Array Value) (p : Value × Nat)=>cs.setIfInBounds (i * esz + p.2) p.1) arr)).toList:=by
    have e : v.cells.zipIdx.foldl (fun (cs : Array Value) (p : Value × Nat)=>cs.setIfInBounds (i * esz + p.2) p.1) arr = (v.cells.toList.zipIdx).foldl (fun (cs : Array Value) (p : Value × Nat)=>cs.setIfInBounds (i * esz + p.2) p.1) arr:=by
     rw [← Array.foldl_toList,Array.toList_zipIdx]
    rw [e,hset,flatten_set els i esz a.cells hl hi hla]
    unfold splice
    have hl2 : v.cells.toList.length = a.cells.length:=hcv.length
    rw [← hl2]
    simp only [Nat.add_zero]
    exact repL_append (repL_append (repL_take _ hr) hcv) (repL_drop _ hr)
   obtain ⟨arr',h1,h2,h3,h4⟩:=ih (els:=els.set i a.cells) (fun cs hcs=>by
    rcases List.mem_or_eq_of_mem_set hcs with hm | rfl
    ·exact hl cs hm
    ·exact hla) hr2 hf
   refine ⟨arr',?_,h2,h3,by simpa using h4⟩
   simp only [Instr.fill]
   rw [if_neg (by simp [hvl];omega)]
   exact h1
  ·cases hf

theorem made_rep {zc : List AV} {zv : Array Value} (hz : RepL C E zc zv.toList) (n : Nat) : RepL C E (List.replicate n zc).flatten (madeCells zv (n * zv.size)).toList:=by
 have hl : zc.length = zv.size:=by have:=hz.length;simp at this;omega
 have hlen : ∀ cs ∈ List.replicate n zc,cs.length = zv.size:=fun cs hc=>by rw [(List.mem_replicate.1 hc).2,hl]
 refine RepL.of_get (by rw [flatten_len hlen];simp [madeCells]) (fun q a v ha hv=>?_)
 obtain ⟨i,j,cs,h1,h2,h3,h4⟩:=flatten_get hlen q a ha
 obtain rfl : cs = zc:=by
  rw [List.getElem?_replicate] at h2
  split at h2
  ·cases h2;rfl
  ·cases h2
 obtain ⟨u,hu,hr⟩:=hz.get j a h3
 have hmod : q % zv.size = j:=by rw [h1,Nat.mul_comm,Nat.mul_add_mod,Nat.mod_eq_of_lt h4]
 have : v = u:=by
  simp only [madeCells,Array.toList_map,Array.toList_range,List.getElem?_map] at hv
  cases hq : (List.range (n * zv.size))[q]? with
  | none=>simp [hq] at hv
  | some q'=>
   have hq' : q' = q:=by
    have:=List.getElem?_eq_some_iff.1 hq
    obtain ⟨_,e⟩:=this
    simpa using e.symm
   subst hq'
   simp only [hq,Option.map_some,Option.some.injEq] at hv
   rw [← hv,hmod]
   simp only [Array.getElem?_toList] at hu
   rw [getElem!_def,hu]
 rw [this]
 exact hr

theorem elemOfSlice_eq {t e : TypeId} (h : elemOfSlice P t = some e) : P.underlying t = some (.slice e):=by
 unfold elemOfSlice at h
 split at h
 ·rename_i e' he;cases h;exact he
 ·cases h

theorem buildSlice_ok (hw : WRel C w0 E H w) (hfree : H.blk H.next = none) {t : TypeId} {len : Nat} {parts : List (Nat × AV)} {pv : Array (Nat × Value)} {r : AV} {H' : Heap} (hp : RepP C E parts pv.toList) (h : evBuildSlice P H t len parts = some (r,H')) :
  ∃ z E' w',(Instr.buildSlice t len pv).run P w = .ok z w' ∧ E.le E' ∧ WRel C w0 E' H' w' ∧ Rep C E' r z:=by
 unfold evBuildSlice at h
 cases he : elemOfSlice P t with
 | none=>simp [he] at h
 | some e=>
  have ht:=elemOfSlice_eq he
  simp only [he,Option.bind_some] at h
  split at h
  ·rename_i s z hs hz
   split at h
   ·rename_i hc
    obtain ⟨hc1,hc2,hc3⟩:=hc
    cases hf : fillE s (List.replicate len z.cells) parts with
    | none=>simp [hf] at h
    | some els=>
     simp only [hf,Option.map_some,Option.some.injEq,Prod.mk.injEq] at h
     obtain ⟨rfl,rfl⟩:=h
     obtain ⟨it,zv,hi,hzv,hrep⟩:=zero_rep (C:=C) (E:=E) hz
     have hzc:=rep_cells hrep hc2
     have hzs : zv.cells.size = s:=by have:=hzc.length;simp at this;omega
     have hmade:=made_rep hzc len
     rw [hzs] at hmade
     obtain ⟨arr',g1,g2,g3,g4⟩:=fillE_ok hp (els:=List.replicate len z.cells) (arr:=madeCells zv.cells (len * s)) (fun cs hcs=>by rw [(List.mem_replicate.1 hcs).2,hc3]) hmade hf
     have hlen : els.length = len:=by simpa using g4
     have hal : arr'.size = len * s:=by have:=g2.length;rw [flatten_len g3,hlen] at this;simpa using this
     obtain ⟨E',e1,e2,e3⟩:=newRow_ok (ty:=e) hw hfree (Chg.refl w _) rfl (els:=els) (vals:=arr'.toList) (zs:=#[]) (rc:=len) g2 g3 (by omega) (by simp [hal]) (k:=len) (cap:=len) (ex:=true) (Nat.le_refl _) (by omega) (fun _=>rfl)
     refine ⟨_,E',_,?_,e1,e2,e3⟩
     have hsz : it.size = s:=by unfold szOf at hs;simp [hi] at hs;exact hs
     have hle : ¬ (16777216 < len * s):=by omega
     by_cases h0 : len * s = 0
     ·have hm : (madeCells zv.cells (len * s)) = #[]:=by rw [h0];simp [madeCells]
      rw [hm] at g1
      simp [Instr.buildSlice,run_underlying ht,sizeOf,typeInfo,hi,hsz,hle,h0,g1,newRow,Array.range_zero']
     ·simp only [madeCells] at g1
      simp [Instr.buildSlice,run_underlying ht,sizeOf,typeInfo,zeroValue,hi,hzv,hsz,hle,h0,g1,newRow]
   ·cases h
  ·cases h

theorem makeSlice_ok (hw : WRel C w0 E H w) (hfree : H.blk H.next = none) {t : TypeId} {l c r : AV} {lv cv : Value} {H' : Heap} (hl : Rep C E l lv) (hc : Rep C E c cv) (h : evMakeSlice P H t l c = some (r,H')) :
  ∃ z E' w',(Instr.makeSlice t lv cv).run P w = .ok z w' ∧ E.le E' ∧ WRel C w0 E' H' w' ∧ Rep C E' r z:=by
 unfold evMakeSlice at h
 cases he : elemOfSlice P t with
 | none=>simp [he] at h
 | some e=>
  have ht:=elemOfSlice_eq he
  simp only [he,Option.bind_some] at h
  split at h
  ·rename_i it z k l k' c hi hz
   obtain rfl:=rep_int hl
   obtain rfl:=rep_int hc
   split at h
   ·rename_i hcond
    obtain ⟨c1,c2,c3,c4,c5,c6⟩:=hcond
    cases h
    obtain ⟨it',zv,hi',hzv,hrep⟩:=zero_rep (C:=C) (E:=E) hz
    rw [hi] at hi';cases hi'
    have hzc:=rep_cells hrep c5
    have hzs : zv.cells.size = it.size:=by have:=hzc.length;simp at this;omega
    have hmade:=made_rep hzc c.toNat
    rw [hzs] at hmade
    have hrun:=run_make (P:=P) w t e it zv ht hi hzv k k' l c c1 c2 (by omega) c3
    have hll : ∀ cs ∈ List.replicate c.toNat z.cells,cs.length = it.size:=fun cs hcs=>by rw [(List.mem_replicate.1 hcs).2,c6]
    obtain ⟨E',e1,e2,e3⟩:=newRow_ok (ty:=e) hw hfree (Chg.refl w _) rfl (els:=List.replicate c.toNat z.cells) (vals:=(madeCells zv.cells (c.toNat * it.size)).toList) (zs:=#[]) (rc:=c.toNat) hmade hll (by simp) (by
     have:=hmade.length;rw [flatten_len hll] at this;simpa using this) (k:=l.toNat) (cap:=c.toNat) (ex:=true) (by omega) (by simp) (fun _=>rfl)
    refine ⟨_,E',_,hrun,e1,?_,e3⟩
    simpa using e2
   ·cases h
  ·cases h

end
end Go.Ev
set_option linter.unusedVariables false
set_option linter.unusedSimpArgs false
namespace Go.Ev
section
variable {P : Program} {C : Mem} {w0 : World} {E : Emb} {H : Heap} {w : World}

theorem strOf_extract (s : ByteArray) (l h : Nat) : strOf (s.extract l h) = ((strOf s).drop l).take (h - l):=by
 unfold strOf
 rw [← List.map_drop,← List.map_take]
 congr 1
 have : (s.extract l h).data = s.data.extract l h:=by simp
 rw [this]
 simp [List.take_drop]

theorem bnd (ρ : Operand → AV) {ev : Operand → Value} (hρ : ∀ x,Rep C E (ρ x) (ev x)) {o : Option Operand} {n : Option Int} (h : optInt ρ o = some n) (d : Int) : (o.map ev = none ∧ n.getD d = d ∧ n = none) ∨ ∃ k,o.map ev = some (.int k (n.getD d)) ∧ n = some (n.getD d):=by
 rcases optInt_rep hρ h with ⟨rfl,rfl⟩ | ⟨k,m,rfl,hm⟩
 ·exact .inl ⟨rfl,rfl,rfl⟩
 ·exact .inr ⟨k,by simpa using hm,rfl⟩

theorem bnd' (ρ : Operand → AV) {ev : Operand → Value} (hρ : ∀ x,Rep C E (ρ x) (ev x)) {o : Option Operand} {n : Option Int} (h : optInt ρ o = some n) (d : Int) : (o.map ev = none ∧ n.getD d = d) ∨ ∃ k,o.map ev = some (.int k (n.getD d)):=by
 rcases bnd ρ hρ h d with ⟨h1,h2,_⟩ | ⟨k,h1,_⟩
 ·exact .inl ⟨h1,h2⟩
 ·exact .inr ⟨k,h1⟩

theorem sliceAt_eq {t : TypeId} {d : TypeDesc} (ht : P.underlying t = some d) (hd : ∀ n e,d ≠ .array n e) (x : Value) (lo hi mx : Option Value) : (Instr.sliceAt t x lo hi mx).run P w = (Instr.slice t x lo hi mx).run P w:=by
 cases d <;> first | (exact absurd rfl (hd _ _)) | simp [Instr.sliceAt,run_underlying ht]

set_option maxHeartbeats 1000000 in
theorem slice_ok (hw : WRel C w0 E H w) {ρ : Operand → AV} {ev : Operand → Value} (hρ : ∀ x,Rep C E (ρ x) (ev x)) {t : TypeId} {a r : AV} {u : Value} {lo hi mx : Option Operand} {l h m : Option Int}
  (hl : optInt ρ lo = some l) (hh : optInt ρ hi = some h) (hm : optInt ρ mx = some m) (hs : evSlice P H t a l h m = some r) (hu : Rep C E a u) :
  ∃ z,(Instr.sliceAt t u (lo.map ev) (hi.map ev) (mx.map ev)).run P w = .ok z w ∧ Rep C E r z:=by
 have L0:=bnd' ρ hρ hl 0
 have mnone : m = none → mx.map ev = none:=fun e=>by
  rcases optInt_rep hρ hm with ⟨rfl,_⟩ | ⟨k,q,e2,_⟩
  ·rfl
  ·rw [e] at e2;cases e2
 have msome : ∀ q,m = some q → ∃ k,mx.map ev = some (.int k q):=fun q e=>by
  rcases optInt_rep hρ hm with ⟨rfl,e2⟩ | ⟨k,q',e2,e3⟩
  ·rw [e] at e2;cases e2
  ·rw [e] at e2;cases e2;exact ⟨k,e3⟩
 have hsome : ∀ q,h = some q → ∃ k,hi.map ev = some (.int k q):=fun q e=>by
  rcases optInt_rep hρ hh with ⟨rfl,e2⟩ | ⟨k,q',e2,e3⟩
  ·rw [e] at e2;cases e2
  ·rw [e] at e2;cases e2;exact ⟨k,e3⟩
 simp only [evSlice] at hs
 split at hs
 ·-- string
  rename_i s ht
  split at hs
  ·rename_i hb
   cases hs
   obtain ⟨s',rfl,rfl⟩:=rep_str hu
   have hb':=boundsOk_iff hb
   rw [strOf_length] at hb'
   have H0:=bnd' ρ hρ hh (strOf s').length
   rw [strOf_length] at H0
   refine ⟨.string (s'.extract (l.getD 0).toNat (h.getD s'.size).toNat),?_,.str _ _ ?_⟩
   ·rw [sliceAt_eq ht (by simp)]
    simp [Instr.slice,run_underlying ht,mnone rfl,run_sliceBounds (P:=P) w (isS:=false) (len:=s'.size) (cap:=s'.size) L0 H0 hb']
   ·rw [strOf_extract,strOf_length]
    congr 1
    omega
  ·cases hs
 ·-- nil
  rename_i e ht
  split at hs
  ·rename_i hb
   cases hs
   cases hu
   simp only [Bool.and_eq_true] at hb
   obtain ⟨hb,hz⟩:=hb
   obtain ⟨n,hn⟩:=Option.isSome_iff_exists.1 hz
   have H0:=bnd' ρ hρ hh 0
   have hb':=boundsOk_iff hb
   refine ⟨.slice none 0 0,?_,.nilslice⟩
   rw [sliceAt_eq ht (by simp)]
   simp [Instr.slice,run_underlying ht,mnone rfl,run_sliceBounds (P:=P) w (isS:=true) (len:=0) (cap:=0) L0 H0 hb',run_sizeOf' w hn]
   omega
  ·cases hs
 ·-- nil,max
  rename_i e q ht
  split at hs
  ·rename_i h'
   split at hs
   ·rename_i hb
    cases hs
    cases hu
    simp only [Bool.and_eq_true,decide_eq_true_eq] at hb
    obtain ⟨⟨hb,hq⟩,hz⟩:=hb
    obtain ⟨n,hn⟩:=Option.isSome_iff_exists.1 hz
    have hb':=boundsOk_iff hb
    obtain ⟨km,hmx⟩:=msome q rfl
    obtain ⟨kh,hhx⟩:=hsome h' rfl
    refine ⟨.slice none 0 0,?_,.nilslice⟩
    rw [sliceAt_eq ht (by simp),hmx,hhx]
    simp [Instr.slice,run_underlying ht,run_sliceBounds3 (P:=P) w (isS:=true) (len:=0) (cap:=0) L0 ⟨hb'.1,hb'.2.1,hb'.2.2,by simpa using hq⟩,run_sizeOf' w hn]
    omega
   ·cases hs
  ·cases hs
 ·-- the empty one
  rename_i e ht
  split at hs
  ·rename_i hb
   cases hs
   cases hu with
   | eslice ad=>
    simp only [Bool.and_eq_true] at hb
    obtain ⟨hb,hz⟩:=hb
    obtain ⟨n,hn⟩:=Option.isSome_iff_exists.1 hz
    have H0:=bnd' ρ hρ hh 0
    have hb':=boundsOk_iff hb
    refine ⟨.slice (some ad) 0 0,?_,.eslice ad⟩
    rw [sliceAt_eq ht (by simp)]
    have e0 : (l.getD 0).toNat = 0:=by omega
    have e1 : (h.getD 0).toNat = 0:=by omega
    simp [Instr.slice,run_underlying ht,mnone rfl,run_sliceBounds (P:=P) w (isS:=true) (len:=0) (cap:=0) L0 H0 hb',run_sizeOf' w hn,e0,e1]
  ·cases hs
 ·-- list
  rename_i e sz es ht
  split at hs
  ·rename_i hb
   cases hs
   simp only [Bool.and_eq_true,decide_eq_true_eq] at hb
   obtain ⟨hb,hn⟩:=hb
   have hb':=boundsOk_iff hb
   cases hu with
   | lst _ _ blk co len rc ad hE h1 h2 h6=>
    subst h1
    have H0:=bnd' ρ hρ hh es.length
    have hb2 : 0 ≤ l.getD 0 ∧ l.getD 0 ≤ h.getD es.length ∧ h.getD es.length ≤ (rc : Int):=⟨hb'.1,hb'.2.1,by omega⟩
    generalize hl0 : l.getD 0 = l0 at *
    generalize hh0 : h.getD (es.length : Int) = h0 at *
    have hrepE : ∀ {blk co sz : Nat} {es : List (List AV)} (k : Nat),RepE C E blk co sz es → RepE C E blk (co + min k es.length * sz) sz (es.drop k):=by
     intro blk co sz es k
     induction k generalizing co es with
     | zero=>intro hx;simpa using hx
     | succ k ih=>
      intro hx
      cases hx with
      | nil=>simpa using RepE.nil _ _ _
      | cons _ _ _ cs es' q1 q2 q3=>
       have:=ih q3
       simp only [List.drop_succ_cons,List.length_cons]
       rw [show min (k + 1) (es'.length + 1) = min k es'.length + 1 by omega,Nat.add_mul]
       rw [show co + (min k es'.length * sz + 1 * sz) = co + sz + min k es'.length * sz by omega]
       exact this
    have htake : ∀ {blk co sz : Nat} {es : List (List AV)} (k : Nat),RepE C E blk co sz es → RepE C E blk co sz (es.take k):=by
     intro blk co sz es k
     induction k generalizing co es with
     | zero=>intro _;simpa using RepE.nil _ _ _
     | succ k ih=>
      intro hx
      cases hx with
      | nil=>simpa using RepE.nil _ _ _
      | cons _ _ _ cs es' q1 q2 q3=>simpa using RepE.cons _ _ _ _ _ q1 q2 (ih q3)
    have hmin : min l0.toNat es.length = l0.toNat:=by omega
    have hsub:=htake (h0 - l0).toNat (hrepE l0.toNat hE)
    rw [hmin] at hsub
    refine ⟨.slice (some (if rc = l0.toNat then ad else ad.add (l0.toNat * sz))) (h0.toNat - l0.toNat) (rc - l0.toNat),?_,?_⟩
    ·rw [sliceAt_eq ht (by simp)]
     simp [Instr.slice,run_underlying ht,mnone rfl,run_sliceBounds (P:=P) w (isS:=true) (len:=es.length) (cap:=rc) L0 H0 hb2,run_sizeOf' w hn]
     split <;> rfl
    ·refine .lst sz _ blk (co + l0.toNat * sz) _ _ _ hsub (by simp;omega) (by omega) (fun hpos=>?_)
     rw [if_neg (by omega),h6 (by omega),Addr.add_lit]
  ·cases hs
 ·-- list,max
  rename_i e sz es q ht
  split at hs
  ·rename_i h'
   split at hs
   ·rename_i hb
    cases hs
    simp only [Bool.and_eq_true,decide_eq_true_eq] at hb
    obtain ⟨⟨⟨hb,hq⟩,hlq⟩,hn⟩:=hb
    have hb':=boundsOk_iff hb
    obtain ⟨km,hmx⟩:=msome q rfl
    obtain ⟨kh,hhx⟩:=hsome h' rfl
    cases hu with
    | lst _ _ blk co len rc ad hE h1 h2 h6=>
     subst h1
     have e1 : h' = q:=by omega
     subst e1
     refine ⟨.slice (some ad) 0 0,?_,.eslice ad⟩
     rw [sliceAt_eq ht (by simp),hmx,hhx]
     simp [Instr.slice,run_underlying ht,run_sliceBounds3 (P:=P) w (isS:=true) (len:=es.length) (cap:=rc) L0 ⟨hb'.1,hb'.2.1,hb'.2.2,by omega⟩,run_sizeOf' w hn,hlq]
   ·cases hs
  ·cases hs
 ·-- row
  rename_i e b off len cap ex g ht
  split at hs
  ·rename_i hb
   cases hs
   simp only [Bool.and_eq_true,decide_eq_true_eq] at hb
   obtain ⟨hb,hz,hez⟩:=hb
   obtain ⟨n,hn⟩:=Option.isSome_iff_exists.1 hz
   have hb':=boundsOk_iff hb
   cases hu with
   | slice _ _ _ _ _ _ L ad rc hL h1 h2 h3 h4 h5 h6 h7=>
    have hesz:=(hw.esz (by rw [← hez,hn]) hL).sz
    have H0:=bnd' ρ hρ hh len
    have hb2 : 0 ≤ l.getD 0 ∧ l.getD 0 ≤ h.getD len ∧ h.getD len ≤ (rc : Int):=⟨hb'.1,hb'.2.1,by omega⟩
    generalize hl0 : l.getD 0 = l0 at *
    generalize hh0 : h.getD (len : Int) = h0 at *
    refine ⟨.slice (some (if rc = l0.toNat then ad else ad.add (l0.toNat * n))) (h0.toNat - l0.toNat) (rc - l0.toNat),?_,?_⟩
    ·rw [sliceAt_eq ht (by simp)]
     simp [Instr.slice,run_underlying ht,mnone rfl,run_sliceBounds (P:=P) w (isS:=true) (len:=len) (cap:=rc) L0 H0 hb2,run_sizeOf' w hn]
     split <;> rfl
    ·have e : (h0 - l0).toNat = h0.toNat - l0.toNat:=by omega
     rw [e]
     refine .slice b _ _ _ ex g L _ _ hL (by omega) (by omega) (by omega) (by omega) (fun hx=>by have:=h5 hx;omega) (fun hpos=>?_) ?_
     ·rw [if_neg (by omega),h6 (by omega),Addr.add_lit,hesz,show off + l0.toNat - L.lo = (off - L.lo) + l0.toNat by omega,Nat.add_mul]
      congr 1
      omega
     ·rw [show off + l0.toNat - L.lo + (rc - l0.toNat) = off - L.lo + rc by omega]
      exact h7
  ·cases hs
 ·-- row,max
  rename_i e b off len cap ex g q ht
  split at hs
  ·rename_i h'
   split at hs
   ·rename_i hb
    simp only [Bool.and_eq_true,decide_eq_true_eq] at hb
    obtain ⟨⟨hb,hq⟩,hz,hez⟩:=hb
    obtain ⟨n,hn⟩:=Option.isSome_iff_exists.1 hz
    have hb':=boundsOk_iff hb
    obtain ⟨km,hmx⟩:=msome q rfl
    obtain ⟨kh,hhx⟩:=hsome h' rfl
    cases hu with
    | slice _ _ _ _ _ _ L ad rc hL h1 h2 h3 h4 h5 h6 h7=>
     have hesz:=(hw.esz (by rw [← hez,hn]) hL).sz
     generalize hl0 : l.getD 0 = l0 at *
     have hrun : (Instr.sliceAt t (.slice (some ad) len rc) (lo.map ev) (hi.map ev) (mx.map ev)).run P w = .ok (.slice (some (if q.toNat = l0.toNat then ad else ad.add (l0.toNat * n))) (h'.toNat - l0.toNat) (q.toNat - l0.toNat)) w:=by
      rw [sliceAt_eq ht (by simp),hmx,hhx]
      simp [Instr.slice,run_underlying ht,run_sliceBounds3 (P:=P) w (isS:=true) (len:=len) (cap:=rc) L0 ⟨hb'.1,hb'.2.1,hb'.2.2,by omega⟩,run_sizeOf' w hn]
      split <;> rfl
     split at hs
     ·rename_i hlq
      cases hs
      have e1 : h' = q:=by omega
      refine ⟨_,hrun,?_⟩
      rw [e1,hlq,Nat.sub_self]
      exact .eslice _
     ·rename_i hlq
      cases hs
      refine ⟨_,hrun,?_⟩
      rw [show (h' - l0).toNat = h'.toNat - l0.toNat by omega,show (q - l0).toNat = q.toNat - l0.toNat by omega]
      refine .slice b _ _ _ true g L _ _ hL (by omega) (by omega) (by omega) (by omega) (fun _=>rfl) (fun hpos=>?_) ?_
      ·rw [if_neg (by omega),h6 (by omega),Addr.add_lit,hesz,show off + l0.toNat - L.lo = (off - L.lo) + l0.toNat by omega,Nat.add_mul]
       congr 1
       omega
      ·have : L.co + (off - L.lo + rc) * L.esz ≤ L.size:=h7
       have h8 : (off + l0.toNat - L.lo + (q.toNat - l0.toNat)) * L.esz ≤ (off - L.lo + rc) * L.esz:=Nat.mul_le_mul_right _ (by omega)
       omega
   ·cases hs
  ·cases hs
 ·cases hs

theorem field_eq {s : TypeId} {f : Nat} {fd : Field} (h : fieldOf P s f = some fd) : ∃ fs,P.underlying s = some (.struct fs) ∧ fs[f]? = some fd:=by
 unfold fieldOf at h
 split at h
 ·rename_i fs hfs;exact ⟨fs,hfs,h⟩
 ·cases h

theorem fieldAt_ok {s : TypeId} {f n : Nat} {fd : Field} (h : fieldOf P s f = some fd) (hn : szOf P fd.type = some n) (h0 : n ≠ 0) (b o : Nat) :
  (Instr.fieldAt s (.pointer (some ⟨b,o,none⟩)) f).run P w = .ok (.pointer (some ⟨b,o + fd.offset,none⟩)) w:=by
 obtain ⟨fs,h1,h2⟩:=field_eq h
 simp [Instr.fieldAt,run_underlying h1,h2,Instr.sureAddr,fieldPlace,run_sizeOf' w hn,h0,Addr.add_lit]

theorem field_ok {s : TypeId} {f : Nat} {fd : Field} (h : fieldOf P s f = some fd) {cs : List AV} {vs : List Value} {r : AV} (hr : RepL C E cs vs) (hp : partOf P fd.type cs fd.offset = some r) :
  ∃ z,(Instr.field s (.agg vs.toArray) f).run P w = .ok z w ∧ Rep C E r z:=by
 obtain ⟨fs,h1,h2⟩:=field_eq h
 obtain ⟨z,hz,hrep⟩:=run_part' w hr hp
 exact ⟨z,by simp [Instr.field,run_underlying h1,h2,asAgg,hz],hrep⟩

end
end Go.Ev
