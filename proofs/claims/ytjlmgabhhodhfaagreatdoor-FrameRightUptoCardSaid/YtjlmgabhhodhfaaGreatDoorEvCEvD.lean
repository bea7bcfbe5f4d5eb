import Derived.Test.YtjlmgabhhodhfaaGreatDoorEvAEvB
import GoSem.ClaimKeys
import Derived.DeepKeys3
import Derived.Laws.StructEq
set_option linter.unusedSimpArgs false
set_option linter.unusedVariables false
namespace Go.Ev
open Go.RowKit

theorem Heap.set_same (H : Heap) (b : Nat) (x : Blk) : (H.set b x).blk b = some x:=by simp [Heap.set]
theorem Heap.set_other (H : Heap) (b : Nat) (x : Blk) {i : Nat} (h : i ≠ b) : (H.set b x).blk i = H.blk i:=by simp [Heap.set,h]

theorem LocOk.append {C : Mem} {E : Emb} {w : World} {base : Nat} {L : Loc} {esz : Nat} {els : List (List AV)} (h : LocOk C E w base L esz els) (new : List (List AV)) : LocOk C E w base L esz (els ++ new) where
 sz:=h.sz
 lo:=h.lo
 ext:=by have:=h.ext;simp;omega
 base:=h.base
 lt:=h.lt
 room:=h.room
 shape:=h.shape
 cell:=fun i j cs c h1 h2 h3 h4=>by
  refine h.cell i j cs c h1 h2 ?_ h4
  rw [List.getElem?_append_left (by have:=h.ext;omega)] at h3
  exact h3

theorem Heap.set_ne {H : Heap} {b c : Nat} {x : Blk} (h : H.blk c ≠ none) : (H.set b x).blk c ≠ none:=by
 by_cases hc : c = b
 ·subst hc;rw [Heap.set_same];simp
 ·rw [Heap.set_other _ _ _ hc];exact h

theorem WRel.newest {C : Mem} {w0 : World} {E : Emb} {H : Heap} {w : World} (h : WRel C w0 E H w) {b : Nat} {ty esz : Nat} {els : List (List AV)} {gen wgen : Nat} (hb : H.blk b = some (.row ty esz els gen wgen)) :
  ∃ G,E.loc b gen = some G ∧ LocOk C E w w0.heap.size G esz els ∧ G.ext = els.length:=by
 have hr:=h.row _ _ _ _ _ _ hb
 obtain ⟨G,hG,hl⟩:=hr.loc gen hr.le (Nat.le_refl _)
 exact ⟨G,hG,hl,hr.last G hG⟩

theorem map_not_cells {w : World} {m : Nat} {es : Array MapEntry} {cl o : Nat} (h : w.heap[m]? = some (.map es cl)) : w.cell? ⟨m,o,none⟩ = none:=by
 simp [World.cell?,h]

theorem WRel.others {C : Mem} {w0 : World} {E E' : Emb} {H : Heap} {w w' : World} {S : Nat → Nat → Prop} (h : WRel C w0 E H w) (hc : Chg w w' S) (hE : E.le E') {b : Nat} {G : Loc} {g0 : Nat} (hG : E.loc b g0 = some G)
  (hbase : w0.heap.size ≤ G.blk) (hS : ∀ x o,S x o → x = G.blk ∧ (w.cell? ⟨x,o,none⟩).isSome = true) :
  Below w0.heap.size w0 w' ∧ (∀ x o v,C x o = some v → x < w'.heap.size ∧ w'.cell? ⟨x,o,none⟩ = some v) ∧
  (∀ c ty esz els gen wgen,c ≠ b → H.blk c = some (.row ty esz els gen wgen) → RowOk C E' w' w0.heap.size c esz els gen wgen) ∧
  (∀ c es cl,H.blk c = some (.map es cl) → ∃ m es',E'.mloc c = some m ∧ w0.heap.size ≤ m ∧ w'.heap[m]? = some (.map es' cl) ∧ RepK C E' es es'.toList):=by
 refine ⟨below_chg h.below hc (fun x o hs=>by rw [(hS x o hs).1];exact hbase),fun x o v hv=>?_,fun c ty esz els gen wgen hne hb=>?_,fun c es cl hb=>?_⟩
 ·obtain ⟨h1,h2⟩:=h.mem x o v hv
  refine ⟨Nat.lt_of_lt_of_le h1 hc.size,?_⟩
  rw [hc.cell x o h1 (fun hs=>h.memsep b g0 G o v hG (by rw [← (hS x o hs).1];exact hv))]
  exact h2
 ·refine (h.row _ _ _ _ _ _ hb).chg hc hE (fun g L _ _ hL o _ _ hs=>hne ?_)
  exact h.sep _ _ _ _ _ _ hL hG (hS _ _ hs).1
 ·obtain ⟨m,es',h1,h2,h3,h4⟩:=h.map c es cl hb
  refine ⟨m,es',hE.2 _ _ h1,h2,?_,h4.mono (Mem.le_refl _) hE⟩
  rw [hc.block m (h.mdom c m h1).2 (fun o hs=>?_)]
  ·exact h3
  ·have:=(hS m o hs).2
   rw [map_not_cells h3] at this
   cases this

theorem WRel.write {C : Mem} {w0 : World} {E : Emb} {H : Heap} {w w' : World} {S : Nat → Nat → Prop} (h : WRel C w0 E H w) (hc : Chg w w' S) {b : Nat} {ty esz : Nat} {els els' : List (List AV)} {gen wgen : Nat} {G : Loc}
  (hb : H.blk b = some (.row ty esz els gen wgen)) (hG : E.loc b gen = some G) (hS : ∀ x o,S x o → x = G.blk ∧ (w.cell? ⟨x,o,none⟩).isSome = true)
  (hlen : els'.length = els.length) (hl : ∀ cs ∈ els',cs.length = esz)
  (hcell : ∀ i j cs c,G.lo ≤ i → i < G.ext → els'[i]? = some cs → cs[j]? = some c → ∃ v,w'.cell? ⟨G.blk,G.co + (i - G.lo) * esz + j,none⟩ = some v ∧ Rep C E c v) :
  WRel C w0 E (H.set b (.row ty esz els' gen gen)) w':=by
 obtain ⟨G',hG',hlo,hext⟩:=h.newest hb
 rw [hG] at hG';cases hG'
 obtain ⟨o1,o2,o3,o4⟩:=h.others hc (Emb.le_refl E) hG hlo.base hS
 constructor
 ·exact o1
 ·exact o2
 ·intro c g L hL
  obtain ⟨d1,d2,d3⟩:=h.dom c g L hL
  refine ⟨Heap.set_ne d1,Nat.lt_of_lt_of_le d2 hc.size,fun ty' esz' els'' gen' wgen' hb'=>?_⟩
  by_cases hcb : c = b
  ·subst hcb
   rw [Heap.set_same] at hb';cases hb'
   exact d3 _ _ _ _ _ hb
  ·rw [Heap.set_other _ _ _ hcb] at hb'
   exact d3 _ _ _ _ _ hb'
 ·exact fun c m hm=>⟨Heap.set_ne (h.mdom c m hm).1,Nat.lt_of_lt_of_le (h.mdom c m hm).2 hc.size⟩
 ·intro c ty' esz' els'' gen' wgen' hb'
  by_cases hcb : c = b
  ·subst hcb
   rw [Heap.set_same] at hb';cases hb'
   refine ⟨hl,Nat.le_refl _,fun g h1 h2=>?_,fun L hL=>?_,fun g L L' h1 h2 hL hL' _=>?_⟩
   ·obtain rfl : g = gen:=by omega
    refine ⟨G,hG,hlo.sz,hlo.lo,by rw [hlen];exact hlo.ext,hlo.base,Nat.lt_of_lt_of_le hlo.lt hc.size,hlo.room,fun o ho=>?_,hcell⟩
    exact ⟨hc.some _ _ hlo.lt (hlo.shape o ho).1,by rw [hc.frozen _ _ hlo.lt];exact (hlo.shape o ho).2⟩
   ·rw [hG] at hL;cases hL;rw [hlen];exact hext
   ·obtain rfl : g = gen:=by omega
    rw [hL] at hL';cases hL';exact Nat.le_refl _
  ·rw [Heap.set_other _ _ _ hcb] at hb'
   exact o3 _ _ _ _ _ _ hcb hb'
 ·intro c es cl hb'
  by_cases hcb : c = b
  ·subst hcb;rw [Heap.set_same] at hb';cases hb'
  ·rw [Heap.set_other _ _ _ hcb] at hb'
   exact o4 c es cl hb'
 ·exact h.sep
 ·exact h.msep
 ·exact h.memsep

theorem WRel.grow {C : Mem} {w0 : World} {E : Emb} {H : Heap} {w w' : World} {S : Nat → Nat → Prop} (h : WRel C w0 E H w) (hc : Chg w w' S) {b : Nat} {ty esz : Nat} {els new : List (List AV)} {gen wgen : Nat} {G L : Loc}
  (hb : H.blk b = some (.row ty esz els gen wgen)) (hG : E.loc b gen = some G)
  (hS : ∀ x o,S x o → x = G.blk ∧ (w.cell? ⟨x,o,none⟩).isSome = true ∧ G.co + (G.ext - G.lo) * esz ≤ o)
  (hnew : ∀ cs ∈ new,cs.length = esz)
  (hblk : (L.blk = G.blk ∧ G.co + (G.ext - G.lo) * esz ≤ L.co + (L.ext - L.lo) * esz) ∨ w.heap.size ≤ L.blk)
  (hL : LocOk C E w' w0.heap.size L esz (els ++ new)) (hext : L.ext = (els ++ new).length) :
  E.le (E.set b (gen + 1) L) ∧ WRel C w0 (E.set b (gen + 1) L) (H.set b (.row ty esz (els ++ new) (gen + 1) wgen)) w':=by
 obtain ⟨G',hG',hlo,hGext⟩:=h.newest hb
 rw [hG] at hG';cases hG'
 have hrow:=h.row _ _ _ _ _ _ hb
 have hnone : E.loc b (gen + 1) = none:=by
  cases hx : E.loc b (gen + 1) with
  | none=>rfl
  | some L'=>have:=(h.dom _ _ _ hx).2.2 _ _ _ _ _ hb;omega
 have hle:=Emb.le_set (L:=L) hnone
 refine ⟨hle,?_⟩
 obtain ⟨o1,o2,o3,o4⟩:=h.others hc hle hG hlo.base (fun x o hs=>⟨(hS x o hs).1,(hS x o hs).2.1⟩)
 have hset : ∀ c g L',(E.set b (gen + 1) L).loc c g = some L' → (c = b ∧ g = gen + 1 ∧ L' = L) ∨ E.loc c g = some L':=fun c g L' hx=>by
  simp only [Emb.set] at hx
  split at hx
  ·rename_i hh;cases hx;exact .inl ⟨hh.1,hh.2,rfl⟩
  ·exact .inr hx
 have hb0:=(h.dom b gen G hG).1
 constructor
 ·exact o1
 ·exact o2
 ·intro c g L' hx
  rcases hset c g L' hx with ⟨rfl,rfl,rfl⟩ | hx
  ·refine ⟨Heap.set_ne hb0,hL.lt,fun ty' esz' els'' gen' wgen' hb'=>?_⟩
   rw [Heap.set_same] at hb';cases hb'
   exact Nat.le_refl _
  ·obtain ⟨d1,d2,d3⟩:=h.dom c g L' hx
   refine ⟨Heap.set_ne d1,Nat.lt_of_lt_of_le d2 hc.size,fun ty' esz' els'' gen' wgen' hb'=>?_⟩
   by_cases hcb : c = b
   ·subst hcb
    rw [Heap.set_same] at hb';cases hb'
    have:=d3 _ _ _ _ _ hb
    omega
   ·rw [Heap.set_other _ _ _ hcb] at hb'
    exact d3 _ _ _ _ _ hb'
 ·exact fun c m hm=>⟨Heap.set_ne (h.mdom c m hm).1,Nat.lt_of_lt_of_le (h.mdom c m hm).2 hc.size⟩
 ·intro c ty' esz' els'' gen' wgen' hb'
  by_cases hcb : c = b
  ·subst hcb
   rw [Heap.set_same] at hb';cases hb'
   have hold : ∀ g,wgen ≤ g → g ≤ gen → ∃ L',E.loc c g = some L' ∧ LocOk C (E.set c (gen + 1) L) w' w0.heap.size L' esz (els ++ new):=fun g h1 h2=>by
    obtain ⟨L',hL',hl'⟩:=hrow.loc g h1 h2
    refine ⟨L',hL',(hl'.chg hc hle (fun o ho1 ho2 hs=>?_) hrow.len).append new⟩
    have hs':=hS _ _ hs
    have:=hrow.ends g L' G h1 h2 hL' hG hs'.1
    omega
   refine ⟨fun cs hcs=>?_,by have:=hrow.le;omega,fun g h1 h2=>?_,fun L' hL'=>?_,fun g L1 L2 h1 h2 hL1 hL2 h12=>?_⟩
   ·rcases List.mem_append.1 hcs with hcs | hcs
    ·exact hrow.len cs hcs
    ·exact hnew cs hcs
   ·by_cases hg : g = gen + 1
    ·subst hg
     exact ⟨L,Emb.set_same _ _ _ _,hL.chg (Chg.refl w' (fun _ _=>False)) hle (fun _ _ _ hf=>hf) (fun cs hcs=>by
      rcases List.mem_append.1 hcs with hcs | hcs
      ·exact hrow.len cs hcs
      ·exact hnew cs hcs)⟩
    ·obtain ⟨L',hL',hl'⟩:=hold g h1 (by omega)
     exact ⟨L',hle.1 _ _ _ hL',hl'⟩
   ·rw [Emb.set_same] at hL';cases hL';exact hext
   ·rw [Emb.set_same] at hL2;cases hL2
    by_cases hg : g = gen + 1
    ·subst hg;rw [Emb.set_same] at hL1;cases hL1;exact Nat.le_refl _
    ·rcases hset _ _ _ hL1 with ⟨_,hh,_⟩ | hL1'
     ·exact absurd hh hg
     ·rcases hblk with ⟨e1,e2⟩ | hge
      ·have:=hrow.ends g L1 G h1 (by omega) hL1' hG (by rw [h12,e1])
       omega
      ·have:=(h.dom _ _ _ hL1').2.1
       omega
  ·rw [Heap.set_other _ _ _ hcb] at hb'
   exact o3 _ _ _ _ _ _ hcb hb'
 ·intro c es cl hb'
  by_cases hcb : c = b
  ·subst hcb;rw [Heap.set_same] at hb';cases hb'
  ·rw [Heap.set_other _ _ _ hcb] at hb'
   exact o4 c es cl hb'
 ·intro c g L1 c' g' L2 hx hy hxy
  rcases hset c g L1 hx with ⟨rfl,rfl,rfl⟩ | hx' <;> rcases hset c' g' L2 hy with ⟨rfl,rfl,rfl⟩ | hy'
  ·rfl
  ·rcases hblk with ⟨e1,_⟩ | hge
   ·exact h.sep _ _ _ _ _ _ hG hy' (by rw [← e1,hxy])
   ·have:=(h.dom _ _ _ hy').2.1;omega
  ·rcases hblk with ⟨e1,_⟩ | hge
   ·exact h.sep _ _ _ _ _ _ hx' hG (by rw [hxy,e1])
   ·have:=(h.dom _ _ _ hx').2.1;omega
  ·exact h.sep _ _ _ _ _ _ hx' hy' hxy
 ·exact h.msep
 ·intro c g L' o v hx hv
  rcases hset c g L' hx with ⟨rfl,rfl,rfl⟩ | hx
  ·rcases hblk with ⟨e1,_⟩ | hge
   ·exact h.memsep _ _ _ _ _ hG (e1 ▸ hv)
   ·have:=(h.mem _ _ _ hv).1;omega
  ·exact h.memsep _ _ _ _ _ hx hv

theorem WRel.trunc {C : Mem} {w0 : World} {E : Emb} {H : Heap} {w : World} (h : WRel C w0 E H w) {b : Nat} {ty esz : Nat} {els : List (List AV)} {gen wgen : Nat} {G : Loc}
  (hb : H.blk b = some (.row ty esz els gen wgen)) (hG : E.loc b gen = some G) {k : Nat} (hlo' : G.lo ≤ k) (hk : k ≤ els.length) :
  E.le (E.set b (gen + 1) ⟨G.blk,G.co,G.lo,k,G.esz,G.size⟩) ∧ WRel C w0 (E.set b (gen + 1) ⟨G.blk,G.co,G.lo,k,G.esz,G.size⟩) (H.set b (.row ty esz (els.take k) (gen + 1) (gen + 1))) w:=by
 obtain ⟨G',hG',hlo,hGext⟩:=h.newest hb
 rw [hG] at hG';cases hG'
 have hrow:=h.row _ _ _ _ _ _ hb
 have hnone : E.loc b (gen + 1) = none:=by
  cases hx : E.loc b (gen + 1) with
  | none=>rfl
  | some L'=>have:=(h.dom _ _ _ hx).2.2 _ _ _ _ _ hb;omega
 generalize hLd : (⟨G.blk,G.co,G.lo,k,G.esz,G.size⟩ : Loc) = L
 have l1 : L.blk = G.blk:=by rw [← hLd]
 have l2 : L.co = G.co:=by rw [← hLd]
 have l3 : L.lo = G.lo:=by rw [← hLd]
 have l4 : L.ext = k:=by rw [← hLd]
 have l5 : L.esz = G.esz:=by rw [← hLd]
 have l6 : L.size = G.size:=by rw [← hLd]
 have hle:=Emb.le_set (L:=L) hnone
 refine ⟨hle,?_⟩
 obtain ⟨o1,o2,o3,o4⟩:=h.others (Chg.refl w (fun _ _=>False)) hle hG hlo.base (fun x o hs=>hs.elim)
 have hset : ∀ c g L',(E.set b (gen + 1) L).loc c g = some L' → (c = b ∧ g = gen + 1 ∧ L' = L) ∨ E.loc c g = some L':=fun c g L' hx=>by
  simp only [Emb.set] at hx
  split at hx
  ·rename_i hh;cases hx;exact .inl ⟨hh.1,hh.2,rfl⟩
  ·exact .inr hx
 have hb0:=(h.dom b gen G hG).1
 have hlen : ∀ cs ∈ els.take k,cs.length = esz:=fun cs hcs=>hrow.len cs (List.mem_of_mem_take hcs)
 constructor
 ·exact o1
 ·exact o2
 ·intro c g L' hx
  rcases hset c g L' hx with ⟨rfl,rfl,rfl⟩ | hx
  ·refine ⟨Heap.set_ne hb0,by rw [l1];exact hlo.lt,fun ty' esz' els'' gen' wgen' hb'=>?_⟩
   rw [Heap.set_same] at hb';cases hb'
   exact Nat.le_refl _
  ·obtain ⟨d1,d2,d3⟩:=h.dom c g L' hx
   refine ⟨Heap.set_ne d1,d2,fun ty' esz' els'' gen' wgen' hb'=>?_⟩
   by_cases hcb : c = b
   ·subst hcb
    rw [Heap.set_same] at hb';cases hb'
    have:=d3 _ _ _ _ _ hb
    omega
   ·rw [Heap.set_other _ _ _ hcb] at hb'
    exact d3 _ _ _ _ _ hb'
 ·exact fun c m hm=>⟨Heap.set_ne (h.mdom c m hm).1,(h.mdom c m hm).2⟩
 ·intro c ty' esz' els'' gen' wgen' hb'
  by_cases hcb : c = b
  ·subst hcb
   rw [Heap.set_same] at hb';cases hb'
   have hroom:=hlo.room
   have hLok : LocOk C E w w0.heap.size L esz (els.take k):=by
    refine ⟨by rw [l5];exact hlo.sz,by rw [l3,l4];exact hlo',by rw [l4,List.length_take];omega,by rw [l1];exact hlo.base,by rw [l1];exact hlo.lt,?_,fun o ho=>?_,fun i j cs c' e1 e2 e3 e4=>?_⟩
    ·rw [l2,l3,l4,l6]
     have hh : (k - G.lo) * esz ≤ (G.ext - G.lo) * esz:=Nat.mul_le_mul_right _ (by omega)
     omega
    ·rw [l6] at ho;rw [l1];exact hlo.shape o ho
    ·rw [l3] at e1;rw [l4] at e2
     rw [List.getElem?_take_of_lt e2] at e3
     rw [l1,l2,l3]
     exact hlo.cell i j cs c' e1 (by omega) e3 e4
   refine ⟨hlen,Nat.le_refl _,fun g h1 h2=>?_,fun L' hL'=>?_,fun g L1 L2 h1 h2 hL1 hL2 h12=>?_⟩
   ·obtain rfl : g = gen + 1:=by omega
    exact ⟨L,Emb.set_same _ _ _ _,hLok.chg (Chg.refl w (fun _ _=>False)) hle (fun _ _ _ hf=>hf) hlen⟩
   ·rw [Emb.set_same] at hL';cases hL';rw [l4,List.length_take];omega
   ·obtain rfl : g = gen + 1:=by omega
    rw [hL1] at hL2;cases hL2;exact Nat.le_refl _
  ·rw [Heap.set_other _ _ _ hcb] at hb'
   exact o3 _ _ _ _ _ _ hcb hb'
 ·intro c es cl hb'
  by_cases hcb : c = b
  ·subst hcb;rw [Heap.set_same] at hb';cases hb'
  ·rw [Heap.set_other _ _ _ hcb] at hb'
   exact o4 c es cl hb'
 ·intro c g L1 c' g' L2 hx hy hxy
  rcases hset c g L1 hx with ⟨rfl,rfl,rfl⟩ | hx' <;> rcases hset c' g' L2 hy with ⟨rfl,rfl,rfl⟩ | hy'
  ·rfl
  ·exact h.sep _ _ _ _ _ _ hG hy' (by rw [← l1,hxy])
  ·exact h.sep _ _ _ _ _ _ hx' hG (by rw [hxy,l1])
  ·exact h.sep _ _ _ _ _ _ hx' hy' hxy
 ·exact h.msep
 ·intro c g L' o v hx hv
  rcases hset c g L' hx with ⟨rfl,rfl,rfl⟩ | hx
  ·exact h.memsep _ _ _ _ _ hG (l1 ▸ hv)
  ·exact h.memsep _ _ _ _ _ hx hv


theorem choose_cells {C : Mem} {E : Emb} {w : World} {blk : Nat} : ∀ (as : List AV) (off : Nat),(∀ j c,as[j]? = some c → ∃ v,w.cell? ⟨blk,off + j,none⟩ = some v ∧ Rep C E c v) →
  ∃ vs,RepL C E as vs ∧ ∀ j v,vs[j]? = some v → w.cell? ⟨blk,off + j,none⟩ = some v
 | [],_,_=>⟨[],.nil,fun j v h=>by simp at h⟩
 | a :: as,off,h=>by
  obtain ⟨v,hv,hr⟩:=h 0 a (by simp)
  obtain ⟨vs,h1,h2⟩:=choose_cells as (off + 1) (fun j c hj=>by
   obtain ⟨u,hu,hr⟩:=h (j + 1) c (by simpa using hj)
   exact ⟨u,by rw [show off + 1 + j = off + (j + 1) by omega];exact hu,hr⟩)
  refine ⟨v :: vs,.cons a v as vs hr h1,fun j u hj=>?_⟩
  cases j with
  | zero=>simp at hj;subst hj;exact hv
  | succ j=>rw [show off + (j + 1) = off + 1 + j by omega];exact h2 j u (by simpa using hj)

theorem RepL.length {C : Mem} {E : Emb} : ∀ {as : List AV} {vs : List Value},RepL C E as vs → vs.length = as.length
 | _,_,.nil=>rfl
 | _,_,.cons _ _ _ _ _ h=>by simp [RepL.length h]

theorem RepL.get {C : Mem} {E : Emb} : ∀ {as : List AV} {vs : List Value},RepL C E as vs → ∀ (j : Nat) (a : AV),as[j]? = some a → ∃ v,vs[j]? = some v ∧ Rep C E a v
 | _,_,.nil,j,a,h=>by simp at h
 | _,_,.cons b v as vs h h',0,a,e=>by simp at e;subst e;exact ⟨v,rfl,h⟩
 | _,_,.cons b v as vs h h',j + 1,a,e=>by simpa using RepL.get h' j a (by simpa using e)

theorem RepL.of_get {C : Mem} {E : Emb} : ∀ {as : List AV} {vs : List Value},vs.length = as.length → (∀ (j : Nat) a v,as[j]? = some a → vs[j]? = some v → Rep C E a v) → RepL C E as vs
 | [],[],_,_=>.nil
 | a :: as,v :: vs,hl,h=>.cons a v as vs (h 0 a v rfl rfl) (RepL.of_get (by simpa using hl) (fun j x y hx hy=>h (j + 1) x y (by simpa using hx) (by simpa using hy)))

theorem RepM.get {C : Mem} {E : Emb} : ∀ {blk co : Nat} {as : List AV},RepM C E blk co as → ∀ (j : Nat) (a : AV),as[j]? = some a → ∃ v,C blk (co + j) = some v ∧ Rep C E a v
 | _,_,_,.nil _ _,j,a,h=>by simp at h
 | _,_,_,.cons blk co b as v hv h h',0,a,e=>by simp at e;subst e;exact ⟨v,hv,h⟩
 | _,_,_,.cons blk co b as v hv h h',j + 1,a,e=>by
  obtain ⟨u,hu,hr⟩:=RepM.get h' j a (by simpa using e)
  exact ⟨u,by rw [show co + (j + 1) = co + 1 + j by omega];exact hu,hr⟩

theorem RepE.get {C : Mem} {E : Emb} : ∀ {blk co sz : Nat} {es : List (List AV)},RepE C E blk co sz es → ∀ (i : Nat) (cs : List AV),es[i]? = some cs → cs.length = sz ∧ RepM C E blk (co + i * sz) cs
 | _,_,_,_,.nil _ _ _,i,cs,h=>by simp at h
 | _,_,_,_,.cons blk co sz c es hl h h',0,cs,e=>by simp at e;subst e;exact ⟨hl,by simpa using h⟩
 | _,_,_,_,.cons blk co sz c es hl h h',i + 1,cs,e=>by
  obtain ⟨h1,h2⟩:=RepE.get h' i cs (by simpa using e)
  refine ⟨h1,?_⟩
  rw [show co + (i + 1) * sz = co + sz + i * sz by rw [Nat.add_mul];omega]
  exact h2

end Go.Ev
namespace Go.Ev


def avCell : Value → AV
 | .bool b=>.bool b
 | .int k n=>.int k n
 | .string s=>.str (strOf s)
 | .pointer none=>.nilptr
 | .slice none 0 0=>.nilslice
 | .map none=>.nilMap
 | .nilFunc=>.nilFunc
 | .nilIface=>.nilIface
 | .func f xs ys=>if xs.size = 0 ∧ ys.size = 0 then .func f [] [] else .undef
 | _=>.undef

def avOf : Value → AV
 | .agg cs=>.agg (cs.toList.map avCell)
 | .tuple cs=>.tuple (cs.toList.map avCell)
 | v=>avCell v

def AV.isUndef : AV → Bool
 | .undef=>true
 | _=>false


def valCell : AV → Option Value
 | .int k n=>some (.int k n)
 | .bool b=>some (.bool b)
 | _=>none
def valCells : List AV → Option (List Value)
 | []=>some []
 | a :: l=>match valCell a,valCells l with | some v,some vs=>some (v :: vs) | _,_=>none
def valOf : AV → Option Value
 | .agg cs=>(valCells cs).map fun vs=>.agg vs.toArray
 | .int k n=>some (.int k n)
 | _=>none

def eqCell : AV → AV → Bool
 | .int k n,.int k' m=>decide (k = k') && decide (n = m)
 | .bool a,.bool b=>a == b
 | _,_=>false
def eqCells : List AV → List AV → Bool
 | [],[]=>true
 | a :: l,b :: m=>eqCell a b && eqCells l m
 | _,_=>false
def eqKey : AV → AV → Bool
 | .agg xs,.agg ys=>eqCells xs ys
 | .int k n,.int k' m=>decide (k = k') && decide (n = m)
 | _,_=>false


def isAggD : TypeDesc → Bool
 | .struct _ | .array _ _=>true
 | _=>false

section
variable (P : Program)

def szOf (t : TypeId) : Option Nat:=(P.info? t).map (·.size)
def bytesOf (t : TypeId) : Option Nat:=(P.info? t).map (·.bytes)
def aggOf (t : TypeId) : Option Bool:=(P.underlying t).map isAggD
def zeroOf (t : TypeId) : Option AV:=(P.info? t).bind fun i=>i.zero.map avOf
def elemOfSlice (t : TypeId) : Option TypeId:=match P.underlying t with | some (.slice e)=>some e | _=>none
def fieldOf (t : TypeId) (f : Nat) : Option Field:=match P.underlying t with | some (.struct fs)=>fs[f]? | _=>none

def partOf (t : TypeId) (cs : List AV) (off : Nat) : Option AV:=
 match aggOf P t,szOf P t with
 | some true,some n=>if off + n ≤ cs.length then some (.agg ((cs.drop off).take n)) else none
 | some false,_=>cs[off]?
 | _,_=>none

def Heap.load (H : Heap) (a : AV) (n : Nat) : Option (List AV):=
 match a with
 | .iptr cs o=>if o + n ≤ cs.length then some ((cs.drop o).take n) else none
 | .ptr b i o g=>
  match H.blk b with
  | some (.row _ esz els _ wgen)=>
   if wgen ≤ g ∧ o + n ≤ esz then
    match els[i]? with
    | some cs=>some ((cs.drop o).take n)
    | none=>none
   else none
  | _=>none
 | _=>none

def splice (cs : List AV) (o : Nat) (vs : List AV) : List AV:=cs.take o ++ vs ++ cs.drop (o + vs.length)

def Heap.store (H : Heap) (a : AV) (vs : List AV) : Option Heap:=
 match a with
 | .ptr b i o g=>
  match H.blk b with
  | some (.row ty esz els gen _)=>
   if g = gen ∧ o + vs.length ≤ esz ∧ vs.all AV.isCell = true then
    match els[i]? with
    | some cs=>some (H.set b (.row ty esz (els.set i (splice cs o vs)) gen gen))
    | none=>none
   else none
  | _=>none
 | _=>none

def Heap.elems (H : Heap) (esz n : Nat) (a : AV) : Option (List (List AV)):=
 match a with
 | .nilslice=>if n = 0 then some [] else none
 | .eslice=>if n = 0 then some [] else none
 | .slice b off len _ _ g=>
  match H.blk b with
  | some (.row _ sz els _ wgen)=>if wgen ≤ g ∧ sz = esz ∧ n ≤ len then some ((els.drop off).take n) else none
  | _=>none
 | .lst sz es=>if sz = esz ∧ n ≤ es.length then some (es.take n) else none
 | .str s=>if esz = 1 ∧ n ≤ s.length then some ((s.take n).map fun (c : Nat)=>[AV.int .u8 (c : Int)]) else none
 | _=>none

def AV.len? : AV → Option Nat
 | .nilslice=>some 0
 | .eslice=>some 0
 | .slice _ _ len _ _ _=>some len
 | .lst _ es=>some es.length
 | .str s=>some s.length
 | _=>none

def setAll (els : List (List AV)) (i : Nat) (new : List (List AV)) : List (List AV):=els.take i ++ new ++ els.drop (i + new.length)

def maxBytes : Nat:=140737488355328

def Heap.append (H : Heap) (e : TypeId) (esz bytes : Nat) (s : AV) (new : List (List AV)) : Option (AV × Heap):=
 if new.all (fun cs=>cs.all AV.isCell) = true then
  match s with
  | .nilslice=>if new.length = 0 then some (.nilslice,H) else
    if new.length * bytes ≤ maxBytes ∧ new.length ≤ maxBytes then some (.slice H.next 0 new.length new.length false 0,H.push (.row e esz new 0 0)) else none
  | .eslice=>if new.length = 0 then some (.eslice,H) else
    if new.length * bytes ≤ maxBytes ∧ new.length ≤ maxBytes then some (.slice H.next 0 new.length new.length false 0,H.push (.row e esz new 0 0)) else none
  | .lst sz es=>if new.length = 0 then some (.lst sz es,H) else none
  | .slice b off len cap ex g=>
   if new.length = 0 then some (s,H) else
   match H.blk b with
   | some (.row ty sz els gen wgen)=>
    if wgen ≤ g ∧ sz = esz ∧ (len + new.length) * bytes ≤ maxBytes ∧ len + new.length ≤ maxBytes then
     if len + new.length ≤ cap then
      if g = gen then some (.slice b off (len + new.length) cap ex g,H.set b (.row ty sz (setAll els (off + len) new) gen gen)) else none
     else if ex then some (.slice H.next 0 (len + new.length) (len + new.length) false 0,H.push (.row e esz ((els.drop off).take len ++ new) 0 0))
     else if g = gen ∧ off + len = els.length then some (.slice b off (len + new.length) (len + new.length) false (gen + 1),H.set b (.row ty sz (els ++ new) (gen + 1) wgen))
     else none
    else none
   | _=>none
  | _=>none
 else none

def Heap.append1 (H : Heap) (e : TypeId) (esz bytes : Nat) (s : AV) (new : List (List AV)) : Option (AV × Heap):=
 match H.append e esz bytes s new with
 | some r=>some r
 | none=>
  match s with
  | .slice b off len _ false g=>
   match H.blk b with
   | some (.row ty sz els gen wgen)=>
    if new.all (fun cs=>cs.all AV.isCell) = true ∧ 0 < new.length ∧ g = gen ∧ wgen ≤ gen ∧ sz = esz ∧ off + len ≤ els.length ∧ (len + new.length) * bytes ≤ maxBytes ∧ len + new.length ≤ maxBytes then
     some (.slice b off (len + new.length) (len + new.length) false (gen + 2),H.set b (.row ty sz (els.take (off + len) ++ new) (gen + 2) (gen + 1)))
    else none
   | _=>none
  | _=>none

def eqFields (rec : TypeId → AV → AV → Option Bool) (xs ys : List AV) : List Field → Option Bool
 | []=>some true
 | f :: fs=>
  if f.name = "_" then eqFields rec xs ys fs else
  match partOf P f.type xs f.offset,partOf P f.type ys f.offset with
  | some a,some b=>
   match rec f.type a b with
   | some true=>eqFields rec xs ys fs
   | some false=>some false
   | none=>none
  | _,_=>none

def eqA : Nat → TypeId → AV → AV → Option Bool
 | 0,_,_,_=>none
 | d + 1,t,x,y=>
  match P.underlying t,x,y with
  | some .bool,.bool a,.bool b=>some (a == b)
  | some (.int _),.int k a,.int k' b=>if k = k' then some (a == b) else none
  | some .string,.str a,.str b=>some (a == b)
  | some (.pointer _),.nilptr,.nilptr=>some true
  | some (.pointer _),.nilptr,.ptr .. | some (.pointer _),.nilptr,.iptr .. | some (.pointer _),.ptr ..,.nilptr | some (.pointer _),.iptr ..,.nilptr=>some false
  | some (.interface _),.nilIface,.nilIface=>some true
  | some (.interface _),.nilIface,.iface .. | some (.interface _),.iface ..,.nilIface=>some false
  | some (.slice _),.nilslice,.nilslice=>some true
  | some (.slice _),.nilslice,.eslice | some (.slice _),.nilslice,.slice .. | some (.slice _),.nilslice,.lst ..=>some false
  | some (.slice _),.eslice,.nilslice | some (.slice _),.slice ..,.nilslice | some (.slice _),.lst ..,.nilslice=>some false
  | some (.map _ _),.nilMap,.nilMap=>some true
  | some (.map _ _),.nilMap,.map _ | some (.map _ _),.map _,.nilMap=>some false
  | some (.func ..),.nilFunc,.nilFunc=>some true
  | some (.func ..),.nilFunc,.func .. | some (.func ..),.func ..,.nilFunc=>some false
  | some (.struct fs),.agg xs,.agg ys=>if P.stoodInHeld t then none else eqFields P (eqA d) xs ys fs.toList
  | _,_,_=>none

def lessA : List Nat → List Nat → Bool
 | _,[]=>false
 | [],_ :: _=>true
 | a :: x,b :: y=>decide (a < b) || (a == b && lessA x y)

def evInt (op : BinOp) (k : IntKind) (a b : Int) : Option AV:=
 match op with
 | .add=>some (.int k (k.wrap (a + b)))
 | .sub=>some (.int k (k.wrap (a - b)))
 | .mul=>some (.int k (k.wrap (a * b)))
 | .quo=>if b = 0 then none else some (.int k (k.wrap (a.tdiv b)))
 | .rem=>if b = 0 then none else some (.int k (a.tmod b))
 | .and=>some (.int k (k.wrap (BitVec.ofInt k.bits a &&& BitVec.ofInt k.bits b).toNat))
 | .or=>some (.int k (k.wrap (BitVec.ofInt k.bits a ||| BitVec.ofInt k.bits b).toNat))
 | .xor=>some (.int k (k.wrap (BitVec.ofInt k.bits a ^^^ BitVec.ofInt k.bits b).toNat))
 | .eql=>some (.bool (a == b))
 | .neq=>some (.bool (a != b))
 | .lss=>some (.bool (decide (a < b)))
 | .leq=>some (.bool (decide (a ≤ b)))
 | .gtr=>some (.bool (decide (a > b)))
 | .geq=>some (.bool (decide (a ≥ b)))
 | _=>none

def evStr (op : BinOp) (a b : List Nat) : Option AV:=
 match op with
 | .add=>if a.length + b.length ≤ maxBytes then some (.str (a ++ b)) else none
 | .eql=>some (.bool (a == b))
 | .neq=>some (.bool (!(a == b)))
 | .lss=>some (.bool (lessA a b))
 | .leq=>some (.bool (lessA a b || a == b))
 | .gtr=>some (.bool (!(lessA a b || a == b)))
 | .geq=>some (.bool (!(lessA a b)))
 | _=>none

def eqOk (op : BinOp) (t : TypeId) (x y : Operand) (a b : AV) : Bool:=
 match a,b with
 | .nilIface,.nilIface=>(match x with | .const _=>true | _=>false) || (match y with | .const _=>true | _=>false)
 | .agg _,.agg _=>!(P.eqGuardType P.depth t)
 | _,_=>true

def evBin (op : BinOp) (t : TypeId) (x y : Operand) (a b : AV) : Option AV:=
 match op,a,b with
 | .shl,.int k m,.int _ n=>if n < 0 then none else some (.int k (k.wrap (m * 2 ^ (min n.toNat k.bits))))
 | .shr,.int k m,.int _ n=>if n < 0 then none else some (.int k (m.fdiv (2 ^ (min n.toNat k.bits))))
 | op,.int k m,.int k' n=>if k = k' then evInt op k m n else none
 | op,.str m,.str n=>evStr op m n
 | .eql,a,b=>if eqOk P op t x y a b then (eqA P 10000 t a b).map .bool else none
 | .neq,a,b=>if eqOk P op t x y a b then (eqA P 10000 t a b).map fun r=>.bool (!r) else none
 | _,_,_=>none

def evUn (op : UnOp) (x : AV) : Option AV:=
 match op,x with
 | .neg,.int k n=>some (.int k (k.wrap (0 - n)))
 | .xor,.int k n=>some (.int k (k.wrap (BitVec.ofInt k.bits (if k.signed then -1 else k.max) ^^^ BitVec.ofInt k.bits n).toNat))
 | .not,.bool b=>some (.bool (!b))
 | _,_=>none

def isIfaceD : TypeDesc → Bool
 | .interface _=>true
 | _=>false

def AV.int? : AV → Option Int
 | .int _ n=>some n
 | _=>none

def boundsOk (l h m : Int) : Bool:=decide (0 ≤ l) && decide (l ≤ h) && decide (h ≤ m)

def optInt (ρ : Operand → AV) : Option Operand → Option (Option Int)
 | none=>some none
 | some x=>match ρ x with | .int _ n=>some (some n) | _=>none

def Heap.eszOf (H : Heap) (b g : Nat) : Option Nat:=
 match H.blk b with
 | some (.row _ esz _ _ wgen)=>if wgen ≤ g then some esz else none
 | _=>none

def evSlice (H : Heap) (t : TypeId) (a : AV) (lo hi mx : Option Int) : Option AV:=
 let l:=lo.getD 0
 match P.underlying t,a,mx with
 | some .string,.str s,none=>
  let h:=hi.getD s.length
  if boundsOk l h s.length then some (.str ((s.drop l.toNat).take (h - l).toNat)) else none
 | some (.slice e),.nilslice,none=>if boundsOk l (hi.getD 0) 0 && (szOf P e).isSome then some .nilslice else none
 | some (.slice e),.nilslice,some m=>
  match hi with
  | some h=>if boundsOk l h m && decide (m ≤ 0) && (szOf P e).isSome then some .nilslice else none
  | none=>none
 | some (.slice e),.eslice,none=>if boundsOk l (hi.getD 0) 0 && (szOf P e).isSome then some .eslice else none
 | some (.slice e),.lst sz es,none=>
  let h:=hi.getD es.length
  if boundsOk l h es.length && decide (szOf P e = some sz) then some (.lst sz ((es.drop l.toNat).take (h - l).toNat)) else none
 | some (.slice e),.lst sz es,some m=>
  match hi with
  | some h=>if boundsOk l h m && decide (m ≤ es.length) && decide (l = m) && decide (szOf P e = some sz) then some .eslice else none
  | none=>none
 | some (.slice e),.slice b off len cap ex g,none=>
  let h:=hi.getD len
  if boundsOk l h cap && decide ((szOf P e).isSome ∧ szOf P e = H.eszOf b g) then some (.slice b (off + l.toNat) (h - l).toNat (cap - l.toNat) ex g) else none
 | some (.slice e),.slice b off _ cap _ g,some m=>
  match hi with
  | some h=>if boundsOk l h m && decide (m ≤ cap) && decide ((szOf P e).isSome ∧ szOf P e = H.eszOf b g) then (if l = m then some .eslice else some (.slice b (off + l.toNat) (h - l).toNat (m - l).toNat true g)) else none
  | none=>none
 | _,_,_=>none

def evIndexAddr (H : Heap) (t : TypeId) (a i : AV) : Option AV:=
 match i with
 | .int _ n=>
  match P.underlying t,a with
  | some (.slice e),.slice b off len _ _ g=>if 0 ≤ n ∧ n < (len : Int) ∧ szOf P e = H.eszOf b g then (szOf P e).map fun _=>.ptr b (off + n.toNat) 0 g else none
  | some (.slice e),.lst sz es=>if 0 ≤ n ∧ szOf P e = some sz then (es[n.toNat]?).map fun cs=>.iptr cs 0 else none
  | some (.array len e),.iptr cs o=>if 0 ≤ n ∧ n < (len : Int) then (szOf P e).map fun sz=>.iptr cs (o + n.toNat * sz) else none
  | _,_=>none
 | _=>none

def evIndex (t : TypeId) (a i : AV) : Option AV:=
 match i with
 | .int _ n=>
  match P.underlying t,a with
  | some .string,.str s=>if 0 ≤ n then (s[n.toNat]?).map fun (c : Nat)=>.int .u8 (c : Int) else none
  | some (.array len e),.agg cs=>if 0 ≤ n ∧ n < (len : Int) then (szOf P e).bind fun sz=>partOf P e cs (n.toNat * sz) else none
  | _,_=>none
 | _=>none

def evConvert (s d : TypeId) (x : AV) : Option AV:=
 match P.underlying s,P.underlying d,x with
 | some _,some (.int k),.int _ n=>some (.int k (k.wrap n))
 | some _,some .string,.str l=>some (.str l)
 | _,_,_=>none

def fillA (place : Nat → Option (Nat × Nat)) (cells : List AV) : List (Nat × AV) → Option (List AV)
 | []=>some cells
 | (i,v) :: rest=>
  match place i with
  | none=>none
  | some (off,size)=>
   if v.isUndef = false ∧ v.cells.length = size ∧ off + size ≤ cells.length then fillA place (splice cells off v.cells) rest else none

def evBuild (t : TypeId) (parts : List (Nat × AV)) : Option AV:=
 match zeroOf P t,P.underlying t with
 | some z,some (.struct fs)=>
  if z.isUndef then none else
  if fs.all (fun f=>(szOf P f.type).isSome) then
   (fillA (fun i=>(fs[i]?).bind fun f=>(szOf P f.type).map fun s=>(f.offset,s)) z.cells parts).map .agg
  else none
 | some z,some (.array _ e)=>
  if z.isUndef then none else
  (szOf P e).bind fun s=>(fillA (fun i=>some (i * s,s)) z.cells parts).map .agg
 | _,_=>none

def fillE (esz : Nat) (els : List (List AV)) : List (Nat × AV) → Option (List (List AV))
 | []=>some els
 | (i,v) :: rest=>if v.isUndef = false ∧ v.cells.length = esz ∧ i < els.length then fillE esz (els.set i v.cells) rest else none

def evBuildSlice (H : Heap) (t : TypeId) (len : Nat) (parts : List (Nat × AV)) : Option (AV × Heap):=
 (elemOfSlice P t).bind fun e=>
 match szOf P e,zeroOf P e with
 | some s,some z=>
  if len * s ≤ 2 ^ 24 ∧ z.isUndef = false ∧ z.cells.length = s then
   (fillE s (List.replicate len z.cells) parts).map fun els=>(.slice H.next 0 len len true 0,H.push (.row e s els 0 0))
  else none
 | _,_=>none

def evMakeSlice (H : Heap) (t : TypeId) (l c : AV) : Option (AV × Heap):=
 (elemOfSlice P t).bind fun e=>
 match P.info? e,zeroOf P e,l,c with
 | some i,some z,.int _ l,.int _ c=>
  if 0 ≤ l ∧ l ≤ c ∧ c ≤ 9223372036854775807 ∧ i.bytes * c ≤ 140737488355328 ∧ z.isUndef = false ∧ z.cells.length = i.size then
   some (.slice H.next 0 l.toNat c.toNat true 0,H.push (.row e i.size (List.replicate c.toNat z.cells) 0 0))
  else none
 | _,_,_,_=>none


def isStrT (t : TypeId) : Bool:=match P.underlying t with | some .string=>true | _=>false

def findK (l : List Nat) : List (AV × AV × Nat) → Nat → Option (Option (Nat × AV × Nat))
 | [],_=>some none
 | (.str k,x,n) :: es,i=>if l = k then some (some (i,x,n)) else findK l es (i + 1)
 | _ :: _,_=>none

def evLookup (H : Heap) (t : TypeId) (m k : AV) (ok : Bool) : Option AV:=
 match P.underlying t,k with
 | some (.map kt et),.str l=>
  if isStrT P kt = true then
   match m with
   | .nilMap=>(zeroOf P et).map fun z=>if ok = true then .tuple [z,.bool false] else z
   | .map b=>
    match H.blk b with
    | some (.map es _)=>
     match findK l es 0 with
     | some (some (_,v,_))=>some (if ok = true then .tuple [v,.bool true] else v)
     | some none=>(zeroOf P et).map fun z=>if ok = true then .tuple [z,.bool false] else z
     | none=>none
    | _=>none
   | _=>none
  else none
 | _,_=>none

def evMapUpdate (H : Heap) (t : TypeId) (m k x : AV) : Option Heap:=
 match P.underlying t,k,m with
 | some (.map kt _),.str l,.map b=>
  if isStrT P kt = true then
   match H.blk b with
   | some (.map es cl)=>
    match findK l es 0 with
    | some (some (i,_,n))=>some (H.set b (.map (es.set i (.str l,x,n)) cl))
    | some none=>some (H.set b (.map (es ++ [(.str l,x,cl)]) (cl + 1)))
    | none=>none
   | _=>none
  else none
 | _,_,_=>none


def keyGood (kt : TypeId) (v : Value) : Bool:=
 match P.underlying kt with
 | some (.int k)=>(match v with | .int k' _=>decide (k' = k) | _=>false)
 | _=>(keyOf P kt v).isSome
def keyOk (kt : TypeId) (a : AV) : Option Value:=
 match valOf a with
 | some v=>if keyGood P kt v = true then some v else none
 | none=>none

def wideK (kt : TypeId) : Bool:=(match P.underlying kt with | some (.int _)=>true | some (.array _ _) | some (.struct _)=>P.keyTypeAt 100 kt && P.tiled 100 kt | _=>false)

def findW (key : AV) : List (AV × AV × Nat) → Nat → Option (Nat × AV × Nat)
 | [],_=>none
 | (k,x,n) :: es,i=>if eqKey k key = true then some (i,x,n) else findW key es (i + 1)

def oneW (key : AV) : List (AV × AV × Nat) → Bool
 | []=>true
 | e :: es=>if eqKey e.1 key = true then es.all (fun e=>!eqKey e.1 key) else oneW key es

def evLookupW (H : Heap) (t : TypeId) (m k : AV) (ok : Bool) : Option AV:=
 match P.underlying t with
 | some (.map kt et)=>
  if wideK P kt = true ∧ (keyOk P kt k).isSome then
   match m with
   | .nilMap=>(zeroOf P et).map fun z=>if ok = true then .tuple [z,.bool false] else z
   | .map b=>
    match H.blk b with
    | some (.map es _)=>
     if es.all (fun e=>(keyOk P kt e.1).isSome) = true ∧ oneW k es = true then
      match findW k es 0 with
      | some (_,v,_)=>some (if ok = true then .tuple [v,.bool true] else v)
      | none=>(zeroOf P et).map fun z=>if ok = true then .tuple [z,.bool false] else z
     else none
    | _=>none
   | _=>none
  else none
 | _=>none

def evMapUpdateW (H : Heap) (t : TypeId) (m k x : AV) : Option Heap:=
 match P.underlying t,m with
 | some (.map kt _),.map b=>
  if wideK P kt = true ∧ (keyOk P kt k).isSome then
   match H.blk b with
   | some (.map es cl)=>
    if es.all (fun e=>(keyOk P kt e.1).isSome) = true ∧ oneW k es = true then
     match findW k es 0 with
     | some (i,_,n)=>some (H.set b (.map (es.set i (k,x,n)) cl))
     | none=>some (H.set b (.map (es ++ [(k,x,cl)]) (cl + 1)))
    else none
   | _=>none
  else none
 | _,_=>none

def evLook (H : Heap) (t : TypeId) (m k : AV) (ok : Bool) : Option AV:=match k with | .agg _ | .int _ _=>evLookupW P H t m k ok | _=>evLookup P H t m k ok
def evMapUpd (H : Heap) (t : TypeId) (m k x : AV) : Option Heap:=match k with | .agg _ | .int _ _=>evMapUpdateW P H t m k x | _=>evMapUpdate P H t m k x

def evDelete (H : Heap) (ts : Array TypeId) (m k : AV) : Option (AV × Heap):=
 match (ts[0]?).bind P.underlying,k,m with
 | some (.map kt _),.str l,.map b=>
  if isStrT P kt = true then
   match H.blk b with
   | some (.map es cl)=>
    match findK l es 0 with
    | some (some (i,_,_))=>some (.tuple [],H.set b (.map (es.eraseIdx i) cl))
    | some none=>some (.tuple [],H.set b (.map es cl))
    | none=>none
   | _=>none
  else none
 | _,_,_=>none

def evClear (H : Heap) (ts : Array TypeId) (x : AV) : Option (AV × Heap):=
 match (ts[0]?).bind P.underlying,x with
 | some (.map _ _),.map b=>(match H.blk b with | some (.map _ cl)=>some (.tuple [],H.set b (.map [] cl)) | _=>none)
 | some (.slice _),.nilslice=>some (.tuple [],H)
 | some (.slice _),.eslice=>some (.tuple [],H)
 | some (.slice e),.slice b off len _ _ g=>
  if len = 0 then some (.tuple [],H) else
  match szOf P e,zeroOf P e,H.blk b with
  | some s,some z,some (.row ty sz els gen _)=>
   if g = gen ∧ sz = s ∧ z.isUndef = false ∧ z.cells.length = s ∧ z.cells.all AV.isCell = true ∧ off + len ≤ els.length then some (.tuple [],H.set b (.row ty sz (setAll els off (List.replicate len z.cells)) gen gen)) else none
  | _,_,_=>none
 | _,_=>none

def bytesOfCells : List (List AV) → Option (List Nat)
 | []=>some []
 | [.int .u8 n] :: r=>if 0 ≤ n ∧ n < 256 then (bytesOfCells r).map (n.toNat :: ·) else none
 | _ :: _=>none

def evBytes (H : Heap) (s d : TypeId) (x : AV) : Option AV:=
 match P.underlying s,P.underlying d with
 | some (.slice e),some .string=>
  match P.underlying e,x with
  | some (.int .u8),.slice _ _ len _ _ _=>((H.elems 1 len x).bind bytesOfCells).map .str
  | _,_=>none
 | _,_=>none

def isTextT (s d : TypeId) : Bool:=match P.underlying s,P.underlying d with | some .string,some (.slice _)=>true | _,_=>false
def evText (H : Heap) (d : TypeId) (x : AV) : Option (AV × Heap):=
 match P.underlying d,x with
 | some (.slice e),.str l=>
  match P.underlying e with
  | some (.int .u8)=>some (.slice H.next 0 l.length l.length false 0,H.push (.row e 1 (l.map fun (c : Nat)=>[AV.int .u8 (c : Int)]) 0 0))
  | _=>none
 | _,_=>none

def evBuiltin (H : Heap) (b : Builtin) (ts : Array TypeId) (args : List AV) : Option (AV × Heap):=
 match b,args with
 | .len,[x]=>
  match (ts[0]?).bind P.underlying,x with
  | some .string,.str s=>some (.int .i64 s.length,H)
  | some (.slice _),.nilslice=>some (.int .i64 0,H)
  | some (.slice _),.eslice=>some (.int .i64 0,H)
  | some (.slice _),.slice _ _ n _ _ _=>some (.int .i64 n,H)
  | some (.slice _),.lst _ es=>some (.int .i64 es.length,H)
  | some (.map _ _),.nilMap=>some (.int .i64 0,H)
  | some (.map _ _),.map b=>(match H.blk b with | some (.map es _)=>some (.int .i64 es.length,H) | _=>none)
  | _,_=>none
 | .append,[s,x]=>
  match ts.toList with
  | [t,u]=>
   match elemOfSlice P t,P.underlying u with
   | some e,some d=>
    match P.info? e,d with
    | some _,.int _=>none
    | some i,_=>
     match i.zero,x.len? with
     | some z,some n=>if z.cells.size = i.size ∧ 0 < i.size then (H.elems i.size n x).bind fun new=>H.append1 e i.size i.bytes s new else none
     | _,_=>none
    | _,_=>none
   | _,_=>none
  | _=>none
 | .max,[.int k a,.int k' b]=>if k = k' then some (.int k (if b > a then b else a),H) else none
 | .min,[.int k a,.int k' b]=>if k = k' then some (.int k (if b < a then b else a),H) else none
 | .delete,[m,k]=>evDelete P H ts m k
 | .clear,[x]=>evClear P H ts x
 | _,_=>none

def evOp (ρ : Operand → AV) (o : Oper) (H : Heap) : Option (AV × Heap):=
 match o.op with
 | .move x | .assign x=>some (ρ x,H)
 | .pick c a b=>(match ρ c with | .bool t=>some (if t then ρ a else ρ b,H) | _=>none)
 | .alloc t=>(match zeroOf P t with
  | some z=>if z.isUndef then none else some (.ptr H.next 0 0 0,H.push (.row t z.cells.length [z.cells] 0 0))
  | none=>none)
 | .box t x=>if (ρ x).isUndef then none else some (.ptr H.next 0 0 0,H.push (.row t (ρ x).cells.length [(ρ x).cells] 0 0))
 | .build t parts=>(evBuild P t (parts.toList.map fun p=>(p.1,ρ p.2))).map (·,H)
 | .buildSlice t len parts=>evBuildSlice P H t len (parts.toList.map fun p=>(p.1,ρ p.2))
 | .load t a=>(match aggOf P t,szOf P t with
  | some true,some n=>(H.load (ρ a) n).map fun cs=>(.agg cs,H)
  | some false,_=>(match H.load (ρ a) 1 with | some [v]=>some (v,H) | _=>none)
  | _,_=>none)
 | .store t a x=>if (ρ x).isUndef = false ∧ szOf P t = some (ρ x).cells.length then (H.store (ρ a) (ρ x).cells).map fun H'=>(.undef,H') else none
 | .binOp op t x y _=>(evBin P op t x y (ρ x) (ρ y)).map (·,H)
 | .unOp op _ x=>(evUn op (ρ x)).map (·,H)
 | .convert s d x=>if isTextT P s d = true then evText P H d (ρ x) else (match evConvert P s d (ρ x) with | some r=>some (r,H) | none=>(evBytes P H s d (ρ x)).map (·,H))
 | .makeMap _ none=>some (.map H.next,H.push (.map [] 0))
 | .lookup t x k ok=>(evLook P H t (ρ x) (ρ k) ok).map (·,H)
 | .mapUpdate t m k x=>(evMapUpd P H t (ρ m) (ρ k) (ρ x)).map fun H'=>(.undef,H')
 | .makeInterface t x=>(match P.underlying t with | some d=>if isIfaceD d then none else some (.iface t (ρ x),H) | none=>none)
 | .makeFunc fn first captured=>some (.func fn (first.toList.map ρ) (captured.toList.map ρ),H)
 | .makeSlice t l c=>evMakeSlice P H t (ρ l) (ρ c)
 | .slice t x lo hi mx=>(match optInt ρ lo,optInt ρ hi,optInt ρ mx with
  | some l,some h,some m=>(evSlice P H t (ρ x) l h m).map (·,H)
  | _,_,_=>none)
 | .fieldAddr s x f=>(match fieldOf P s f with
  | some fd=>(match szOf P fd.type,ρ x with
   | some n,.ptr b i o g=>if n = 0 then none else some (.ptr b i (o + fd.offset) g,H)
   | some n,.iptr cs o=>if n = 0 then none else some (.iptr cs (o + fd.offset),H)
   | _,_=>none)
  | none=>none)
 | .field s x f=>(match fieldOf P s f,ρ x with
  | some fd,.agg cs=>(partOf P fd.type cs fd.offset).map (·,H)
  | _,_=>none)
 | .indexAddr t x i=>(evIndexAddr P H t (ρ x) (ρ i)).map (·,H)
 | .index t x i=>(evIndex P t (ρ x) (ρ i)).map (·,H)
 | .extract t i=>(match ρ t with | .tuple vs=>(vs[i]?).map (·,H) | _=>none)
 | .nilCheck x=>(match ρ x with | .ptr b i o g=>some (.ptr b i o g,H) | .iptr cs o=>some (.iptr cs o,H) | _=>none)
 | .call { callee:=.builtin b,args,argTypes }=>evBuiltin P H b argTypes (args.toList.map ρ)
 | _=>none

end
end Go.Ev
