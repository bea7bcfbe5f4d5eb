import Derived.Test.YtlllflmjpclobaaW1
import Derived.Test.YtlllflmjpclobaaV9
set_option linter.unusedVariables false
set_option linter.unusedSimpArgs false
set_option linter.unusedVariables false
set_option linter.unusedSimpArgs false
set_option maxRecDepth 100000
namespace Go.Proofs.T
open Go.Ev

/-- A value whose lists a machine can hold. -/
def TB : Nat → Heap → List AV → Prop
  | 0, _, _ => False
  | n + 1, H, cs => ∃ (k i : Int) (s : List Nat) (v w : AV) (L M : List (List AV)), cs = [.int .i64 k, .int .i64 i, .str s, v, w] ∧ Holds H 5 v L ∧ L.length * 80 ≤ 140737488355328 ∧ (∀ c ∈ L, TB n H c) ∧ Holds H 1 w M ∧ M.length * 16 ≤ 140737488355328 ∧ ∀ c ∈ M, ∃ s, c = [.str s]
theorem TB.vr : ∀ {n : Nat} {H : Heap} {cs : List AV}, TB n H cs → VR n H cs
  | 0, _, _, h => h.elim
  | n + 1, _, _, ⟨k, i, s, v, w, L, M, e, hv, hl, hL, hw, hm, hM⟩ => ⟨k, i, s, v, w, L, M, e, hv, by omega, fun c hc => (hL c hc).vr, hw, by omega, hM⟩
theorem TB.up : ∀ {n : Nat} {H G : Heap} {cs : List AV}, TB n H cs → Up H G → TB n G cs
  | 0, _, _, _, h, _ => h.elim
  | n + 1, _, _, _, ⟨k, i, s, v, w, L, M, e, hv, hl, hL, hw, hm, hM⟩, hu => ⟨k, i, s, v, w, L, M, e, hv.up hu, hl, fun c hc => (hL c hc).up hu, hw.up hu, hm, hM⟩
theorem tb_zv (H : Heap) : TB 1 H zv := ⟨0, 0, [], .nilslice, .nilslice, [], [], rfl, Holds.nil, by decide, by simp, Holds.nil, by decide, by simp⟩
def PolT (H : Heap) (cs : List AV) : Prop := PolR H cs ∧ ∀ w, cs.drop 9 = [w] → ∀ M, Holds H 1 w M → M.length * 16 ≤ 140737488355328
theorem holds_uniq {H G : Heap} {n m : Nat} {v : AV} {L M : List (List AV)} (h : Holds H n v L) (h' : Holds G m v M) : L.length = M.length := by
  have h1 := h.len?
  have h2 := h'.len?
  rw [h1] at h2; exact Option.some.inj h2
theorem PolT.up {H G : Heap} {cs : List AV} (h : PolT H cs) (hu : Up H G) : PolT G cs := by
  refine ⟨h.1.up hu, fun w hw M hM => ?_⟩
  obtain ⟨⟨q, i1, i2, i3, i4, i5, i6, i7, i8, w', M', rfl, hq, hw', h1, h2⟩, h3⟩ := h
  have : w' = w := by simpa using hw
  subst this
  rw [holds_uniq hM hw']
  exact h3 _ rfl _ hw'

/-- An activity's cells. -/
def actC (s ev : Int) (nm : List Nat) (d o : List AV) (x5 x6 x7 x8 x9 x10 x11 : Int) (cn : Bool) (dt : List AV) (fl : List Nat) : List AV :=
  .int .i64 s :: .int .i64 ev :: .str nm :: (d ++ (o ++ (.int .i64 x5 :: .int .i64 x6 :: .int .i64 x7 :: .int .i64 x8 :: .int .i64 x9 :: .int .i64 x10 :: .int .i64 x11 :: .bool cn :: (dt ++ [.str fl]))))
def ActR (H : Heap) (sq : Int) (c : List AV) : Prop := ∃ (s ev : Int) (nm : List Nat) (d o : List AV) (x5 x6 x7 x8 x9 x10 x11 : Int) (cn : Bool) (dt : List AV) (fl : List Nat),
  c = actC s ev nm d o x5 x6 x7 x8 x9 x10 x11 cn dt fl ∧ (∃ n, TB n H d) ∧ PolT H o ∧ (∃ n, TB n H dt) ∧ s ≤ sq
theorem ActR.up {H G : Heap} {sq : Int} {c : List AV} (h : ActR H sq c) (hu : Up H G) : ActR G sq c := by
  obtain ⟨s, ev, nm, d, o, x5, x6, x7, x8, x9, x10, x11, cn, dt, fl, e, ⟨n, hd⟩, ho, ⟨m, hdt⟩, hs⟩ := h
  exact ⟨s, ev, nm, d, o, x5, x6, x7, x8, x9, x10, x11, cn, dt, fl, e, ⟨n, hd.up hu⟩, ho.up hu, ⟨m, hdt.up hu⟩, hs⟩
theorem ActR.mono {H : Heap} {sq sq' : Int} {c : List AV} (h : ActR H sq c) (hu : sq ≤ sq') : ActR H sq' c := by
  obtain ⟨s, ev, nm, d, o, x5, x6, x7, x8, x9, x10, x11, cn, dt, fl, e, hd, ho, hdt, hs⟩ := h
  exact ⟨s, ev, nm, d, o, x5, x6, x7, x8, x9, x10, x11, cn, dt, fl, e, hd, ho, hdt, by omega⟩
theorem ActR.el {H : Heap} {sq : Int} {c : List AV} (h : ActR H sq c) : ElB 32 c := by
  obtain ⟨s, ev, nm, d, o, x5, x6, x7, x8, x9, x10, x11, cn, dt, fl, rfl, ⟨n, hd⟩, ho, ⟨m, hdt⟩, hs⟩ := h
  refine ⟨by simp [actC, hd.vr.len, ho.1.len, hdt.vr.len], ?_, rfl⟩
  simp only [actC, List.all_cons, List.all_append, hd.vr.cells, ho.1.cells, hdt.vr.cells, List.all_nil]; rfl
theorem ActR.seq {H : Heap} {sq : Int} {c : List AV} (h : ActR H sq c) : seqOf c ≤ sq := by
  obtain ⟨s, ev, nm, d, o, x5, x6, x7, x8, x9, x10, x11, cn, dt, fl, rfl, hd, ho, hdt, hs⟩ := h
  exact hs
def TimR (c : List AV) : Prop := ∃ a b d : Int, c = [.int .i64 a, .int .i64 b, .int .i64 d]
def KidR (c : List AV) : Prop := ∃ (a b : Int) (s t : List Nat) (d : Int) (u : List Nat), c = [.int .i64 a, .int .i64 b, .str s, .str t, .int .i64 d, .str u]
def SndR (c : List AV) : Prop := ∃ (a b : Int) (s t : List Nat), c = [.int .i64 a, .int .i64 b, .str s, .str t]
def UpdR (c : List AV) : Prop := ∃ (s : List Nat) (b : Bool), c = [.str s, .bool b]
theorem TimR.el {c : List AV} (h : TimR c) : ElB 3 c := by obtain ⟨a, b, d, rfl⟩ := h; exact ⟨rfl, rfl, rfl⟩
theorem KidR.el {c : List AV} (h : KidR c) : ElB 6 c := by obtain ⟨a, b, s, t, d, u, rfl⟩ := h; exact ⟨rfl, rfl, rfl⟩
theorem SndR.el {c : List AV} (h : SndR c) : ElB 4 c := by obtain ⟨a, b, s, t, rfl⟩ := h; exact ⟨rfl, rfl, rfl⟩

/-- A state's fields. -/
structure PS where
  nx : Int
  st : Int
  tk : Int
  ti : Int
  att : Int
  sq : Int
  nm : List Nat
  inn : List AV
  atr : List AV
  cn : Bool
  va : AV
  vt : AV
  vk : AV
  vs : AV
  vu : AV
  vr : AV
  acts : List (List AV)
  timers : List (List AV)
  kids : List (List AV)
  sends : List (List AV)
  upds : List (List AV)
  reqs : List (List AV)
def PS.cells (p : PS) : List AV := .int .i64 p.nx :: .int .i64 p.st :: .int .i64 p.tk :: .int .i64 p.ti :: .int .i64 p.att :: .int .i64 p.sq :: .str p.nm :: (p.inn ++ (p.atr ++ [.bool p.cn, p.va, p.vt, p.vk, p.vs, p.vu, p.vr]))

/-- A map's cells: as many keys as values, not too many. -/
def AT (H : Heap) (N : Nat) (d : List AV) : Prop := ∃ (k i : Int) (s : List Nat) (v w : AV) (L M : List (List AV)), d = [.int .i64 k, .int .i64 i, .str s, v, w] ∧ Holds H 5 v L ∧ Holds H 1 w M ∧ (∃ n, ∀ c ∈ L, VR n H c) ∧ StrL M ∧ L.length = M.length ∧ L.length ≤ 6000 * N
theorem AT.up {H G : Heap} {N : Nat} {d : List AV} (h : AT H N d) (hu : Up H G) : AT G N d := by
  obtain ⟨k, i, s, v, w, L, M, e, hv, hw, ⟨n, hL⟩, hM, hl, hb⟩ := h
  exact ⟨k, i, s, v, w, L, M, e, hv.up hu, hw.up hu, ⟨n, fun c hc => (hL c hc).up hu⟩, hM, hl, hb⟩
theorem AT.mono {H : Heap} {N N' : Nat} {d : List AV} (h : AT H N d) (hu : N ≤ N') : AT H N' d := by
  obtain ⟨k, i, s, v, w, L, M, e, hv, hw, hL, hM, hl, hb⟩ := h
  exact ⟨k, i, s, v, w, L, M, e, hv, hw, hL, hM, hl, by omega⟩
theorem AT.vr {H : Heap} {N : Nat} {d : List AV} (h : AT H N d) (hN : N ≤ 1000) : ∃ n, VR n H d := by
  obtain ⟨k, i, s, v, w, L, M, e, hv, hw, ⟨n, hL⟩, hM, hl, hb⟩ := h
  exact ⟨n + 1, k, i, s, v, w, L, M, e, hv, by omega, hL, hw, by omega, hM⟩
theorem AT.len {H : Heap} {N : Nat} {d : List AV} (h : AT H N d) : d.length = 5 := by obtain ⟨k, i, s, v, w, L, M, rfl, _⟩ := h; rfl
theorem AT.cells {H : Heap} {N : Nat} {d : List AV} (h : AT H N d) : d.all AV.isCell = true := by
  obtain ⟨k, i, s, v, w, L, M, rfl, hv, hw, _⟩ := h
  simp only [List.all_cons, List.all_nil, holds_cell hv, holds_cell hw]; rfl

structure PR (H : Heap) (N : Nat) (p : PS) : Prop where
  inn : ∃ n, VR n H p.inn
  atr : AT H N p.atr
  ha : Holds H 32 p.va p.acts
  ht : Holds H 3 p.vt p.timers
  hk : Holds H 6 p.vk p.kids
  hs : Holds H 4 p.vs p.sends
  hu : Holds H 2 p.vu p.upds
  hr : Holds H 1 p.vr p.reqs
  na : p.acts.length ≤ N
  nt : p.timers.length ≤ N
  nk : p.kids.length ≤ N
  ns : p.sends.length ≤ N
  nu : p.upds.length ≤ N
  nr : p.reqs.length ≤ N
  ca : ∀ c ∈ p.acts, ActR H p.sq c
  ct : ∀ c ∈ p.timers, TimR c
  ck : ∀ c ∈ p.kids, KidR c
  cs : ∀ c ∈ p.sends, SndR c
  cu : ∀ c ∈ p.upds, UpdR c
  cr : StrL p.reqs
  sq0 : 0 ≤ p.sq
  sqN : p.sq ≤ N
theorem PR.up {H G : Heap} {N : Nat} {p : PS} (h : PR H N p) (hu : Up H G) : PR G N p :=
  ⟨h.inn.elim fun n h => ⟨n, h.up hu⟩, h.atr.up hu, h.ha.up hu, h.ht.up hu, h.hk.up hu, h.hs.up hu, h.hu.up hu, h.hr.up hu, h.na, h.nt, h.nk, h.ns, h.nu, h.nr, fun c hc => (h.ca c hc).up hu, h.ct, h.ck, h.cs, h.cu, h.cr, h.sq0, h.sqN⟩
theorem PR.mono {H : Heap} {N N' : Nat} {p : PS} (h : PR H N p) (hn : N ≤ N') : PR H N' p := by
  have h1 := h.na; have h2 := h.nt; have h3 := h.nk; have h4 := h.ns; have h5 := h.nu; have h6 := h.nr; have h7 := h.sqN
  exact ⟨h.inn, h.atr.mono hn, h.ha, h.ht, h.hk, h.hs, h.hu, h.hr, by omega, by omega, by omega, by omega, by omega, by omega, h.ca, h.ct, h.ck, h.cs, h.cu, h.cr, h.sq0, by omega⟩
/-- The numbers that nothing hangs on. -/
theorem PR.chg {H : Heap} {N : Nat} {p : PS} (h : PR H N p) (nx st tk ti att : Int) (cn : Bool) : PR H N { p with nx := nx, st := st, tk := tk, ti := ti, att := att, cn := cn } :=
  ⟨h.inn, h.atr, h.ha, h.ht, h.hk, h.hs, h.hu, h.hr, h.na, h.nt, h.nk, h.ns, h.nu, h.nr, h.ca, h.ct, h.ck, h.cs, h.cu, h.cr, h.sq0, h.sqN⟩
theorem PR.len {H : Heap} {N : Nat} {p : PS} (h : PR H N p) : p.cells.length = 24 := by
  obtain ⟨n, hi⟩ := h.inn
  simp [PS.cells, hi.len, h.atr.len]
theorem PR.cells {H : Heap} {N : Nat} {p : PS} (h : PR H N p) : p.cells.all AV.isCell = true := by
  obtain ⟨n, hi⟩ := h.inn
  simp only [PS.cells, List.all_cons, List.all_append, hi.cells, h.atr.cells, holds_cell h.ha, holds_cell h.ht, holds_cell h.hk, holds_cell h.hs, holds_cell h.hu, holds_cell h.hr, List.all_nil]; rfl

/-- An event's fields. -/
structure ES where
  id : Int
  k : Int
  tm : Int
  sq : Int
  rf : Int
  nn : Int
  cd : Int
  nm : List Nat
  ky : List Nat
  d : List AV
  o : List AV
def ES.cells (e : ES) : List AV := .int .i64 e.id :: .int .i64 e.k :: .int .i64 e.tm :: .int .i64 e.sq :: .int .i64 e.rf :: .int .i64 e.nn :: .int .i64 e.cd :: .str e.nm :: .str e.ky :: (e.d ++ e.o)
structure ER (H : Heap) (e : ES) : Prop where
  nm : e.nm.length < 2 ^ 60
  ky : e.ky.length < 2 ^ 60
  d : ∃ n, VR n H e.d
  o : PolR H e.o
  dt : ∃ n, TB n H e.d
  ot : PolT H e.o
  sm : ∀ (k i : Int) (s : List Nat) (v w : AV), e.d = [.int .i64 k, .int .i64 i, .str s, v, w] → ∀ L, Holds H 5 v L → L.length ≤ 6000
theorem ER.up {H G : Heap} {e : ES} (h : ER H e) (hu : Up H G) : ER G e :=
  ⟨h.nm, h.ky, h.d.elim fun n h => ⟨n, h.up hu⟩, h.o.up hu, h.dt.elim fun n h => ⟨n, h.up hu⟩, h.ot.up hu, fun k i s v w ed L hL => by
    obtain ⟨n, hn⟩ := h.d
    cases n with
    | zero => exact hn.elim
    | succ n =>
      obtain ⟨k', i', s', v', w', L', M', e', hv', _⟩ := hn
      rw [ed] at e'
      simp only [List.cons.injEq, and_true] at e'
      obtain ⟨_, _, _, rfl, _⟩ := e'
      rw [holds_uniq hL hv']
      exact h.sm k i s v w ed L' hv'⟩
theorem ER.len {H : Heap} {e : ES} (h : ER H e) : e.cells.length = 24 := by
  obtain ⟨n, hd⟩ := h.d
  simp [ES.cells, hd.len, h.o.len]

def z33 : List AV := [.int .i64 0, .int .i64 0, .int .i64 0, .int .i64 0, .int .i64 0, .int .i64 0, .str [], .int .i64 0, .int .i64 0, .str [], .nilslice, .nilslice, .int .i64 0, .int .i64 0, .str [], .nilslice, .nilslice, .bool false, .nilslice, .nilslice, .nilslice, .nilslice, .nilslice, .nilslice]
/-- What an event's effect gives. -/
def PRes (H : Heap) (N : Nat) (Q : PS → Prop) (r : AV) : Prop := ∃ (cs : List AV) (e : Int), r = .tuple [.agg cs, .int .i64 e] ∧ cs.length = 24 ∧ cs.all AV.isCell = true ∧ (e = 0 → ∃ p : PS, cs = p.cells ∧ PR H N p ∧ Q p)
theorem PRes.ok {H : Heap} {N : Nat} {Q : PS → Prop} {p : PS} (h : PR H N p) (q : Q p) : PRes H N Q (.tuple [.agg p.cells, .int .i64 0]) := ⟨_, _, rfl, h.len, h.cells, fun _ => ⟨p, rfl, h, q⟩⟩
theorem PRes.err {H : Heap} {N : Nat} {Q : PS → Prop} {e : Int} (he : e ≠ 0) : PRes H N Q (.tuple [.agg z33, .int .i64 e]) := ⟨_, _, rfl, rfl, rfl, fun h => absurd h he⟩

/-- What an event leaves behind. -/
def Post (e : ES) (p : PS) : Prop := (e.k = 2 → p.tk = 1 ∧ p.ti = e.id) ∧ (e.k = 7 → ∃ c, p.acts.find? (fun c => seqOf c == e.sq) = some c ∧ (c.drop 18).take 2 = [.int .i64 1, .int .i64 1])
end Go.Proofs.T
