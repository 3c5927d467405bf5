import Derived.Test.YtdelbjcfgedjpaaDoorVmA
import Derived.Laws.Tables
import Derived.Laws.CopyRow
import Derived.Laws.AppendOwn
import Derived.Laws.BytesArg
/-! ### 7. The operations that make or write memory -/
namespace Go.Vm
set_option linter.unusedSimpArgs false
set_option linter.unusedVariables false

theorem box_setBox {st : St} {x : B × List Lf} {b : B} {ls : List Lf} (h : (st.setBox x).box b = some ls) : (b = x.1 ∧ ls = x.2) ∨ (b ≠ x.1 ∧ st.box b = some ls) := by
  obtain ⟨b', ls'⟩ := x
  cases b' with
  | par i =>
    cases b with
    | par j =>
      simp only [St.setBox, St.box, getL_setL] at h
      split at h
      · rename_i e; cases h; exact .inl ⟨by rw [e.1], rfl⟩
      · rename_i e
        by_cases e2 : i = j
        · subst e2
          have : getL none st.pb i = none := by rw [getL_eq, List.getElem?_eq_none (by omega)]; rfl
          rw [this] at h; cases h
        · exact .inr ⟨by intro e3; cases e3; exact e2 rfl, h⟩
    | loc t => exact .inr ⟨by simp, h⟩
    | tmp => cases h
  | loc i =>
    cases b with
    | loc j =>
      simp only [St.setBox, St.box, getL_setL] at h
      split at h
      · rename_i e; cases h; exact .inl ⟨by rw [e.1], rfl⟩
      · rename_i e
        by_cases e2 : i = j
        · subst e2
          have : getL none st.lb i = none := by rw [getL_eq, List.getElem?_eq_none (by omega)]; rfl
          rw [this] at h; cases h
        · exact .inr ⟨by intro e3; cases e3; exact e2 rfl, h⟩
    | par t => exact .inr ⟨by simp, h⟩
    | tmp => cases h
  | tmp => 
    cases b with
    | tmp => cases h
    | par t => exact .inr ⟨by simp, h⟩
    | loc t => exact .inr ⟨by simp, h⟩
theorem box_setBoxes {st : St} : ∀ {wr : List (B × List Lf)} {b : B} {ls : List Lf}, (st.setBoxes wr).box b = some ls → (Mini.look ⟨st.box, wr⟩ b) = some ls
  | [], b, ls, h => h
  | x :: r, b, ls, h => by
    obtain ⟨b', ls'⟩ := x
    simp only [St.setBoxes] at h
    rcases box_setBox h with ⟨h1, h2⟩ | ⟨h1, h2⟩
    · dsimp only at h1 h2; subst h1; subst h2; simp [Mini.look, findB, B.beq_refl]
    · have := box_setBoxes h2
      simp only [Mini.look] at this ⊢
      simp only [findB]
      rw [B.beq_false.2 h1]
      exact this
theorem box_killed (st : St) (k : List (B × Option Nat)) (b : B) : (st.killed k).box b = st.box b := by
  cases k <;> cases b <;> rfl
theorem setBoxes_regs (st : St) : ∀ wr : List (B × List Lf), (st.setBoxes wr).regs = st.regs
  | [] => rfl
  | x :: r => by
    simp only [St.setBoxes]
    rw [← setBoxes_regs st r]
    unfold St.setBox
    split <;> rfl
theorem killed_len (st : St) (k : List (B × Option Nat)) : (st.killed k).regs.length = st.regs.length := by
  cases k <;> simp [St.killed, mapL_eq]
theorem look_congr {bx bx' : BX} (h : ∀ b, bx b = bx' b) (ch : List (B × List Lf)) (b : B) : Mini.look ⟨bx, ch⟩ b = Mini.look ⟨bx', ch⟩ b := by
  unfold Mini.look; simp only [h]

section
variable {P : Program} {T : TypeId → Option TI} {G : Gh} {w : World} {st : St} {a : Act} {o : Oper}
/-- An operation's end: the registers by what stays, the boxes by what has been told of them. -/
theorem Rel.done (h : Rel G st a w) {G' : Gh} {w' : World} (d : Option Tmp) (e : Eff) {v : Value} (K : Keep e.kill G w G' w') (hv : RelRV G' w' e.val v) (M : MRel G' w' (Mini.look ⟨st.box, e.wr⟩)) (hn : ∀ k c, G'.own k ≠ some (.tmp, c)) :
    Rel G' (st.apply d e) (a.put d v) w' := by
  have hr := killed_regs K h.regs
  have hr2 : ∀ t, RelRV G' w' (getL .un ((st.killed e.kill).setBoxes e.wr).regs t) (a.tmps.getD t undef) := by rw [setBoxes_regs]; exact hr
  have hlen : ((st.killed e.kill).setBoxes e.wr).regs.length = a.tmps.size := by rw [setBoxes_regs, killed_len]; exact h.len
  obtain ⟨h1, h2⟩ := regs_put hlen hr2 d hv
  refine ⟨h1, h2, fun b ls hb => M.box b ls ?_, M.lt, M.Slt, M.Sown, hn, by rw [put_defers]; exact h.defers⟩
  have e1 : (st.apply d e).box b = ((st.killed e.kill).setBoxes e.wr).box b := by
    unfold St.apply
    cases d <;> cases b <;> rfl
  rw [e1] at hb
  rw [← look_congr (box_killed st e.kill)]
  exact box_setBoxes hb

/-- The rows on their way come to box b's cells, the box b having been cleared. -/
def Gh.settle (G : Gh) (b : B) (blk : Option Nat) (hdr : Nat → Value) (f : Nat → Nat) : Gh where
  blk := fun b' => if b' = b then blk else G.blk b'
  hdr := fun b' c => if b' = b then hdr c else G.hdr b' c
  own := fun x => if some x = blk then some (b, none) else match G.own x with
    | none => none
    | some (b', c) => if b' = .tmp then some (b, c.map f) else if b' = b then none else some (b', c)
  S := G.S

theorem settle_other {b b' : B} {blk : Option Nat} {hdr : Nat → Value} {f : Nat → Nat} {x : Nat} {c : Option Nat} (hx : some x ≠ blk) (h : G.own x = some (b', c)) (h1 : b' ≠ b) (h2 : b' ≠ .tmp) : (G.settle b blk hdr f).own x = some (b', c) := by
  simp [Gh.settle, hx, h, h1, h2]
theorem settle_tmp {b : B} {blk : Option Nat} {hdr : Nat → Value} {f : Nat → Nat} {x : Nat} {c : Option Nat} (hx : some x ≠ blk) (h : G.own x = some (.tmp, c)) : (G.settle b blk hdr f).own x = some (b, c.map f) := by
  simp [Gh.settle, hx, h]
theorem settle_none {b : B} {blk : Option Nat} {hdr : Nat → Value} {f : Nat → Nat} {x : Nat} (hx : some x ≠ blk) (h : G.own x = none) : (G.settle b blk hdr f).own x = none := by
  simp [Gh.settle, hx, h]

/-- What stays when box b is made anew. -/
theorem keep_settle {k : List (B × Option Nat)} {b : B} (hk : (b, none) ∈ k) {blk : Option Nat} {hdr : Nat → Value} {f : Nat → Nat} {w' : World} (hh : ∀ x, G.S x → w'.heap[x]? = w.heap[x]?) : Keep k G w (G.settle b blk hdr f) w' := by
  refine ⟨fun _ h => h, hh, fun b' c hb' hhit => ?_, fun b' hb' hbb => ?_⟩
  · show (if _ then _ else _) = _
    rw [if_neg]
    rintro rfl
    have := hhit _ hk
    simp [B.hit, B.beq_refl] at this
  · show (if _ then _ else _) = _
    rw [if_neg]
    rintro rfl
    exact hbb _ hk ⟨rfl, rfl⟩
theorem keep_moved {k k' : List (B × Option Nat)} {G1 G2 : Gh} {w' : World} {j0 j1 : Nat} (M : Moved G G1 j0 j1 k) (K : Keep k' G1 w G2 w') : Keep k' G w G2 w' := by
  refine ⟨fun x hx => K.S x (by rw [M.S]; exact hx), fun x hx => K.heap x (by rw [M.S]; exact hx), fun b c hb hh => (K.hdr b c hb hh).trans (M.hdr b c hb), fun b hb hh => (K.blk b hb hh).trans (by rw [M.blk])⟩

/-- A leaf on its way, whatever is told of its header. -/
def TL (G : Gh) (w : World) (j : Nat) (l : Lf) (v : Value) : Prop :=
  match l with
  | .own e sz d r => OwnRow G w .tmp j e sz d r v
  | l => RelCell G w .tmp j l v
theorem TLf.tl {j : Nat} {l : Lf} {v : Value} (h : TLf G w j l v) : TL G w j l v := by
  cases l with
  | own e sz d r => exact h.2
  | _ => exact h

/-- A new box with a block of its own. -/
theorem settle_box {m : Mini} (h : MRel G w m.look) (d : Tmp) (t : TypeId) {ls : List Lf} {vs : List Value} (hl : ls.length = vs.length) (hT : ∀ (i : Nat) (l : Lf) (v : Value), ls[i]? = some l → vs[i]? = some v → TL G w i l v) :
    MRel (G.settle (.loc d) (some w.heap.size) (fun c => vs.getD c undef) id) (w.alloc (.cells vs.toArray t)) ((m.put (.loc d) ls).look) := by
  have hold : ∀ x, x < w.heap.size → (w.alloc (.cells vs.toArray t)).heap[x]? = w.heap[x]? := fun x hx => RowKit.Below.heap_alloc w _ x hx
  have hnew : (w.alloc (.cells vs.toArray t)).heap[w.heap.size]? = some (.cells vs.toArray t (0, 0)) := heap_alloc_new w _
  have hne : ∀ x, x < w.heap.size → some x ≠ some w.heap.size := fun x hx e => by cases e; omega
  have hsize : (w.alloc (.cells vs.toArray t)).heap.size = w.heap.size + 1 := by simp
  refine ⟨?_, ?_, ?_, ?_, ?_⟩
  · rw [look_put, if_neg (by simp)]; exact h.tmp
  · intro b ls' hb
    rw [look_put] at hb
    split at hb
    · rename_i e; subst e; cases hb
      unfold RelBox
      have : (G.settle (.loc d) (some w.heap.size) (fun c => vs.getD c undef) id).blk (.loc d) = some w.heap.size := by simp [Gh.settle]
      rw [this]
      refine ⟨by simp [Gh.settle], vs.toArray, t, hnew, by simp [hl], fun c l hc => ?_⟩
      have hlt : c < vs.length := by rw [← hl]; exact (List.getElem?_eq_some_iff.1 hc).1
      refine ⟨vs[c], by simp [hlt], ?_⟩
      have := hT c l vs[c] hc (List.getElem?_eq_getElem hlt)
      have hv : (G.settle (.loc d) (some w.heap.size) (fun c => vs.getD c undef) id).hdr (.loc d) c = vs[c] := by simp [Gh.settle, hlt]
      cases l with
      | own e sz dp r =>
        refine ⟨hv.symm, OwnRow.ren this (fun _ h => h) (fun x hx => hold x (h.Slt x hx)) fun x hx => ⟨?_, hold x (h.lt x _ hx)⟩⟩
        exact settle_tmp (c := some c) (hne x (h.lt x _ hx)) hx
      | un => exact this
      | pv p => exact Rep.move (fun _ h => h) (fun x hx => hold x (h.Slt x hx)) this
      | fn f caps => obtain ⟨us, hu, ha⟩ := this; exact ⟨us, hu, ha.imp fun c _ u hu => hu.move (fun _ h => h) (fun x hx => hold x (h.Slt x hx))⟩
      | hd _ _ => exact this.elim
      | tk _ _ _ => exact this.elim
      | vw _ _ _ _ _ => exact this.elim
      | ptr _ => exact this.elim
    · rename_i e
      have hbt : b ≠ .tmp := by rintro rfl; rw [h.tmp] at hb; cases hb
      refine relBox_keep (G := G) (fun _ h => h) (fun x hx => hold x (h.Slt x hx)) (fun c => ?_) ?_ (fun x c hx => ⟨settle_other (hne x (h.lt x _ hx)) hx e hbt, hold x (h.lt x _ hx)⟩) (h.box b ls' hb)
      · simp [Gh.settle, e]
      · simp [Gh.settle, e]
  · intro x o hx
    rw [hsize]
    by_cases e : x = w.heap.size
    · omega
    · cases ho : G.own x with
      | none => rw [settle_none (fun e2 => e (by cases e2; rfl)) ho] at hx; cases hx
      | some q => have := h.lt x q ho; omega
  · intro x hx; rw [hsize]; have := h.Slt x hx; omega
  · intro x hx
    exact settle_none (hne x (h.Slt x hx)) (h.Sown x hx)

theorem fr_moved {k : List (B × Option Nat)} {G1 : Gh} {j0 j1 : Nat} (M : Moved G G1 j0 j1 k) {x : Nat} (h : G.own x = none) : G1.own x = none := by
  rcases M.own x with e | ⟨b, c, j, e1, _⟩
  · exact e.trans h
  · rw [h] at e1; cases e1
theorem fr_settle {k : List (B × Option Nat)} {G1 : Gh} {j0 j1 : Nat} (M : Moved G G1 j0 j1 k) (b : B) (hbp : ∀ i, b ≠ .par i) (hdr : Nat → Value) (f : Nat → Nat) (o : Obj) : Fr G w (G1.settle b (some w.heap.size) hdr f) (w.alloc o) := by
  refine ⟨rfl, rfl, rfl, by simp, fun x hx _ => RowKit.Below.heap_alloc w _ x hx, fun x hx ho => settle_none (fun e => by cases e; omega) (fr_moved M ho), fun x hx => by show G1.S x; rw [M.S]; exact hx, fun x hx => .inl (by have : G1.S x := hx; rwa [M.S] at this), fun i => (by show (if _ then _ else _) = _; rw [if_neg (fun e => hbp i e.symm), M.blk])⟩
theorem notmp_settle {b : B} (hb : b ≠ .tmp) {blk : Option Nat} {hdr : Nat → Value} {f : Nat → Nat} : ∀ x c, (G.settle b blk hdr f).own x ≠ some (.tmp, c) := by
  intro x c h
  simp only [Gh.settle] at h
  split at h
  · cases h; exact hb rfl
  · split at h
    · cases h
    · split at h
      · cases h; exact hb rfl
      · split at h
        · cases h
        · rename_i h1 _; cases h; exact h1 rfl
theorem zeroLf_get : ∀ (ks : List LK) (vs : List Value), ks.length = vs.length → (zeroLf ks vs).length = vs.length ∧ ∀ (i : Nat) (l : Lf) (v : Value), (zeroLf ks vs)[i]? = some l → vs[i]? = some v → (∃ e sz, ks[i]? = some (.slc e sz) ∧ l = .own e sz true []) ∨ l = .pv (.val v)
  | [], [], _ => ⟨rfl, fun i l v hl => by simp [zeroLf] at hl⟩
  | [], _ :: _, h => by simp at h
  | _ :: _, [], h => by simp at h
  | k :: ks, v :: vs, h => by
    obtain ⟨h1, h2⟩ := zeroLf_get ks vs (by simpa using h)
    have hz : ∃ l0, zeroLf (k :: ks) (v :: vs) = l0 :: zeroLf ks vs ∧ ((∃ e sz, k = .slc e sz ∧ l0 = .own e sz true []) ∨ l0 = .pv (.val v)) := by
      cases k with
      | slc e sz => exact ⟨_, rfl, .inl ⟨e, sz, rfl, rfl⟩⟩
      | _ => exact ⟨_, rfl, .inr rfl⟩
    obtain ⟨l0, hz, hl0⟩ := hz
    rw [hz]
    refine ⟨by simp [h1], fun i l v' hl hv => ?_⟩
    cases i with
    | zero =>
      simp at hl hv; subst hl; subst hv
      rcases hl0 with ⟨e, sz, rfl, rfl⟩ | rfl
      · exact .inl ⟨e, sz, rfl, rfl⟩
      · exact .inr rfl
    | succ i => exact h2 i l v' (by simpa using hl) (by simpa using hv)

theorem sound_alloc (hT : TabOk P T) (h : Rel G st a w) {t : TypeId} (ho : o.op = .alloc t) {p : Cnd} {e : Eff} (he : effAlloc o.dst (T t) = some (p, e)) : Runs P o st a G w e := by
  unfold effAlloc at he
  split at he
  case h_2 => cases he
  rename_i d ti hd ht
  cases he
  have hty := hT t ti ht
  obtain ⟨i, z, hi, hsz, hby, hz, hzc⟩ := hty.info
  obtain ⟨hl, hg⟩ := zeroLf_get ti.kinds ti.zero hty.len.symm
  have hm := settle_box (m := ⟨st.box, []⟩) h.m d t (ls := zeroLf ti.kinds ti.zero) (vs := ti.zero) hl fun i l v hl' hv => by
    rcases hg i l v hl' hv with ⟨e, sz, hk, rfl⟩ | rfl
    · refine .inl ⟨rfl, ?_⟩
      have := hty.slc i e sz hk
      rw [this] at hv; cases hv; rfl
    · exact .val _ (hty.one v (List.mem_of_getElem? hv))
  have hrun : (execOp a.eval o).run P w = .ok (.value (.pointer (some ⟨w.heap.size, 0, none⟩))) (w.alloc (.cells ti.zero.toArray t)) := by
    simp only [execOp, ho, Sem.run_bind, Instr.alloc, zeroValue, typeInfo, newVar, newRow, newObj, ← hzc]
    simp [program, Sem.run, hi, hz]
  refine ⟨_, _, fr_settle (Moved.refl G 0) (.loc d) (by simp) (fun c => ti.zero.getD c undef) id _, .inl ⟨_, hrun, ?_⟩⟩
  refine h.done o.dst _ (keep_settle (List.mem_singleton.2 rfl) fun x hx => RowKit.Below.heap_alloc w _ x (h.Slt x hx)) (ptr_rel ⟨w.heap.size, by simp [Gh.settle], rfl, by simp⟩) hm (notmp_settle (by simp))

theorem nilOwn_get : ∀ (ks : List LK) (ls : List Lf), (nilOwn ks ls).length = ls.length ∧ ∀ (i : Nat) (l : Lf), (nilOwn ks ls)[i]? = some l → ls[i]? = some l ∨ ∃ e sz v, l = .own e sz true [] ∧ ls[i]? = some (.pv (.val v)) ∧ isNil v = true
  | [], ls => by cases ls <;> exact ⟨rfl, fun i l h => .inl h⟩
  | k :: ks, [] => by
    have : nilOwn (k :: ks) [] = [] := by cases k <;> rfl
    rw [this]; exact ⟨rfl, fun i l h => .inl h⟩
  | k :: ks, l0 :: ls => by
    obtain ⟨h1, h2⟩ := nilOwn_get ks ls
    have hz : ∃ l1, nilOwn (k :: ks) (l0 :: ls) = l1 :: nilOwn ks ls ∧ (l1 = l0 ∨ ∃ e sz v, l1 = .own e sz true [] ∧ l0 = .pv (.val v) ∧ isNil v = true) := by
      cases k with
      | slc e sz =>
        cases l0 with
        | pv q =>
          cases q with
          | val v =>
            refine ⟨_, rfl, ?_⟩
            cases hn : isNil v with
            | true => exact .inr ⟨e, sz, v, rfl, rfl, hn⟩
            | false => exact .inl rfl
          | sl _ _ => exact ⟨_, rfl, .inl rfl⟩
          | err _ => exact ⟨_, rfl, .inl rfl⟩
        | _ => exact ⟨_, rfl, .inl rfl⟩
      | _ => exact ⟨_, rfl, .inl rfl⟩
    obtain ⟨l1, hz, hl1⟩ := hz
    rw [hz]
    refine ⟨by simp [h1], fun i l hl => ?_⟩
    cases i with
    | zero =>
      simp at hl; subst hl
      rcases hl1 with rfl | ⟨e, sz, v, rfl, rfl, hn⟩
      · exact .inl rfl
      · exact .inr ⟨e, sz, v, rfl, rfl, hn⟩
    | succ i => simpa using h2 i l (by simpa using hl)
theorem tl_nilOwn {ks : List LK} {ls : List Lf} {vs : List Value} (h : ∀ (i : Nat) (l : Lf) (v : Value), ls[i]? = some l → vs[i]? = some v → TL G w i l v) : ∀ (i : Nat) (l : Lf) (v : Value), (nilOwn ks ls)[i]? = some l → vs[i]? = some v → TL G w i l v := by
  intro i l v hl hv
  rcases (nilOwn_get ks ls).2 i l hl with h1 | ⟨e, sz, v0, rfl, h1, hn⟩
  · exact h i l v h1 hv
  · have := h i _ v h1 hv
    obtain ⟨e1, _⟩ := rep_val.1 this
    exact .inl ⟨rfl, by rw [e1, isNil_eq hn]⟩

theorem setCell_bx (m : Mini) (b : B) (c : Nat) (l : Lf) : (m.setCell b c l).bx = m.bx := by
  unfold Mini.setCell
  split <;> rfl
theorem boxIn_bx {m m' : Mini} {l l' : Lf} {k : List (B × Option Nat)} (h : boxIn m l = some (l', m', k)) : m'.bx = m.bx := by
  unfold boxIn at h
  split at h
  · cases h; rfl
  · cases h; rfl
  · cases h; rfl
  · split at h
    · cases h; exact setCell_bx ..
    · cases h
  · split at h
    · cases h; exact setCell_bx ..
    · cases h
  · obtain ⟨_, h⟩ := bif_some h; cases h; rfl
  · cases h
theorem boxInL_bx : ∀ (ls : List Lf) (m m' : Mini) (ls' : List Lf) (k : List (B × Option Nat)), boxInL m ls = some (ls', m', k) → m'.bx = m.bx
  | [], m, m', ls', k, h => by cases h; rfl
  | l :: ls, m, m', ls', k, h => by
    unfold boxInL at h
    split at h
    case h_2 => cases h
    rename_i l1 m1 k1 h1
    split at h
    case h_2 => cases h
    rename_i r1 m2 k2 h2
    cases h
    exact (boxInL_bx ls m1 m' r1 k2 h2).trans (boxIn_bx h1)
theorem elemIn_bx {m m' : Mini} {kk : LK} {l : Lf} {p : PV} {d : Bool} {k : List (B × Option Nat)} (h : elemIn m kk l = some (p, d, m', k)) : m'.bx = m.bx := by
  unfold elemIn at h
  split at h
  · split at h
    · obtain ⟨_, h⟩ := bif_some h; cases h; rfl
    · cases h; rfl
  · cases h; rfl
  · split at h
    · cases h; exact setCell_bx ..
    · cases h
  · cases h
theorem elemInL_bx : ∀ (ks : List LK) (ls : List Lf) (m m' : Mini) (ps : List PV) (d : Bool) (k : List (B × Option Nat)), elemInL m ks ls = some (ps, d, m', k) → m'.bx = m.bx
  | [], [], m, m', ps, d, k, h => by cases h; rfl
  | [], _ :: _, m, m', ps, d, k, h => by cases h
  | _ :: _, [], m, m', ps, d, k, h => by cases h
  | kk :: ks, l :: ls, m, m', ps, d, k, h => by
    unfold elemInL at h
    split at h
    case h_2 => cases h
    rename_i l1 d1 m1 k1 h1
    split at h
    case h_2 => cases h
    rename_i r1 d2 m2 k2 h2
    cases h
    exact (elemInL_bx ks ls m1 m' r1 d2 k2 h2).trans (elemIn_bx h1)

/-- A value's cells. -/
theorem leafs_rel {r : RV} {ls : List Lf} {v : Value} (hl : leafs r = some ls) (h : RelRV G w r v) : All2 (fun l u => RelLf G w l u ∧ u.oneCell' = true) ls v.cells.toList := by
  unfold leafs at hl
  split at hl
  case h_2 => cases hl
  rename_i ag ls'
  cases hl
  cases ag with
  | true => obtain ⟨vs, rfl, ha⟩ := h; exact ha
  | false =>
    obtain ⟨l, e, h1, h2⟩ := h
    dsimp only at e; subst e
    have : v.cells = #[v] := by cases v <;> first | rfl | cases h2
    rw [this]; exact .cons ⟨h1, h2⟩ .nil
theorem sound_box (hT : TabOk P T) (h : Rel G st a w) {t : TypeId} {x : Operand} (ho : o.op = .box t x) {p : Cnd} {e : Eff} (he : effBox ⟨st.box, []⟩ o.dst (T t) (opnd st.regs x) = some (p, e)) : Runs P o st a G w e := by
  unfold effBox at he
  split at he
  case h_2 => cases he
  rename_i d ti ls hd ht hls
  split at he
  case h_2 => cases he
  rename_i ls' m' k hb
  cases he
  have ha := leafs_rel hls (opnd_rel h x)
  obtain ⟨G1, b1, b2, b3, b4⟩ := boxInL_sound ls _ G ⟨st.box, []⟩ m' ls' k 0 h.m ha hb (fun j' x _ hx => h.notmp x _ hx)
  have hlen : ls'.length = (a.eval x).cells.toList.length := by rw [b3, ha.length]
  have hm := settle_box b1 d t (ls := nilOwn ti.kinds ls') (vs := (a.eval x).cells.toList) (by rw [(nilOwn_get _ _).1, hlen]) (tl_nilOwn fun i l v hl hv => by have := b4 i l v hl hv; rw [Nat.zero_add] at this; exact this.tl)
  have hrun : (execOp a.eval o).run P w = .ok (.value (.pointer (some ⟨w.heap.size, 0, none⟩))) (w.alloc (.cells (a.eval x).cells.toList.toArray t)) := by
    simp only [execOp, ho, Sem.run_bind, Instr.box, newVar, newRow, newObj]
    simp [Sem.run]
  refine ⟨_, _, fr_settle b2 (.loc d) (by simp) (fun c => (a.eval x).cells.toList.getD c undef) id _, .inl ⟨_, hrun, ?_⟩⟩
  refine h.done o.dst _ (keep_moved b2 (keep_settle (List.mem_cons_self ..) fun x hx => RowKit.Below.heap_alloc w _ x (b1.Slt x hx))) (ptr_rel ⟨w.heap.size, by simp [Gh.settle], rfl, by simp⟩) ?_ (notmp_settle (by simp))
  have hbx : m'.bx = st.box := boxInL_bx ls _ m' ls' k hb
  have : (m'.put (.loc d) (nilOwn ti.kinds ls')) = ⟨st.box, (m'.put (.loc d) (nilOwn ti.kinds ls')).ch⟩ := by unfold Mini.put; rw [hbx]
  rw [← this]; exact hm
end
end Go.Vm

/-! ### 8. Rows of the call's own -/
namespace Go.Vm
set_option linter.unusedSimpArgs false
set_option linter.unusedVariables false
section
variable {P : Program} {T : TypeId → Option TI} {G : Gh} {w w' : World} {st : St} {a : Act} {o : Oper}

/-- The rows on their way make one row, which slot d's own box holds; kb: its block. -/
noncomputable def Gh.rowG (G : Gh) (d : Tmp) (kb : Option Nat) (keep : Bool) (v : Value) : Gh where
  blk := fun b => if b = .loc d then none else G.blk b
  hdr := fun b c => if b = .loc d then v else G.hdr b c
  own := fun x => if some x = kb then some (.loc d, some 0) else match G.own x with
    | none => none
    | some (b', c) => if b' = .tmp then (if keep = true then some (.loc d, some 0) else none) else if b' = .loc d then none else some (b', c)
  S := fun x => G.S x ∨ (keep = false ∧ (∃ c, G.own x = some (.tmp, c)) ∧ some x ≠ kb)

section
variable {d : Tmp} {kb : Option Nat} {keep : Bool} {v : Value} {x : Nat}
theorem rowG_kb (h : some x = kb) : (G.rowG d kb keep v).own x = some (.loc d, some 0) := by simp [Gh.rowG, h]
theorem rowG_none (hx : some x ≠ kb) (h : G.own x = none) : (G.rowG d kb keep v).own x = none := by simp [Gh.rowG, hx, h]
theorem rowG_other {b : B} {c : Option Nat} (hx : some x ≠ kb) (h : G.own x = some (b, c)) (h1 : b ≠ .tmp) (h2 : b ≠ .loc d) : (G.rowG d kb keep v).own x = some (b, c) := by simp [Gh.rowG, hx, h, h1, h2]
theorem rowG_tmp {c : Option Nat} (hk : keep = true) (h : G.own x = some (.tmp, c)) : (G.rowG d kb keep v).own x = some (.loc d, some 0) := by
  by_cases hx : some x = kb
  · exact rowG_kb hx
  · simp [Gh.rowG, hx, h, hk]
theorem rowG_tmp' {c : Option Nat} (hx : some x ≠ kb) (hk : keep = false) (h : G.own x = some (.tmp, c)) : (G.rowG d kb keep v).own x = none := by simp [Gh.rowG, hx, h, hk]
theorem rowG_notmp : ∀ x c, (G.rowG d kb keep v).own x ≠ some (.tmp, c) := by
  intro x c h
  simp only [Gh.rowG] at h
  split at h
  · cases h
  · split at h
    · cases h
    · split at h
      · split at h <;> cases h
      · split at h
        · cases h
        · rename_i h1 _; cases h; exact h1 rfl
theorem rowG_blk {b : B} (h : b ≠ .loc d) : (G.rowG d kb keep v).blk b = G.blk b := by simp [Gh.rowG, h]
theorem rowG_hdr {b : B} {c : Nat} (h : b ≠ .loc d) : (G.rowG d kb keep v).hdr b c = G.hdr b c := by simp [Gh.rowG, h]
theorem rowG_hd {c : Nat} : (G.rowG d kb keep v).hdr (.loc d) c = v := by simp [Gh.rowG]
theorem rowG_loc : (G.rowG d kb keep v).blk (.loc d) = none := by simp [Gh.rowG]

/-- The row's block is on its way, or new. -/
def KbOk (G : Gh) (w w' : World) (kb : Option Nat) : Prop := (∀ x, some x = kb → ((∃ c, G.own x = some (.tmp, c)) ∨ w.heap.size ≤ x) ∧ x < w'.heap.size) ∧ w.heap.size ≤ w'.heap.size ∧ ∀ x, x < w.heap.size → some x ≠ kb → w'.heap[x]? = w.heap[x]?

theorem kb_not_S {m : Mini} (h : MRel G w m.look) (hk : KbOk G w w' kb) (hx : G.S x) : some x ≠ kb := by
  intro e
  rcases (hk.1 x e).1 with ⟨c, h1⟩ | h1
  · rw [h.Sown x hx] at h1; cases h1
  · have := h.Slt x hx; omega
theorem kb_not_own {m : Mini} (h : MRel G w m.look) (hk : KbOk G w w' kb) {b : B} {c : Option Nat} (ho : G.own x = some (b, c)) (hb : b ≠ .tmp) : some x ≠ kb := by
  intro e
  rcases (hk.1 x e).1 with ⟨c', h1⟩ | h1
  · rw [ho] at h1; cases h1; exact hb rfl
  · have := h.lt x _ ho; omega
theorem mrel_rowG {m : Mini} (h : MRel G w m.look) (hk : KbOk G w w' kb) {e sz : Nat} {dp : Bool} {r : List (List PV)} (hr : OwnRow (G.rowG d kb keep v) w' (.loc d) 0 e sz dp r v) :
    MRel (G.rowG d kb keep v) w' (m.put (.loc d) [.own e sz dp r]).look := by
  have hSh : ∀ x, G.S x → w'.heap[x]? = w.heap[x]? := fun x hx => hk.2.2 x (h.Slt x hx) (kb_not_S h hk hx)
  refine ⟨?_, ?_, ?_, ?_, ?_⟩
  · rw [look_put, if_neg (by simp)]; exact h.tmp
  · intro b ls hb
    rw [look_put] at hb
    split at hb
    · rename_i e1; subst e1; cases hb
      unfold RelBox
      rw [rowG_loc]
      intro c l hl
      right
      cases c with
      | zero => simp at hl; subst hl; exact ⟨rfl, by rw [rowG_hd]; exact hr⟩
      | succ c => simp at hl
    · rename_i e1
      have hbt : b ≠ .tmp := by rintro rfl; rw [h.tmp] at hb; cases hb
      refine relBox_keep (G := G) (fun _ h => .inl h) hSh (fun c => rowG_hdr e1) (rowG_blk e1) (fun x c hx => ?_) (h.box b ls hb)
      have hne := kb_not_own h hk hx hbt
      exact ⟨rowG_other hne hx hbt e1, hk.2.2 x (h.lt x _ hx) hne⟩
  · intro x q hx
    by_cases e1 : some x = kb
    · exact (hk.1 x e1).2
    · cases ho : G.own x with
      | none => rw [rowG_none e1 ho] at hx; cases hx
      | some q => have := h.lt x q ho; have := hk.2.1; omega
  · rintro x (hx | ⟨_, ⟨c, hc⟩, _⟩)
    · have := h.Slt x hx; have := hk.2.1; omega
    · have := h.lt x _ hc; have := hk.2.1; omega
  · rintro x (hx | ⟨h1, ⟨c, hc⟩, h2⟩)
    · exact rowG_none (kb_not_S h hk hx) (h.Sown x hx)
    · exact rowG_tmp' h2 h1 hc
theorem fr_rowG {G0 : Gh} {k : List (B × Option Nat)} {j0 j1 : Nat} (M : Moved G0 G j0 j1 k) (hn : ∀ x c, G0.own x ≠ some (.tmp, c)) (hk : KbOk G w w' kb) (ho : w'.os = w.os) (ht : w'.tape = w.tape) (hu : w'.output = w.output) : Fr G0 w (G.rowG d kb keep v) w' := by
  have hnk : ∀ x, x < w.heap.size → G0.own x = none → some x ≠ kb := by
    intro x hx h0 e
    rcases (hk.1 x e).1 with ⟨c, h1⟩ | h1
    · rw [fr_moved M h0] at h1; cases h1
    · omega
  refine ⟨ho, ht, hu, hk.2.1, fun x hx h0 => hk.2.2 x hx (hnk x hx h0), fun x hx h0 => rowG_none (hnk x hx h0) (fr_moved M h0), fun x hx => .inl (by rw [M.S]; exact hx), ?_, fun i => (by rw [rowG_blk (by simp), M.blk])⟩
  rintro x (hx | ⟨_, ⟨c, hc⟩, _⟩)
  · exact .inl (by rw [← M.S]; exact hx)
  · right; right; intro h0; rw [fr_moved M h0] at hc; cases hc
theorem keep_rowG {k : List (B × Option Nat)} (hkk : (B.loc d, none) ∈ k) {m : Mini} (h : MRel G w m.look) (hk : KbOk G w w' kb) : Keep k G w (G.rowG d kb keep v) w' := by
  refine ⟨fun _ h => .inl h, fun x hx => hk.2.2 x (h.Slt x hx) (kb_not_S h hk hx), fun b c hb hh => rowG_hdr ?_, fun b hb hh => rowG_blk ?_⟩
  · rintro rfl
    have := hh _ hkk
    simp [B.hit, B.beq_refl] at this
  · rintro rfl
    exact hh _ hkk ⟨rfl, rfl⟩
end

/-- A step that ends with a row in slot d's own box. -/
theorem done_row (h : Rel G st a w) {G1 : Gh} {m' : Mini} {j0 j1 : Nat} {kk k : List (B × Option Nat)} (M : Moved G G1 j0 j1 kk) (hm : MRel G1 w m'.look) (hbx : m'.bx = st.box) {d : Tmp} (hd : o.dst = some d) {kb : Option Nat} {keep : Bool} {v : Value} (hk : KbOk G1 w w' kb)
    (ho : w'.os = w.os) (ht : w'.tape = w.tape) (hu : w'.output = w.output) {e sz : Nat} {dp : Bool} {r : List (List PV)} (hr : OwnRow (G1.rowG d kb keep v) w' (.loc d) 0 e sz dp r v) (hkk : (B.loc d, none) ∈ k)
    (hrun : (execOp a.eval o).run P w = .ok (.value v) w') : Runs P o st a G w ⟨k, one (.hd (.loc d) 0), (m'.put (.loc d) [.own e sz dp r]).ch⟩ := by
  refine ⟨G1.rowG d kb keep v, w', fr_rowG M h.notmp hk ho ht hu, .inl ⟨v, hrun, ?_⟩⟩
  refine h.done o.dst _ (keep_moved M (keep_rowG hkk hm hk)) (one_rel.2 ⟨⟨⟨rowG_hd.symm, by simp⟩, (ownRow_slice hr).1⟩, (ownRow_slice hr).1⟩) ?_ rowG_notmp
  have e1 : (m'.put (.loc d) [.own e sz dp r]) = ⟨st.box, (m'.put (.loc d) [.own e sz dp r]).ch⟩ := by unfold Mini.put; rw [hbx]
  rw [← e1]; exact mrel_rowG hm hk hr

theorem sound_assign (h : Rel G st a w) {x : Operand} (ho : o.op = .assign x) {el : Option (TypeId × Nat)} {p : Cnd} {e : Eff} (he : effAssign ⟨st.box, []⟩ el o.dst (opnd st.regs x) = some (p, e)) : Runs P o st a G w e := by
  unfold effAssign at he
  split at he
  · rename_i d v hd hx
    cases hn : isNil v with
    | false => rw [hn] at he; obtain rfl := ret_some he; exact sound_move h (.inr ho) rfl
    | true =>
      rw [hn] at he
      simp only [cond_true] at he
      split at he
      case h_2 => obtain rfl := ret_some he; exact sound_move h (.inr ho) rfl
      cases he
      have hx' := opnd_rel h x
      rw [hx] at hx'
      have hv := (rep_val.1 (one_rel.1 hx').1).1
      rw [isNil_eq hn] at hv
      have hm : MRel G w (Mini.look ⟨st.box, []⟩) := h.m
      exact done_row h (Moved.refl G 0) hm rfl hd (kb := none) (keep := true) (v := a.eval x) ⟨fun _ e => (by cases e), Nat.le_refl _, fun _ _ _ => rfl⟩ rfl rfl rfl (.inl ⟨rfl, hv⟩) (List.mem_singleton.2 rfl) (by simp [execOp, ho])
  · rename_i d b c hd hx
    cases hb : b.beq (.loc d) with
    | true => rw [hb] at he; obtain rfl := ret_some he; exact sound_move h (.inr ho) rfl
    | false =>
      rw [hb] at he
      simp only [cond_false] at he
      split at he
      case h_2 => cases he
      rename_i e' sz dp r hc
      cases he
      have hx' := opnd_rel h x
      rw [hx] at hx'
      have hv := (one_rel.1 hx').1.1.1
      obtain ⟨G1, h1, h2, h3, h4⟩ := h.m.out (m := ⟨st.box, []⟩) hc 0 (fun x => h.notmp x _) (a.eval x)
      have hkb : KbOk G1 w w (a.eval x).ownBlock := by
        refine ⟨fun y hy => ?_, Nat.le_refl _, fun _ _ _ => rfl⟩
        rw [hv] at hy
        rcases h3 with ⟨_, h5⟩ | ⟨k, cap, cur, h5, h6, _⟩
        · rw [h5] at hy; cases hy
        · rw [h5] at hy; cases hy; exact ⟨.inl ⟨_, h6⟩, h1.lt _ _ h6⟩
      refine done_row h h2 h1 (setCell_bx ..) hd (keep := true) (v := a.eval x) hkb rfl rfl rfl ?_ (List.mem_cons_of_mem _ (List.mem_singleton.2 rfl)) (by simp [execOp, ho])
      rw [hv]
      exact h3.ren (fun _ h => .inl h) (fun _ _ => rfl) fun y hy => ⟨rowG_tmp rfl hy, rfl⟩
  · obtain rfl := ret_some he; exact sound_move h (.inr ho) rfl

/-! #### a slice's literal -/
theorem litRows_bx : ∀ (parts : List (Nat × Operand)) (ks : List LK) (ρ : Operand → RV) (m m' : Mini) (i : Nat) (rs : List (List PV)) (d : Bool) (k : List (B × Option Nat)), litRows ks ρ m i parts = some (rs, d, m', k) → m'.bx = m.bx
  | [], ks, ρ, m, m', i, rs, d, k, h => by cases h; rfl
  | (j, x) :: parts, ks, ρ, m, m', i, rs, d, k, h => by
    unfold litRows at h
    obtain ⟨_, h⟩ := bif_some h
    split at h
    case h_2 => cases h
    split at h
    case h_2 => cases h
    rename_i ps d1 m1 k1 h1
    split at h
    case h_2 => cases h
    rename_i r2 d2 m2 k2 h2
    cases h
    exact (litRows_bx parts ks ρ m1 m' (i + 1) r2 d2 k2 h2).trans (elemInL_bx _ _ _ _ _ _ _ h1)
theorem litRows_sound (ks : List LK) : ∀ (parts : List (Nat × Operand)) (ρ : Operand → RV) (vals : Operand → Value) (G : Gh) (m m' : Mini) (i : Nat) (rs : List (List PV)) (d : Bool) (k : List (B × Option Nat)) (j : Nat),
    MRel G w m.look → (∀ x G1 j0 j1 k1, Moved G G1 j0 j1 k1 → RelRV G1 w (ρ x) (vals x)) → litRows ks ρ m i parts = some (rs, d, m', k) → (∀ j' x, j ≤ j' → G.own x ≠ some (.tmp, some j')) →
    ∃ G1, MRel G1 w m'.look ∧ Moved G G1 j (j + parts.length * ks.length) k ∧ rs.length = parts.length ∧ (∀ n y, parts[n]? = some y → y.1 = i + n) ∧
      ∀ (n : Nat) (row : List PV) (y : Nat × Operand), rs[n]? = some row → parts[n]? = some y → row.length = ks.length ∧ (vals y.2).cells.toList.length = ks.length ∧ ∀ (l : Nat) (p : PV) (v : Value), row[l]? = some p → (vals y.2).cells.toList[l]? = some v → v.oneCell' = true ∧ ∃ d', ELf G1 w (j + n * ks.length + l) p d' v ∧ (d = true → d' = true)
  | [], ρ, vals, G, m, m', i, rs, d, k, j, h, ha, hi, hj => by
    cases hi
    exact ⟨G, h, by simpa using Moved.refl G j, rfl, fun n y hy => by simp at hy, fun n row y hr => by simp at hr⟩
  | (i0, x) :: parts, ρ, vals, G, m, m', i, rs, d, k, j, h, ha, hi, hj => by
    unfold litRows at hi
    obtain ⟨hbeq, hi⟩ := bif_some hi
    have hi0 := Nat.eq_of_beq_eq_true hbeq
    split at hi
    case h_2 => cases hi
    rename_i ls hls
    split at hi
    case h_2 => cases hi
    rename_i ps d1 m1 k1 h1
    split at hi
    case h_2 => cases hi
    rename_i r2 d2 m2 k2 h2
    cases hi
    have hx := ha x G 0 0 [] (Moved.refl G 0)
    have hall := leafs_rel hls hx
    obtain ⟨G1, a1, a2, a3, a3', a4⟩ := elemInL_sound ks ls _ G m m1 ps d1 k1 j h hall h1 hj
    rw [a3'] at a2
    obtain ⟨G2, b1, b2, b3, b5, b4⟩ := litRows_sound ks parts ρ vals G1 m1 m' (i + 1) r2 d2 k2 (j + ks.length) a1 (fun y G3 j0 j1 k3 M => by
        have := ha y G3 (min j j0) (max (j + ks.length) j1) (k1 ++ k3) ⟨M.blk.trans a2.blk, M.S.trans a2.S, fun b c hb => (M.hdr b c hb).trans (a2.hdr b c hb), fun j' hj' => (M.hdrt j' (by omega)).trans (a2.hdrt j' (by omega)), fun z => ?_⟩
        · exact this
        · rcases M.own z with e | ⟨b, c, j', e1, e2, e3, e4, e5, e6⟩
          · rcases a2.own z with e' | ⟨b, c, j', e1, e2, e3, e4, e5, e6⟩
            · exact .inl (e.trans e')
            · exact .inr ⟨b, c, j', e1, List.mem_append_left _ e2, e3, e.trans e4, by omega, by omega⟩
          · rcases a2.own z with e' | ⟨b', c', j'', e1', _, _, e4', _, _⟩
            · exact .inr ⟨b, c, j', e' ▸ e1, List.mem_append_right _ e2, e3, e4, by omega, by omega⟩
            · rw [e4'] at e1; cases e1; exact absurd rfl e3) h2 (fun j' x hj' => a2.free hj' (fun x => hj j' x (by omega)) x)
    refine ⟨G2, b1, ?_, by simp [b3], fun n y hy => ?_, fun n row y hr hy => ?_⟩
    · have e : j + ((i0, x) :: parts).length * ks.length = j + ks.length + parts.length * ks.length := by simp [Nat.add_mul]; omega
      rw [e]; exact a2.trans b2 (by omega) (by omega)
    · cases n with
      | zero => simp at hy; subst hy; omega
      | succ n => have := b5 n y (by simpa using hy); omega
    · cases n with
      | zero =>
        simp at hr hy; subst hr; subst hy
        refine ⟨by omega, by rw [← a3', ← hall.length], fun l p v hp hv => ⟨?_, ?_⟩⟩
        · obtain ⟨u, hu1, hu2⟩ : ∃ u, ls[l]? = some u ∧ True := by
            have : l < ls.length := by rw [hall.length]; exact (List.getElem?_eq_some_iff.1 hv).1
            exact ⟨_, List.getElem?_eq_getElem this, trivial⟩
          obtain ⟨v', hv', hr'⟩ := hall.get hu1
          rw [hv] at hv'; cases hv'; exact hr'.2
        · obtain ⟨d', e1, e2⟩ := a4 l p v hp hv
          refine ⟨d', ?_, fun hd' => by rw [Bool.and_eq_true] at hd'; exact e2 hd'.1⟩
          rw [Nat.zero_mul, Nat.add_zero]; exact elf_moved b2 e1
      | succ n =>
        obtain ⟨c1, c2, c3⟩ := b4 n row y (by simpa using hr) (by simpa using hy)
        refine ⟨c1, c2, fun l p v hp hv => ⟨(c3 l p v hp hv).1, ?_⟩⟩
        obtain ⟨d', e1, e2⟩ := (c3 l p v hp hv).2
        refine ⟨d', ?_, fun hd' => by rw [Bool.and_eq_true] at hd'; exact e2 hd'.2⟩
        have : j + (n + 1) * ks.length + l = j + ks.length + n * ks.length + l := by rw [Nat.add_mul]; omega
        rw [this]; exact e1

theorem nodup_flat {α : Type} {f : α → List Nat} : ∀ {l : List α}, l.Nodup → (∀ a, a ∈ l → (f a).Nodup) → (∀ a b x, a ∈ l → b ∈ l → x ∈ f a → x ∈ f b → a = b) → (l.flatMap f).Nodup
  | [], _, _, _ => by simp
  | a :: l, h, h1, h2 => by
    rw [List.flatMap_cons, List.nodup_append]
    rw [List.nodup_cons] at h
    refine ⟨h1 a (List.mem_cons_self ..), nodup_flat h.2 (fun b hb => h1 b (List.mem_cons_of_mem _ hb)) (fun b c x hb hc => h2 b c x (List.mem_cons_of_mem _ hb) (List.mem_cons_of_mem _ hc)), fun x hx y hy e => ?_⟩
    subst e
    obtain ⟨b, hb, hxb⟩ := List.mem_flatMap.1 hy
    have := h2 a b x (List.mem_cons_self ..) (List.mem_cons_of_mem _ hb) hx hxb
    subst this
    exact h.1 hb
theorem fpAll_nodup {fp : Nat → Nat → List Nat} {n sz : Nat} (h1 : ∀ i j, i < n → j < sz → (fp i j).Nodup) (h2 : ∀ i j i' j' x, i < n → j < sz → i' < n → j' < sz → x ∈ fp i j → x ∈ fp i' j' → i = i' ∧ j = j') : (fpAll fp n sz).Nodup := by
  unfold fpAll
  refine nodup_flat List.nodup_range (fun i hi => nodup_flat List.nodup_range (fun j hj => h1 i j (List.mem_range.1 hi) (List.mem_range.1 hj)) fun j j' x hj hj' hx hx' => (h2 i j i j' x (List.mem_range.1 hi) (List.mem_range.1 hj) (List.mem_range.1 hi) (List.mem_range.1 hj') hx hx').2) fun i i' x hi hi' hx hx' => ?_
  obtain ⟨j, hj, hx⟩ := List.mem_flatMap.1 hx
  obtain ⟨j', hj', hx'⟩ := List.mem_flatMap.1 hx'
  exact (h2 i j i' j' x (List.mem_range.1 hi) (List.mem_range.1 hj) (List.mem_range.1 hi') (List.mem_range.1 hj') hx hx').1

theorem foldl_set (off : Nat) : ∀ (vs : List Value) (j : Nat) (cs : Array Value), (((vs.zipIdx j).foldl (fun (cs : Array Value) (x : Value × Nat) => cs.setIfInBounds (off + x.2) x.1) cs).toList) = setAt cs.toList (off + j) vs
  | [], j, cs => rfl
  | v :: vs, j, cs => by
    rw [List.zipIdx_cons, List.foldl_cons, foldl_set off vs (j + 1)]
    simp only [setAt]
    rw [setL_eq, Array.toList_setIfInBounds, show off + (j + 1) = off + j + 1 from by omega]
theorem fill_one {place : Nat → Option (Nat × Nat)} {cells : Array Value} {i : Nat} {v : Value} {rest : List (Nat × Value)} {off size : Nat} (hp : place i = some (off, size)) (h1 : v.cells.size = size) (h2 : off + v.cells.size ≤ cells.size) :
    Instr.fill place cells ((i, v) :: rest) = Instr.fill place (setAt cells.toList off v.cells.toList).toArray rest := by
  simp only [Instr.fill, hp]
  rw [if_neg (by simp [h1]; omega)]
  congr 1
  rw [← Array.toList_inj]
  have := foldl_set off v.cells.toList 0 cells
  rw [Nat.add_zero] at this
  rw [← Array.foldl_toList]
  simp only [Array.toList_zipIdx]
  rw [List.toList_toArray, ← this]
theorem fill_rows (size : Nat) : ∀ (parts : List (Nat × Value)) (i : Nat) (cells : Array Value) (n : Nat), cells.size = n * size → i + parts.length = n → (∀ (m : Nat) (y : Nat × Value), parts[m]? = some y → y.1 = i + m ∧ y.2.cells.size = size) →
    ∃ cells', Instr.fill (fun i => some (i * size, size)) cells parts = some cells' ∧ cells'.size = cells.size ∧ (∀ x, x < i * size → cells'[x]? = cells[x]?) ∧ ∀ (m : Nat) (y : Nat × Value) (l : Nat), parts[m]? = some y → l < size → cells'[(i + m) * size + l]? = y.2.cells[l]?
  | [], i, cells, n, h, hn, hp => ⟨cells, rfl, rfl, fun _ _ => rfl, fun m y l hy => by simp at hy⟩
  | (i0, v) :: parts, i, cells, n, h, hn, hp => by
    obtain ⟨e1, e2⟩ := hp 0 (i0, v) rfl
    dsimp only at e1 e2
    have e1' : i0 = i := by omega
    subst e1'
    have hin : i0 * size + size ≤ cells.size := by
      rw [h, ← Nat.succ_mul]; exact Nat.mul_le_mul_right _ (by simp at hn; omega)
    obtain ⟨s1, s2⟩ := setAt_eq v.cells.toList cells.toList (i0 * size)
    have hvl : v.cells.toList.length = size := by simpa using e2
    have hsize : (setAt cells.toList (i0 * size) v.cells.toList).toArray.size = cells.size := by simpa using s1
    obtain ⟨cells', f1, f2, f3, f4⟩ := fill_rows size parts (i0 + 1) (setAt cells.toList (i0 * size) v.cells.toList).toArray n (by rw [hsize, h]) (by simp at hn; omega) (fun m y hy => by have := hp (m + 1) y (by simpa using hy); exact ⟨by omega, this.2⟩)
    have get : ∀ x, (setAt cells.toList (i0 * size) v.cells.toList).toArray[x]? = if i0 * size ≤ x ∧ x < i0 * size + size then v.cells[x - i0 * size]? else cells[x]? := by
      intro x
      have := s2 x (by rw [hvl]; simpa using hin)
      rw [List.getElem?_toArray, this, hvl]
      split <;> simp
    refine ⟨cells', by rw [fill_one (off := i0 * size) (size := size) rfl e2 (by rw [e2]; exact hin)]; exact f1, f2.trans hsize, fun x hx => ?_, fun m y l hy hl => ?_⟩
    · rw [f3 x (by rw [Nat.succ_mul]; omega), get, if_neg (by omega)]
    · cases m with
      | zero =>
        simp at hy; subst hy
        rw [Nat.add_zero, f3 _ (by rw [Nat.succ_mul]; omega), get, if_pos (by omega)]
        congr 1; omega
      | succ m =>
        have := f4 m y l (by simpa using hy) hl
        rw [← this, show i0 + 1 + m = i0 + (m + 1) from by omega]

/-- The elements of a new row, as they are owned or read. -/
theorem elems_own {G1 : Gh} {d : Tmp} {kb : Option Nat} {dp : Bool} {v : Value} {w w' : World} {n sz : Nat} {rs : List (List PV)} (hn : rs.length = n) (hrow : ∀ row, row ∈ rs → row.length = sz) {f : Nat → Nat → Value} {lab : Nat → Nat → Nat}
    (hlab : ∀ i j i' j', i < n → j < sz → i' < n → j' < sz → lab i j = lab i' j' → i = i' ∧ j = j') {k0 : Nat} (hkb : kb = some k0) (hk0 : ∀ c, G1.own k0 ≠ some (.tmp, c)) (hlt : ∀ k o, G1.own k = some o → w'.heap[k]? = w.heap[k]?) (hS : ∀ k, G1.S k → w'.heap[k]? = w.heap[k]?)
    (hE : ∀ (i j : Nat) (row : List PV) (p : PV), rs[i]? = some row → row[j]? = some p → ∃ d', ELf G1 w (lab i j) p d' (f i j) ∧ (dp = true → d' = true)) :
    match (generalizing := false) dp with
      | true => ∃ fp, (∀ i row j p, rs[i]? = some row → row[j]? = some p → Deep w' p (f i j) (fp i j)) ∧ (∀ x, x ∈ fpAll fp rs.length sz → (G1.rowG d kb dp v).own x = some (.loc d, some 0)) ∧ (k0 :: fpAll fp rs.length sz).Nodup
      | false => ∀ i row j p, rs[i]? = some row → row[j]? = some p → Rep (G1.rowG d kb dp v).S w' p (f i j) := by
  cases dp with
  | true =>
    have hD : ∀ i j, ∃ fps : List Nat, (∀ row p, rs[i]? = some row → row[j]? = some p → Deep w p (f i j) fps) ∧ (∀ x, x ∈ fps → G1.own x = some (.tmp, some (lab i j))) ∧ fps.Nodup := by
      intro i j
      cases e1 : rs[i]? with
      | none => exact ⟨[], (fun row p h => by simp at h), (fun x hx => by cases hx), List.nodup_nil⟩
      | some row =>
        cases e2 : row[j]? with
        | none => exact ⟨[], (fun row' p h h' => by cases h; rw [e2] at h'; cases h'), (fun x hx => by cases hx), List.nodup_nil⟩
        | some p =>
          obtain ⟨d', h1, h2⟩ := hE i j row p e1 e2
          obtain rfl := h2 rfl
          obtain ⟨fps, a1, a2, a3⟩ := h1
          exact ⟨fps, (fun row' p' h h' => by cases h; rw [e2] at h'; cases h'; exact a1), a2, a3⟩
    let fp := fun i j => Classical.choose (hD i j)
    have hfp := fun i j => Classical.choose_spec (hD i j)
    have hown : ∀ x, x ∈ fpAll fp rs.length sz → ∃ i j, i < n ∧ j < sz ∧ G1.own x = some (.tmp, some (lab i j)) := by
      intro x hx
      obtain ⟨i, j, hi, hj, hx⟩ := mem_fpAll.1 hx
      exact ⟨i, j, by omega, hj, (hfp i j).2.1 x hx⟩
    refine ⟨fp, fun i row j p hi hj => ((hfp i j).1 row p hi hj).move fun x hx => hlt x _ ((hfp i j).2.1 x hx), fun x hx => ?_, ?_⟩
    · obtain ⟨i, j, _, _, h1⟩ := hown x hx
      exact rowG_tmp rfl h1
    · rw [List.nodup_cons]
      refine ⟨fun hx => ?_, fpAll_nodup (fun i j _ _ => (hfp i j).2.2) fun i j i' j' x hi hj hi' hj' hx hx' => ?_⟩
      · obtain ⟨i, j, _, _, h1⟩ := hown k0 hx
        exact hk0 _ h1
      · have h1 := (hfp i j).2.1 x hx
        have h2 := (hfp i' j').2.1 x hx'
        rw [h1] at h2
        simp only [Option.some.injEq, Prod.mk.injEq, true_and] at h2
        exact hlab i j i' j' (by omega) hj (by omega) hj' h2
  | false =>
    intro i row j p hi hj
    obtain ⟨d', h1, _⟩ := hE i j row p hi hj
    have key : Rep (fun x => G1.S x ∨ G1.own x = some (.tmp, some (lab i j))) w p (f i j) := by
      cases d' with
      | false => exact h1
      | true => obtain ⟨fps, a1, a2, _⟩ := h1; exact a1.rep fun x hx => .inr (a2 x hx)
    refine Rep.move (fun x hx => ?_) (fun x hx => ?_) key
    · rcases hx with hx | hx
      · exact .inl hx
      · exact .inr ⟨rfl, ⟨_, hx⟩, by rw [hkb]; rintro e; cases e; exact hk0 _ hx⟩
    · rcases hx with hx | hx
      · exact hS x hx
      · exact hlt x _ hx

theorem sound_buildSlice (hT : TabOk P T) (h : Rel G st a w) {t e' : TypeId} {n : Nat} {parts : Array (Nat × Operand)} (ho : o.op = .buildSlice t n parts) (hs : sliceOf (T t) = some e') {p : Cnd} {e : Eff}
    (he : effBuildSlice (opnd st.regs) ⟨st.box, []⟩ o.dst e' (T e') n parts.toList = some (p, e)) : Runs P o st a G w e := by
  unfold effBuildSlice at he
  split at he
  case h_2 => cases he
  rename_i d te hd hte
  obtain ⟨hb, he⟩ := bif_some he
  split at he
  case h_2 => cases he
  rename_i rs dp m' k hlit
  cases he
  rw [Bool.and_eq_true, Bool.and_eq_true] at hb
  obtain ⟨⟨hn, hpos⟩, hsmall⟩ := hb
  have hn' := Nat.eq_of_beq_eq_true hn
  rw [lenL_eq] at hn'
  have hpos' : 0 < te.kinds.length := by rw [← lenL_eq]; exact Nat.le_of_ble_eq_true hpos
  have hsmall' : n * te.kinds.length ≤ 16777216 := by rw [← lenL_eq]; exact Nat.le_of_ble_eq_true hsmall
  have hu := sliceOf_some hT hs
  have hty := hT _ _ hte
  obtain ⟨i, z, hi, hsz, hby, hz, hzc⟩ := hty.info
  obtain ⟨G1, b1, b2, b3, b5, b4⟩ := litRows_sound te.kinds parts.toList (opnd st.regs) a.eval G ⟨st.box, []⟩ m' 0 rs dp k 0 h.m (fun x G1 j0 j1 k1 M => by
      have := opnd_rel h x
      exact relRV_moved M this) hlit (fun j' x _ => h.notmp x _)
  have hfill := fill_rows te.kinds.length (parts.toList.map fun y => (y.1, a.eval y.2)) 0 ((Array.range (n * te.kinds.length)).map (z.cells[· % z.cells.size]!)) n (by simp) (by simp [hn']) (fun m y hy => by
      rw [List.getElem?_map] at hy
      cases e1 : parts.toList[m]? with
      | none => rw [e1] at hy; cases hy
      | some y0 =>
        rw [e1] at hy; cases hy
        have hlt : m < rs.length := by rw [b3]; exact (List.getElem?_eq_some_iff.1 e1).1
        exact ⟨b5 m y0 e1, by simpa using (b4 m _ y0 (List.getElem?_eq_getElem hlt) e1).2.1⟩)
  obtain ⟨cells, f1, f2, f3, f4⟩ := hfill
  have hcs : cells.size = n * te.kinds.length := by rw [f2]; simp
  have hrun : (execOp a.eval o).run P w = .ok (.value (.slice (some ⟨w.heap.size, 0, none⟩) n n)) (w.alloc (.cells cells e')) := by
    simp only [execOp, ho, Sem.run_bind, Instr.buildSlice, run_underlying hu, Result.andThen_ok, sizeOf_run hty]
    rw [if_neg (by omega)]
    have hmap : (parts.map fun (y : Nat × Operand) => (y.1, a.eval y.2)).toList = parts.toList.map fun y => (y.1, a.eval y.2) := by simp
    by_cases h0 : n * te.kinds.length = 0
    · rw [if_pos h0]
      simp only [Sem.run_bind, Sem.run_pure, Result.andThen_ok]
      have e0 : ((Array.range (n * te.kinds.length)).map (z.cells[· % z.cells.size]!)) = ((Array.range (n * te.kinds.length)).map ((#[] : Array Value)[· % (#[] : Array Value).size]!)) := by rw [h0]; exact Array.ext (by simp) (by intro i h1; simp at h1)
      rw [e0] at f1
      rw [hmap, f1]
      simp [newRow, newObj, Sem.run]
    · rw [if_neg h0]
      simp only [Sem.run_bind, zeroValue, typeInfo, program, Sem.run, hi, Result.andThen_ok, Sem.run_pure, hz]
      rw [hmap, f1]
      simp [newRow, newObj, Sem.run]
  have hnew : ∀ c, G1.own w.heap.size ≠ some (.tmp, c) := fun c e1 => by have := b1.lt _ _ e1; omega
  have hkb : KbOk G1 w (w.alloc (.cells cells e')) (some w.heap.size) := ⟨fun x hx => by cases hx; exact ⟨.inr (Nat.le_refl _), by simp⟩, by simp, fun x hx _ => RowKit.Below.heap_alloc w _ x hx⟩
  have hrowlen : ∀ row, row ∈ rs → row.length = te.kinds.length := by
    intro row hr
    obtain ⟨i, hi⟩ := List.getElem?_of_mem hr
    have hlt : i < parts.toList.length := by rw [← b3]; exact (List.getElem?_eq_some_iff.1 hi).1
    exact (b4 i row _ hi (List.getElem?_eq_getElem hlt)).1
  have hrsn : rs.length = n := b3.trans hn'.symm
  let f : Nat → Nat → Value := fun i j => ((parts.toList[i]?).map fun y => (a.eval y.2).cells.toList.getD j undef).getD undef
  have hfv : ∀ (i j : Nat) (row : List PV) (p : PV), rs[i]? = some row → row[j]? = some p → ∃ y, parts.toList[i]? = some y ∧ (a.eval y.2).cells.toList[j]? = some (f i j) := by
    intro i j row p hr hj
    have hlt : i < parts.toList.length := by rw [← b3]; exact (List.getElem?_eq_some_iff.1 hr).1
    obtain ⟨c1, c2, _⟩ := b4 i row _ hr (List.getElem?_eq_getElem hlt)
    refine ⟨_, List.getElem?_eq_getElem hlt, ?_⟩
    have hlj : j < te.kinds.length := by rw [← c1]; exact (List.getElem?_eq_some_iff.1 hj).1
    have : f i j = (a.eval (parts.toList[i]).2).cells.toList.getD j undef := by simp only [f, List.getElem?_eq_getElem hlt, Option.map_some, Option.getD_some]
    rw [this, List.getD_eq_getElem?_getD, List.getElem?_eq_getElem (by rw [c2]; exact hlj)]; rfl
  refine done_row h b2 b1 (litRows_bx _ _ _ _ _ _ _ _ _ hlit) hd (kb := some w.heap.size) (keep := dp) (v := .slice (some ⟨w.heap.size, 0, none⟩) n n) hkb rfl rfl rfl ?_ (List.mem_cons_self ..) hrun
  rw [lenL_eq]
  refine .inr ⟨w.heap.size, n, cells, by rw [hrsn], rowG_kb rfl, heap_alloc_new w _, by omega, ?_, hcs, hpos', hrowlen, f, ?_, ?_⟩
  · unfold maxLen
    have : n ≤ n * te.kinds.length := Nat.le_mul_of_pos_right _ hpos'
    omega
  · intro i row j p hr hj
    obtain ⟨y, hy, hv⟩ := hfv i j row p hr hj
    have hlj : j < te.kinds.length := by rw [← hrowlen row (List.mem_of_getElem? hr)]; exact (List.getElem?_eq_some_iff.1 hj).1
    have := f4 i (y.1, a.eval y.2) j (by rw [List.getElem?_map, hy]; rfl) hlj
    rw [Nat.zero_add] at this
    rw [this]; simpa using hv
  · refine elems_own (lab := fun i j => 0 + i * te.kinds.length + j) hrsn hrowlen ?_ rfl hnew (fun k o hk => RowKit.Below.heap_alloc w _ k (b1.lt k o hk)) (fun k hk => RowKit.Below.heap_alloc w _ k (b1.Slt k hk)) fun i j row p hr hj => ?_
    · intro i j i' j' _ hj _ hj' e
      try dsimp only at e
      simp only [Nat.zero_add] at e
      have h1 : i = i' := by
        have e1 := congrArg (· / te.kinds.length) e
        try dsimp only at e1
        rw [Nat.mul_comm, Nat.mul_add_div hpos', Nat.mul_comm, Nat.mul_add_div hpos', Nat.div_eq_of_lt hj, Nat.div_eq_of_lt hj'] at e1
        omega
      subst h1
      exact ⟨rfl, by omega⟩
    · obtain ⟨y, hy, hv⟩ := hfv i j row p hr hj
      exact ((b4 i row y hr hy).2.2 j p _ hj hv).2
end
end Go.Vm

/-! ### 8. Structs, closures -/
namespace Go.Vm
set_option linter.unusedSimpArgs false
set_option linter.unusedVariables false

theorem All2.set {α β : Type} {R : α → β → Prop} : ∀ {l : List α} {m : List β}, All2 R l m → ∀ (i : Nat) {x : α} {y : β}, R x y → All2 R (setL l i x) (setL m i y)
  | _, _, .nil, i, x, y, _ => by cases i <;> exact .nil
  | _, _, .cons h t, 0, x, y, hr => .cons hr t
  | _, _, .cons h t, i + 1, x, y, hr => .cons h (t.set i hr)
theorem All2.setAt {α β : Type} {R : α → β → Prop} : ∀ {xs : List α} {ys : List β}, All2 R xs ys → ∀ {l : List α} {m : List β} (o : Nat), All2 R l m → All2 R (setAt l o xs) (Vm.setAt m o ys)
  | _, _, .nil, l, m, o, h => h
  | _, _, .cons hx ht, l, m, o, h => All2.setAt ht (o + 1) (h.set o hx)

section
variable {P : Program} {T : TypeId → Option TI} {G : Gh} {w : World} {st : St} {a : Act} {o : Oper}
theorem known_places (hT : TabOk P T) : ∀ fs : List Field, allL (known T) fs = true → ∃ places, fs.mapM (fun f => (P.info? f.type).map fun i => (f.offset, i.size)) = some places ∧ ∀ (i : Nat) (f : Field) (tf : TI), fs[i]? = some f → T f.type = some tf → places[i]? = some (f.offset, tf.kinds.length)
  | [], _ => ⟨[], rfl, fun i f tf h => by simp at h⟩
  | f :: fs, h => by
    simp only [allL, Bool.and_eq_true] at h
    obtain ⟨places, h1, h2⟩ := known_places hT fs h.2
    have hk := h.1
    unfold known at hk
    cases ht : T f.type with
    | none => rw [ht] at hk; cases hk
    | some tf =>
      obtain ⟨i, z, hi, hs, _⟩ := (hT _ _ ht).info
      refine ⟨(f.offset, tf.kinds.length) :: places, by simp [List.mapM_cons, hi, h1, hs], fun j g tg hj hg => ?_⟩
      cases j with
      | zero => simp at hj; subst hj; rw [ht] at hg; cases hg; rfl
      | succ j => simpa using h2 j g tg (by simpa using hj) hg

theorem buildL_sound (h : Rel G st a w) {fs : List Field} {places : List (Nat × Nat)} (hp : ∀ (i : Nat) (f : Field) (tf : TI), fs[i]? = some f → T f.type = some tf → places[i]? = some (f.offset, tf.kinds.length)) :
    ∀ (parts : List (Nat × Operand)) (ls ls' : List Lf) (cells : Array Value), buildL T fs (opnd st.regs) parts ls = some ls' → All2 (fun l u => RelLf G w l u ∧ u.oneCell' = true) ls cells.toList →
      ∃ cells', Instr.fill (places.toArray[·]?) cells (parts.map fun y => (y.1, a.eval y.2)) = some cells' ∧ All2 (fun l u => RelLf G w l u ∧ u.oneCell' = true) ls' cells'.toList
  | [], ls, ls', cells, hb, ha => by cases hb; exact ⟨cells, rfl, ha⟩
  | (i, x) :: parts, ls, ls', cells, hb, ha => by
    unfold buildL at hb
    split at hb
    case h_2 => cases hb
    rename_i f xs hf hx
    split at hb
    case h_2 => cases hb
    rename_i tf htf
    obtain ⟨hc, hb⟩ := bif_some hb
    rw [Bool.and_eq_true] at hc
    have h1 := Nat.eq_of_beq_eq_true hc.1
    have h2 := Nat.le_of_ble_eq_true hc.2
    rw [lenL_eq] at h1 h2
    rw [lenL_eq] at h1 h2
    have hxs := leafs_rel hx (opnd_rel h x)
    have hl := hxs.length
    have hcl := ha.length
    simp only [Array.length_toList] at hl hcl
    obtain ⟨cells', e1, e2⟩ := buildL_sound h hp parts _ ls' (setAt cells.toList f.offset (a.eval x).cells.toList).toArray hb (hxs.setAt f.offset ha)
    refine ⟨cells', ?_, e2⟩
    rw [List.map_cons, fill_one (off := f.offset) (size := tf.kinds.length) ?_ (by show (a.eval x).cells.size = _; omega) (by show f.offset + (a.eval x).cells.size ≤ _; omega)]
    · exact e1
    · have := hp i f tf (by simpa using fieldAtL_some hf) htf
      simpa using this

theorem zeroRV_all : ∀ (ks : List LK) (vs : List Value), ks.length = vs.length → (∀ v, v ∈ vs → v.oneCell' = true) → All2 (fun l u => RelLf G w l u ∧ u.oneCell' = true) (zeroRV ks vs) vs
  | [], [], _, _ => .nil
  | [], _ :: _, h, _ => by simp at h
  | _ :: _, [], h, _ => by simp at h
  | k :: ks, v :: vs, h, h1 => .cons ⟨.val _ (h1 v (List.mem_cons_self ..)), h1 v (List.mem_cons_self ..)⟩ (zeroRV_all ks vs (by simpa using h) fun u hu => h1 u (List.mem_cons_of_mem _ hu))

theorem sound_build (hT : TabOk P T) (h : Rel G st a w) {t : TypeId} {parts : Array (Nat × Operand)} (ho : o.op = .build t parts) {p : Cnd} {e : Eff} (he : effBuild T (opnd st.regs) (T t) parts.toList = some (p, e)) : Runs P o st a G w e := by
  unfold effBuild at he
  split at he
  case h_2 => cases he
  rename_i _ _ ti fs hti hfs
  obtain ⟨hk, he⟩ := bif_some he
  split at he
  case h_2 => cases he
  rename_i ls hls
  obtain rfl := ret_some he
  obtain ⟨fa, rfl, hu⟩ := structOf_some hT hfs
  have hty := hT t ti hti
  obtain ⟨i, z, hi, hsz, hby, hz, hzc⟩ := hty.info
  obtain ⟨places, hp1, hp2⟩ := known_places hT fa.toList hk
  have hz0 := zeroRV_all (G := G) (w := w) ti.kinds ti.zero hty.len.symm hty.one
  rw [← hzc] at hz0
  obtain ⟨cells, hc1, hc2⟩ := buildL_sound h hp2 parts.toList _ ls z.cells (by rw [hzc]; exact hls) hz0
  refine Runs.pure h (v := .agg cells) ?_ ⟨cells.toList, by simp, hc2⟩
  simp only [execOp, ho, Sem.run_bind]
  rw [run_build w t _ cells]
  · rfl
  · unfold Program.built
    simp only [hi, hu, hz, hp1]
    simpa using hc1

theorem allPv_rel : ∀ {ls : List Lf} {ps : List PV} {vs : List Value}, allPv ls = some ps → All2 (fun l u => RelLf G w l u ∧ u.oneCell' = true) ls vs → All2 (fun p u => Rep G.S w p u ∧ u.oneCell' = true) ps vs
  | [], ps, vs, h, ha => by cases h; cases ha; exact .nil
  | l :: ls, ps, vs, h, ha => by
    cases ha with
    | cons h0 ht =>
      cases l with
      | pv p =>
        simp only [allPv] at h
        split at h
        · rename_i ps' hps
          cases h
          exact .cons h0 (allPv_rel hps ht)
        · cases h
      | _ => cases h
theorem capsOf_sound (h : Rel G st a w) : ∀ (xs : List Operand) (cs : List Cap), capsOf (mapL (opnd st.regs) xs) = some cs → All2 (RelCap G w) cs (xs.map a.eval)
  | [], cs, hc => by cases hc; exact .nil
  | x :: xs, cs, hc => by
    simp only [mapL, capsOf] at hc
    split at hc
    case h_2 => cases hc
    rename_i c r h1 h2
    cases hc
    refine .cons ?_ (capsOf_sound h xs r h2)
    have hx := opnd_rel h x
    unfold capOf at h1
    split at h1
    · rename_i e; cases h1; rw [e] at hx; exact (one_rel.1 hx).1
    · rename_i e; cases h1; rw [e] at hx; exact (one_rel.1 hx).1
    · rename_i ls e
      split at h1
      · rename_i ps hps
        cases h1
        rw [e] at hx
        obtain ⟨vs, hv, ha⟩ := hx
        exact ⟨vs, hv, allPv_rel hps ha⟩
      · cases h1
    · cases h1
theorem sound_makeFunc (h : Rel G st a w) {fn : Fn} {first caps : Array Operand} (ho : o.op = .makeFunc fn first caps) {p : Cnd} {e : Eff} (he : effMakeFunc fn first.toList (mapL (opnd st.regs) caps.toList) = some (p, e)) : Runs P o st a G w e := by
  unfold effMakeFunc at he
  split at he
  case h_2 => cases he
  rename_i _ _ f hf
  split at he
  case h_2 => cases he
  rename_i cs hcs
  obtain rfl := ret_some he
  have hfe : first = #[] := by rw [← Array.toList_inj]; exact hf
  subst hfe
  refine Runs.pure h (v := .func (.func f) #[] (caps.toList.map a.eval).toArray) ?_ (one_rel.2 ⟨⟨_, rfl, capsOf_sound h _ _ hcs⟩, rfl⟩)
  have e1 : caps.map a.eval = (caps.toList.map a.eval).toArray := by rw [← Array.toList_inj]; simp
  simp [execOp, ho, Instr.makeFunc, e1]
end
end Go.Vm

/-! ### 9. Stores -/
namespace Go.Vm
set_option linter.unusedSimpArgs false
set_option linter.unusedVariables false

theorem seg_get {α : Type} (l vs : List α) (o : Nat) (h : o + vs.length ≤ l.length) (i : Nat) : (l.take o ++ vs ++ l.drop (o + vs.length))[i]? = if o ≤ i ∧ i < o + vs.length then vs[i - o]? else l[i]? := by
  have hto : (l.take o).length = o := by simp; omega
  by_cases h1 : i < o
  · rw [if_neg (by omega), List.append_assoc, List.getElem?_append_left (by omega), List.getElem?_take, if_pos h1]
  · by_cases h2 : i < o + vs.length
    · rw [if_pos (by omega), List.append_assoc, List.getElem?_append_right (by omega), hto, List.getElem?_append_left (by omega)]
    · rw [if_neg (by omega), List.getElem?_append_right (by simp; omega)]
      simp only [List.length_append, hto, List.getElem?_drop]
      congr 1; omega

section
variable {P : Program} {T : TypeId → Option TI} {G : Gh} {w w' : World} {st : St} {a : Act} {o : Oper}

theorem setRow_size (w : World) (g : Nat) (cs : Array Value) : (w.setRow g cs).heap.size = w.heap.size := by simp [World.setRow]
theorem storeVar_run {t : TypeId} {ti : TI} (hty : TyOk P t ti) {k off : Nat} {cur : Array Value} {ty : TypeId} (hk : w.heap[k]? = some (.cells cur ty (0, 0))) {v : Value} (hl : v.cells.toList.length = ti.kinds.length) (hfit : off + v.cells.toList.length ≤ cur.size) (h1 : ∀ u, u ∈ v.cells.toList → u.oneCell' = true) :
    (storeVar t ⟨k, off, none⟩ v).run P w = .ok () (w.setRow k (cur.toList.take off ++ v.cells.toList ++ cur.toList.drop (off + v.cells.toList.length)).toArray) := by
  unfold storeVar
  simp only [Sem.run_bind, sizeOf_run hty, Result.andThen_ok]
  rw [if_neg (by simpa using hl)]
  have := run_storeCells_at P k off ty v.cells.toList 0 cur w hk (by simpa using hfit) h1
  simpa using this

/-- Cells off .. off + n of box b have turned: the rows that were there are nobody's. -/
def Gh.stored (G : Gh) (b : B) (off n : Nat) (vs : List Value) : Gh where
  blk := G.blk
  hdr := fun b' c => if b' = b ∧ off ≤ c ∧ c < off + n then vs.getD (c - off) undef else G.hdr b' c
  own := fun x => match G.own x with
    | none => none
    | some (b', c) => if b' = .tmp then some (b, c.map (off + ·)) else if b' = b ∧ (∃ j, c = some j ∧ off ≤ j ∧ j < off + n) then none else some (b', c)
  S := G.S
section
variable {b : B} {off n : Nat} {vs : List Value} {x : Nat}
theorem stored_none (h : G.own x = none) : (G.stored b off n vs).own x = none := by simp [Gh.stored, h]
theorem stored_tmp {c : Option Nat} (h : G.own x = some (.tmp, c)) : (G.stored b off n vs).own x = some (b, c.map (off + ·)) := by simp [Gh.stored, h]
theorem stored_other {b' : B} {c : Option Nat} (h : G.own x = some (b', c)) (hb : b' ≠ .tmp) (hc : ¬ (b' = b ∧ ∃ j, c = some j ∧ off ≤ j ∧ j < off + n)) : (G.stored b off n vs).own x = some (b', c) := by
  simp only [Gh.stored, h]
  rw [if_neg hb, if_neg hc]
theorem stored_notmp (hb : b ≠ .tmp) : ∀ x c, (G.stored b off n vs).own x ≠ some (.tmp, c) := by
  intro x c h
  simp only [Gh.stored] at h
  split at h
  · cases h
  · split at h
    · cases h; exact hb rfl
    · split at h
      · cases h
      · rename_i h1 _; cases h; exact h1 rfl
theorem stored_hdr {b' : B} {c : Nat} (h : ¬ (b' = b ∧ off ≤ c ∧ c < off + n)) : (G.stored b off n vs).hdr b' c = G.hdr b' c := if_neg h
theorem stored_hdr' {c : Nat} (h : off ≤ c ∧ c < off + n) : (G.stored b off n vs).hdr b c = vs.getD (c - off) undef := if_pos ⟨rfl, h⟩
end

theorem stored_box {m : Mini} (h : MRel G w m.look) {b : B} (hb : b ≠ .tmp) {k off : Nat} (hblk : G.blk b = some k) {ls : List Lf} (hls : m.look b = some ls) {xs : List Lf} {vs : List Value} (hl : xs.length = vs.length) (hfit : off + xs.length ≤ ls.length)
    (hT : ∀ (i : Nat) (l : Lf) (v : Value), xs[i]? = some l → vs[i]? = some v → TL G w i l v) {cur : Array Value} {ty : TypeId} (hk : w.heap[k]? = some (.cells cur ty (0, 0))) :
    MRel (G.stored b off vs.length vs) (w.setRow k (cur.toList.take off ++ vs ++ cur.toList.drop (off + vs.length)).toArray) ((m.put b (setAt ls off xs)).look) := by
  have hbox := h.box b ls hls
  unfold RelBox at hbox
  rw [hblk] at hbox
  obtain ⟨hown, cs, ty', hk', hsz, hcell⟩ := hbox
  rw [hk] at hk'; cases hk'
  have hne : ∀ x, x ≠ k → (w.setRow k (cur.toList.take off ++ vs ++ cur.toList.drop (off + vs.length)).toArray).heap[x]? = w.heap[x]? := fun x hx => setRow_other w k x _ hx
  have hkS : ∀ x, G.S x → x ≠ k := fun x hx e => by subst e; rw [h.Sown x hx] at hown; cases hown
  have hkO : ∀ x c, G.own x = some c → c ≠ (b, none) → x ≠ k := fun x c hx hc e => by subst e; rw [hown] at hx; cases hx; exact hc rfl
  refine ⟨?_, ?_, ?_, ?_, ?_⟩
  · rw [look_put, if_neg (fun e => hb e.symm)]; exact h.tmp
  · intro b' ls' hb'
    rw [look_put] at hb'
    split at hb'
    · rename_i e; subst e; cases hb'
      unfold RelBox
      have e1 : (G.stored b' off vs.length vs).blk b' = some k := hblk
      rw [e1]
      refine ⟨stored_other hown hb (by rintro ⟨_, j, hj, _⟩; cases hj), _, ty, setRow_heap w k cur _ ty (0, 0) hk, ?_, fun c l hc => ?_⟩
      · simp only [List.size_toArray, List.length_append, List.length_take, List.length_drop, Array.length_toList]
        rw [(setAt_eq xs ls off).1]; omega
      · rw [(setAt_eq xs ls off).2 c hfit] at hc
        have hg := seg_get cur.toList vs off (by simp; omega) c
        split at hc
        · rename_i hr
          have hv : c - off < vs.length := by omega
          refine ⟨vs[c - off], ?_, ?_⟩
          · rw [List.getElem?_toArray, hg, if_pos (by omega)]; exact List.getElem?_eq_getElem hv
          · have := hT (c - off) l vs[c - off] hc (List.getElem?_eq_getElem hv)
            have hh : (G.stored b' off vs.length vs).hdr b' c = vs[c - off] := by rw [stored_hdr' (by omega)]; simp [List.getD_eq_getElem?_getD, hv]
            cases l with
            | own e sz dp r =>
              refine ⟨hh.symm, OwnRow.ren this (fun _ h => h) (fun x hx => hne x (hkS x hx)) fun x hx => ⟨?_, hne x (hkO x _ hx (by simp))⟩⟩
              have := stored_tmp (b := b') (off := off) (n := vs.length) (vs := vs) hx
              rw [this]; simp; omega
            | un => exact this
            | pv p => exact Rep.move (fun _ h => h) (fun x hx => hne x (hkS x hx)) this
            | fn f caps => obtain ⟨us, hu, ha⟩ := this; exact ⟨us, hu, ha.imp fun c _ u hu => hu.move (fun _ h => h) (fun x hx => hne x (hkS x hx))⟩
            | hd _ _ => exact this.elim
            | tk _ _ _ => exact this.elim
            | vw _ _ _ _ _ => exact this.elim
            | ptr _ => exact this.elim
        · rename_i hr
          obtain ⟨v, hv, hrel⟩ := hcell c l hc
          refine ⟨v, ?_, ?_⟩
          · rw [List.getElem?_toArray, hg, if_neg (by omega)]; simpa using hv
          · refine relCell_keep (G := G) (fun _ h => h) (fun x hx => hne x (hkS x hx)) (stored_hdr (by omega)) (fun x hx => ⟨stored_other hx hb ?_, hne x (hkO x _ hx (by simp))⟩) hrel
            rintro ⟨_, j, hj, _⟩; cases hj; omega
    · rename_i e
      have hbt : b' ≠ .tmp := by rintro rfl; rw [h.tmp] at hb'; cases hb'
      refine relBox_keep (G := G) (fun _ h => h) (fun x hx => hne x (hkS x hx)) (fun c => stored_hdr (by rintro ⟨h1, _⟩; exact e h1)) rfl (fun x c hx => ⟨stored_other hx hbt (by rintro ⟨h1, _⟩; exact e h1), hne x (hkO x _ hx (by rintro e2; cases e2; exact e rfl))⟩) (h.box b' ls' hb')
  · intro x o hx
    rw [setRow_size]
    cases ho : G.own x with
    | none => rw [stored_none ho] at hx; cases hx
    | some q => exact h.lt x q ho
  · intro x hx; rw [setRow_size]; exact h.Slt x hx
  · intro x hx; exact stored_none (h.Sown x hx)

theorem mem_cellKills {b : B} : ∀ (n c : Nat) (j : Nat), c ≤ j → j < c + n → (b, some j) ∈ cellKills b c n
  | 0, c, j, h1, h2 => by omega
  | n + 1, c, j, h1, h2 => by
    by_cases e : c = j
    · subst e; exact List.mem_cons_self ..
    · exact List.mem_cons_of_mem _ (mem_cellKills n (c + 1) j (by omega) (by omega))

theorem sound_storeBox (hT : TabOk P T) (h : Rel G st a w) {t : TypeId} {x y : Operand} (ho : o.op = .store t x y) {ti : TI} (ht : T t = some ti) {b : B} {off : Nat} (hq : placeOf (opnd st.regs x) = some (.box b off)) {xs xs' ls : List Lf} (hxs : leafs (opnd st.regs y) = some xs)
    (hn : xs.length = ti.kinds.length) {m' : Mini} {k : List (B × Option Nat)} (hin : boxInL ⟨st.box, []⟩ xs = some (xs', m', k)) (hls : m'.look b = some ls) (hfit : off + xs.length ≤ ls.length) :
    Runs P o st a G w ⟨cellKills b off (lenL xs) ++ k, .un, (m'.put b (setAt ls off (nilOwn ti.kinds xs'))).ch⟩ := by
  have hty := hT t ti ht
  obtain ⟨k0, hblk, hv, hbt⟩ := placeOf_rel hq (opnd_rel h x)
  have hall := leafs_rel hxs (opnd_rel h y)
  obtain ⟨G1, b1, b2, b3, b4⟩ := boxInL_sound xs _ G ⟨st.box, []⟩ m' xs' k 0 h.m hall hin (fun j' x _ => h.notmp x _)
  have hblk1 : G1.blk b = some k0 := by rw [b2.blk]; exact hblk
  have hbox := b1.box b ls hls
  unfold RelBox at hbox
  rw [hblk1] at hbox
  obtain ⟨hown, cur, ty, hk, hsz, _⟩ := hbox
  have hlv : (a.eval y).cells.toList.length = xs.length := hall.length.symm
  have hl2 : (nilOwn ti.kinds xs').length = (a.eval y).cells.toList.length := by rw [(nilOwn_get ti.kinds xs').1, b3, hlv]
  have hone : ∀ u, u ∈ (a.eval y).cells.toList → u.oneCell' = true := by
    intro u hu
    obtain ⟨i, hi⟩ := List.getElem?_of_mem hu
    have hlt : i < xs.length := by rw [← hlv]; exact (List.getElem?_eq_some_iff.1 hi).1
    obtain ⟨u', hu', hr⟩ := hall.get (List.getElem?_eq_getElem hlt)
    rw [hi] at hu'; cases hu'; exact hr.2
  have hrun := storeVar_run hty (w := w) (off := off) hk (v := a.eval y) (by omega) (by omega) hone
  have hT' := tl_nilOwn (ks := ti.kinds) (ls := xs') (vs := (a.eval y).cells.toList) (G := G1) (w := w) fun i l v hl hv' => by
    have := b4 i l v hl hv'
    rw [Nat.zero_add] at this; exact this.tl
  have hM := stored_box b1 hbt hblk1 hls hl2 (by rw [hl2, hlv]; exact hfit) hT' hk
  have hne : ∀ z, G1.own z ≠ some (b, none) → (w.setRow k0 (cur.toList.take off ++ (a.eval y).cells.toList ++ cur.toList.drop (off + (a.eval y).cells.toList.length)).toArray).heap[z]? = w.heap[z]? := fun z hz => setRow_other w k0 z _ (fun e => hz (by rw [e]; exact hown))
  refine ⟨G1.stored b off (a.eval y).cells.toList.length (a.eval y).cells.toList, w.setRow k0 (cur.toList.take off ++ (a.eval y).cells.toList ++ cur.toList.drop (off + (a.eval y).cells.toList.length)).toArray, ?_, .inr ⟨?_, ?_⟩⟩
  · refine ⟨rfl, rfl, rfl, by rw [setRow_size]; exact Nat.le_refl _, fun z hz hz2 => hne z (by rw [fr_moved b2 hz2]; simp), fun z hz hz2 => stored_none (fr_moved b2 hz2), fun z hz => by show G1.S z; rw [b2.S]; exact hz, fun z hz => .inl (by have : G1.S z := hz; rwa [b2.S] at this), fun i => (by show G1.blk _ = _; rw [b2.blk])⟩
  · simp only [execOp, ho, hv, Instr.storeAt, Sem.run_bind, Instr.sureAddr, Sem.run_pure, Result.andThen_ok, hrun]
  · have hbx := boxInL_bx _ _ _ _ _ hin
    have e1 : (m'.put b (setAt ls off (nilOwn ti.kinds xs'))) = ⟨st.box, (m'.put b (setAt ls off (nilOwn ti.kinds xs'))).ch⟩ := by unfold Mini.put; rw [hbx]
    refine h.done o.dst _ (keep_moved b2 ⟨fun _ h => h, fun z hz => hne z (by rw [b1.Sown z hz]; simp), fun b' c hb' hh => stored_hdr ?_, fun _ _ _ => rfl⟩) trivial (by rw [← e1]; exact hM) (stored_notmp hbt)
    rintro ⟨rfl, h1, h2⟩
    have := hh (b', some c) (List.mem_append_left _ (mem_cellKills _ _ _ h1 (by rw [lenL_eq]; omega)))
    simp [B.hit, B.beq_refl] at this

/-- An element of the row that cell c of box b owns has turned: what came is read alone, or, where the row is owned whole, there is none of it; k0: the row's block. -/
def Gh.storedRow (G : Gh) (b : B) (c k0 : Nat) (keep : Bool) : Gh where
  blk := G.blk
  hdr := G.hdr
  own := fun x => match G.own x with
    | none => none
    | some (b', c') => if b' = .tmp ∨ (keep = false ∧ b' = b ∧ c' = some c ∧ x ≠ k0) then none else some (b', c')
  S := fun x => G.S x ∨ (∃ c', G.own x = some (.tmp, c')) ∨ (keep = false ∧ G.own x = some (b, some c) ∧ x ≠ k0)
section
variable {b : B} {c k0 : Nat} {keep : Bool} {x : Nat}
theorem storedRow_none (h : G.own x = none) : (G.storedRow b c k0 keep).own x = none := by simp [Gh.storedRow, h]
theorem storedRow_tmp {c' : Option Nat} (h : G.own x = some (.tmp, c')) : (G.storedRow b c k0 keep).own x = none := by simp [Gh.storedRow, h]
theorem storedRow_other {b' : B} {c' : Option Nat} (h : G.own x = some (b', c')) (hb : b' ≠ .tmp) (hc : ¬ (keep = false ∧ b' = b ∧ c' = some c ∧ x ≠ k0)) : (G.storedRow b c k0 keep).own x = some (b', c') := by
  simp only [Gh.storedRow, h]
  rw [if_neg (by rintro (h | h); exact hb h; exact hc h)]
theorem storedRow_notmp : ∀ x c', (G.storedRow b c k0 keep).own x ≠ some (.tmp, c') := by
  intro x c' h
  simp only [Gh.storedRow] at h
  split at h
  · cases h
  · split at h
    · cases h
    · rename_i h1; cases h; exact h1 (.inl rfl)
end

theorem fpAll_sub {fp fp' : Nat → Nat → List Nat} {n sz : Nat} (h : ∀ i j, fp' i j = fp i j ∨ fp' i j = []) : List.Sublist (fpAll fp' n sz) (fpAll fp n sz) := by
  unfold fpAll
  have inner : ∀ (l : List Nat) (i : Nat), List.Sublist (l.flatMap fun j => fp' i j) (l.flatMap fun j => fp i j) := by
    intro l i
    induction l with
    | nil => exact List.Sublist.refl _
    | cons j l ih =>
      simp only [List.flatMap_cons]
      rcases h i j with e | e
      · rw [e]; exact List.Sublist.append (List.Sublist.refl _) ih
      · rw [e, List.nil_append]; exact List.Sublist.trans ih (List.sublist_append_right _ _)
  generalize List.range n = l
  induction l with
  | nil => exact List.Sublist.refl _
  | cons i l ih => simp only [List.flatMap_cons]; exact List.Sublist.append (inner _ i) ih

theorem idx_apart {sz i i' j j' : Nat} (hj : j < sz) (hj' : j' < sz) (h : i * sz + j = i' * sz + j') : i = i' ∧ j = j' := by
  have hpos : 0 < sz := by omega
  have e1 := congrArg (· / sz) h
  try dsimp only at e1
  rw [Nat.mul_comm, Nat.mul_add_div hpos, Nat.mul_comm, Nat.mul_add_div hpos, Nat.div_eq_of_lt hj, Nat.div_eq_of_lt hj'] at e1
  have h1 : i = i' := by omega
  subst h1
  exact ⟨rfl, by omega⟩

theorem sound_storeRow (hT : TabOk P T) (h : Rel G st a w) {t : TypeId} {x y : Operand} (ho : o.op = .store t x y) {ti : TI} (ht : T t = some ti) {b : B} {c sz i off : Nat} (hq : placeOf (opnd st.regs x) = some (.row b c sz i off)) {xs : List Lf} (hxs : leafs (opnd st.regs y) = some xs)
    (hn : xs.length = ti.kinds.length) {m' : Mini} {k : List (B × Option Nat)} {ps : List PV} {d0 : Bool} (hin : elemInL ⟨st.box, []⟩ ti.kinds xs = some (ps, d0, m', k)) {e : Nat} {dp : Bool} {r : List (List PV)} (hc : m'.cell b c = .own e sz dp r) (hfit : off + xs.length ≤ sz) (hi : i < r.length) :
    Runs P o st a G w ⟨k, .un, (m'.setCell b c (.own e sz (and dp (allL PV.isVal ps)) (setL r i (setAt (getL [] r i) off ps)))).ch⟩ := by
  have hty := hT t ti ht
  obtain ⟨k0, n0, cap0, hhdr, hv, hbt⟩ := placeOf_rel hq (opnd_rel h x)
  have hall := leafs_rel hxs (opnd_rel h y)
  obtain ⟨G1, b1, b2, b3, b5, b4⟩ := elemInL_sound ti.kinds xs _ G ⟨st.box, []⟩ m' ps d0 k 0 h.m hall hin (fun j' x _ => h.notmp x _)
  have hhdr1 : G1.hdr b c = .slice (some ⟨k0, 0, none⟩) n0 cap0 := by rw [b2.hdr b c hbt]; exact hhdr
  obtain ⟨ls, hls, hlc⟩ := cell_look hc (by simp)
  have hbox := b1.box b ls hls
  have hcell : RelCell G1 w b c (.own e sz dp r) (G1.hdr b c) := by
    unfold RelBox at hbox
    split at hbox
    · obtain ⟨_, cs, ty, _, _, hcc⟩ := hbox
      obtain ⟨v, _, hr⟩ := hcc c _ hlc
      have := hr.1
      rw [← this]; exact hr
    · rcases hbox c _ hlc with e | e
      · cases e
      · exact e
  rcases hcell.2 with ⟨h1, _⟩ | ⟨k1, cap, cur, hv1, hown, hk, hle, hmax, hcur, hpos, hrow, f, hf, hd⟩
  · rw [h1] at hi; cases hi
  rw [hhdr1] at hv1
  cases hv1
  have hlv : (a.eval y).cells.toList.length = xs.length := hall.length.symm
  have hone : ∀ u, u ∈ (a.eval y).cells.toList → u.oneCell' = true := by
    intro u hu
    obtain ⟨i, hi⟩ := List.getElem?_of_mem hu
    have hlt : i < xs.length := by rw [← hlv]; exact (List.getElem?_eq_some_iff.1 hi).1
    obtain ⟨u', hu', hr⟩ := hall.get (List.getElem?_eq_getElem hlt)
    rw [hi] at hu'; cases hu'; exact hr.2
  have hbig : (i + 1) * sz ≤ cur.size := by rw [hcur]; exact Nat.mul_le_mul_right _ (by omega)
  have hbig' : i * sz + sz ≤ cur.size := by rw [← Nat.succ_mul]; exact hbig
  have hrun := storeVar_run hty (w := w) (off := i * sz + off) hk (v := a.eval y) (by omega) (by omega) hone
  let ncs : Array Value := (cur.toList.take (i * sz + off) ++ (a.eval y).cells.toList ++ cur.toList.drop (i * sz + off + (a.eval y).cells.toList.length)).toArray
  let w2 : World := w.setRow k0 ncs
  let keep : Bool := and dp (allL PV.isVal ps)
  let G2 : Gh := G1.storedRow b c k0 keep
  have hne : ∀ z, z ≠ k0 → w2.heap[z]? = w.heap[z]? := fun z hz => setRow_other w k0 z _ hz
  have hkS : ∀ x, G1.S x → x ≠ k0 := fun x hx e => by subst e; rw [b1.Sown x hx] at hown; cases hown
  have hS2 : ∀ x, G2.S x → x ≠ k0 := by
    rintro x (h1 | ⟨c', h1⟩ | ⟨_, _, h1⟩)
    · exact hkS x h1
    · intro e; subst e; rw [hown] at h1; cases h1; exact hbt rfl
    · exact h1
  -- the new row
  have hrow0 : (getL [] r i).length = sz := by rw [getL_eq, List.getElem?_eq_getElem hi]; exact hrow _ (List.getElem_mem hi)
  have hps : ps.length = xs.length := b3
  have hfit' : off + ps.length ≤ (getL [] r i).length := by omega
  have hnewrow : ∀ (i' : Nat) (row : List PV), (setL r i (setAt (getL [] r i) off ps))[i']? = some row → (i' = i ∧ row = setAt (getL [] r i) off ps) ∨ (i' ≠ i ∧ r[i']? = some row) := by
    intro i' row hr
    rw [setL_eq, List.getElem?_set] at hr
    split at hr
    · rename_i e; subst e
      first
        | (rw [if_pos hi] at hr; cases hr; exact .inl ⟨rfl, rfl⟩)
        | (cases hr; exact .inl ⟨rfl, rfl⟩)
    · rename_i e; exact .inr ⟨fun e' => e e'.symm, hr⟩
  have hncs : ∀ z : Nat, ncs[z]? = if i * sz + off ≤ z ∧ z < i * sz + off + xs.length then (a.eval y).cells.toList[z - (i * sz + off)]? else cur[z]? := by
    intro z
    have := seg_get cur.toList (a.eval y).cells.toList (i * sz + off) (by simp at hlv ⊢; omega) z
    show (_ : Array Value)[z]? = _
    simp only [ncs, List.getElem?_toArray]
    rw [this, hlv]
    simp
  -- each of its leaves: a new one, or an old one
  let f' : Nat → Nat → Value := fun i' j => if i' = i ∧ off ≤ j ∧ j < off + xs.length then (a.eval y).cells.toList.getD (j - off) undef else f i' j
  have hleaf : ∀ (i' : Nat) (row : List PV) (j : Nat) (p : PV), (setL r i (setAt (getL [] r i) off ps))[i']? = some row → row[j]? = some p →
      (i' = i ∧ off ≤ j ∧ j < off + xs.length ∧ ps[j - off]? = some p ∧ (a.eval y).cells.toList[j - off]? = some (f' i' j) ∧ j < sz) ∨ (¬ (i' = i ∧ off ≤ j ∧ j < off + xs.length) ∧ f' i' j = f i' j ∧ (∃ row0 : List PV, r[i']? = some row0 ∧ row0[j]? = some p) ∧ j < sz) := by
    intro i' row j p hr hj
    rcases hnewrow i' row hr with ⟨rfl, rfl⟩ | ⟨e1, e2⟩
    · have hjsz : j < sz := by
        have := (List.getElem?_eq_some_iff.1 hj).1
        rw [(setAt_eq ps (getL [] r i') off).1, hrow0] at this; exact this
      rw [(setAt_eq ps (getL [] r i') off).2 j hfit', hps] at hj
      by_cases hin : off ≤ j ∧ j < off + xs.length
      · rw [if_pos hin] at hj
        refine .inl ⟨rfl, hin.1, hin.2, hj, ?_, hjsz⟩
        have hlt : j - off < (a.eval y).cells.toList.length := by omega
        have hf1 : f' i' j = (a.eval y).cells.toList.getD (j - off) undef := if_pos ⟨rfl, hin⟩
        rw [hf1, List.getD_eq_getElem?_getD, List.getElem?_eq_getElem hlt]; rfl
      · rw [if_neg hin] at hj
        refine .inr ⟨by rintro ⟨_, h1⟩; exact hin h1, if_neg (by rintro ⟨_, h1⟩; exact hin h1), ⟨r[i'], List.getElem?_eq_getElem hi, ?_⟩, hjsz⟩
        rw [getL_eq, List.getElem?_eq_getElem hi] at hj; exact hj
    · refine .inr ⟨by rintro ⟨h1, _⟩; exact e1 h1, if_neg (by rintro ⟨h1, _⟩; exact e1 h1), ⟨row, e2, hj⟩, ?_⟩
      rw [← hrow row (List.mem_of_getElem? e2)]; exact (List.getElem?_eq_some_iff.1 hj).1
  have hOwn : OwnRow G2 w2 b c e sz keep (setL r i (setAt (getL [] r i) off ps)) (.slice (some ⟨k0, 0, none⟩) r.length cap0) := by
    refine .inr ⟨k0, cap0, ncs, by rw [setL_eq]; simp, storedRow_other hown hbt (by simp), setRow_heap w k0 cur _ e (0, 0) hk, by rw [setL_eq]; simpa using hle, hmax, ?_, hpos, ?_, f', ?_, ?_⟩
    · simp only [ncs, List.size_toArray, List.length_append, List.length_take, List.length_drop, Array.length_toList]
      simp only [Array.length_toList] at hlv
      omega
    · intro row hr
      obtain ⟨i', hi'⟩ := List.getElem?_of_mem hr
      rcases hnewrow i' row hi' with ⟨_, rfl⟩ | ⟨_, e2⟩
      · rw [(setAt_eq ps (getL [] r i) off).1]; exact hrow0
      · exact hrow row (List.mem_of_getElem? e2)
    · intro i' row j p hr hj
      rcases hleaf i' row j p hr hj with ⟨rfl, h1, h2, h3, h4, _⟩ | ⟨h1, h2, ⟨row0, h3, h4⟩, h5⟩
      · rw [hncs, if_pos (by omega), ← h4]; congr 1; omega
      · rw [hncs, if_neg, h2]
        · exact hf i' row0 j p h3 h4
        · rintro ⟨g1, g2⟩
          have : i' * sz + j = i * sz + (i' * sz + j - i * sz) := by omega
          obtain ⟨e1, e2⟩ := idx_apart h5 (j' := i' * sz + j - i * sz) (by omega) this
          subst e1
          exact h1 ⟨rfl, by omega, by omega⟩
    · cases hkeep : keep with
      | true =>
        have hkp : dp = true ∧ allL PV.isVal ps = true := by have := hkeep; simp only [keep, Bool.and_eq_true] at this; exact this
        obtain ⟨rfl, hval⟩ := hkp
        obtain ⟨fp, g1, g2, g3⟩ := hd
        have hfp : ∀ i' j, (if i' = i ∧ off ≤ j ∧ j < off + xs.length then [] else fp i' j) = fp i' j ∨ (if i' = i ∧ off ≤ j ∧ j < off + xs.length then [] else fp i' j) = [] := by
          intro i' j; split
          · exact .inr rfl
          · exact .inl rfl
        have hlen : (setL r i (setAt (getL [] r i) off ps)).length = r.length := by rw [setL_eq]; simp
        have hsub := fpAll_sub (n := r.length) (sz := sz) hfp
        refine ⟨fun i' j => if i' = i ∧ off ≤ j ∧ j < off + xs.length then [] else fp i' j, fun i' row j p hr hj => ?_, fun z hz => ?_, ?_⟩
        · rcases hleaf i' row j p hr hj with ⟨rfl, h1, h2, h3, h4, h5⟩ | ⟨h1, h2, ⟨row0, h3, h4⟩, h5⟩
          · dsimp only
            rw [if_pos ⟨rfl, h1, h2⟩]
            have hv := hval
            rw [allL_eq, List.all_eq_true] at hv
            have hp := hv p (List.mem_of_getElem? h3)
            cases p with
            | sl _ _ => cases hp
            | err _ => cases hp
            | val u =>
              obtain ⟨d', q1, _⟩ := b4 (j - off) _ _ h3 h4
              have hu : f' i' j = u ∧ u.oneCell' = true := by
                cases d' with
                | true => obtain ⟨fps, q2, _⟩ := q1; cases q2; exact ⟨rfl, by assumption⟩
                | false => cases q1; exact ⟨rfl, by assumption⟩
              rw [hu.1]; exact .val _ hu.2
          · dsimp only
            rw [if_neg h1, h2]
            refine (g1 i' row0 j p h3 h4).move fun z hz => hne z ?_
            rintro rfl
            have : z ∈ fpAll fp r.length sz := mem_fpAll.2 ⟨i', j, (List.getElem?_eq_some_iff.1 h3).1, h5, hz⟩
            exact (List.nodup_cons.1 g3).1 this
        · rw [hlen] at hz
          exact storedRow_other (g2 z (hsub.subset hz)) hbt (by rintro ⟨h1, _⟩; rw [hkeep] at h1; cases h1)
        · rw [hlen]; exact (List.Sublist.cons_cons k0 hsub).nodup g3
      | false =>
        intro i' row j p hr hj
        have hG2S : ∀ z, G1.S z ∨ (∃ c', G1.own z = some (.tmp, c')) ∨ (G1.own z = some (b, some c) ∧ z ≠ k0) → G2.S z := by
          rintro z (h1 | h1 | h1)
          · exact .inl h1
          · exact .inr (.inl h1)
          · exact .inr (.inr ⟨hkeep, h1⟩)
        rcases hleaf i' row j p hr hj with ⟨rfl, h1, h2, h3, h4, _⟩ | ⟨h1, h2, ⟨row0, h3, h4⟩, h5⟩
        · obtain ⟨d', q1, _⟩ := b4 (j - off) _ _ h3 h4
          have key : Rep (fun x => G1.S x ∨ G1.own x = some (.tmp, some (0 + (j - off)))) w p (f' i' j) := by
            cases d' with
            | false => exact q1
            | true => obtain ⟨fps, a1, a2, _⟩ := q1; exact a1.rep fun x hx => .inr (a2 x hx)
          refine Rep.move (fun z hz => hG2S z (hz.imp id fun hz => .inl ⟨_, hz⟩)) (fun z hz => hne z (hS2 z (hG2S z (hz.imp id fun hz => .inl ⟨_, hz⟩)))) key
        · rw [h2]
          cases dp with
          | false => exact Rep.move (fun z hz => hG2S z (.inl hz)) (fun z hz => hne z (hkS z hz)) (hd i' row0 j p h3 h4)
          | true =>
            obtain ⟨fp, g1, g2, g3⟩ := hd
            have hmem : ∀ z, z ∈ fp i' j → z ∈ fpAll fp r.length sz := fun z hz => mem_fpAll.2 ⟨i', j, (List.getElem?_eq_some_iff.1 h3).1, h5, hz⟩
            have hzk : ∀ z, z ∈ fp i' j → z ≠ k0 := fun z hz e => (List.nodup_cons.1 g3).1 (by rw [← e]; exact hmem z hz)
            exact ((g1 i' row0 j p h3 h4).move fun z hz => hne z (hzk z hz)).rep fun z hz => hG2S z (.inr (.inr ⟨g2 z (hmem z hz), hzk z hz⟩))
  have hM : MRel G2 w2 (m'.setCell b c (.own e sz keep (setL r i (setAt (getL [] r i) off ps)))).look := by
    have hother : ∀ (z : Nat) (b' : B) (c' : Option Nat), G1.own z = some (b', c') → b' ≠ .tmp → (b', c') ≠ (b, some c) → G2.own z = some (b', c') ∧ w2.heap[z]? = w.heap[z]? := by
      intro z b' c' hz hb' hbc
      refine ⟨storedRow_other hz hb' (by rintro ⟨_, h1, h2, _⟩; exact hbc (by rw [h1, h2])), hne z ?_⟩
      rintro rfl
      rw [hown] at hz; cases hz; exact hbc rfl
    refine ⟨?_, ?_, ?_, ?_, ?_⟩
    · rw [look_setCell hls, if_neg (fun e => hbt e.symm)]; exact b1.tmp
    · intro b' ls' hb'
      rw [look_setCell hls] at hb'
      split at hb'
      · rename_i e1; subst e1; cases hb'
        have hset : ∀ (c' : Nat) (l' : Lf), (setL ls c (.own e sz keep (setL r i (setAt (getL [] r i) off ps))))[c']? = some l' → (c' = c ∧ l' = .own e sz keep (setL r i (setAt (getL [] r i) off ps))) ∨ (c' ≠ c ∧ ls[c']? = some l') := by
          intro c' l' h'
          rw [setL_eq, List.getElem?_set] at h'
          split at h'
          · rename_i e; subst e
            split at h'
            · cases h'; exact .inl ⟨rfl, rfl⟩
            · cases h'
          · rename_i e; exact .inr ⟨fun e' => e e'.symm, h'⟩
        have hnew : RelCell G2 w2 b' c (.own e sz keep (setL r i (setAt (getL [] r i) off ps))) (G1.hdr b' c) := ⟨rfl, by rw [hhdr1]; exact hOwn⟩
        have keepc : ∀ (c' : Nat) (l' : Lf) (v : Value), c' ≠ c → RelCell G1 w b' c' l' v → RelCell G2 w2 b' c' l' v := fun c' l' v hne' hr =>
          relCell_keep (G := G1) (G' := G2) (fun z hz => .inl hz) (fun z hz => hne z (hkS z hz)) rfl (fun z hz => hother z b' (some c') hz hbt (by intro e; cases e; exact hne' rfl)) hr
        refine relBox_cells hbox rfl (by rw [setL_eq]; simp) (fun kb hkb hob => ⟨(hother kb b' none hob hbt (by simp)).1, fun cs ty hcs hsz => ⟨cs, ((hother kb b' none hob hbt (by simp)).2).trans hcs, rfl, fun c' l' hl' => ?_⟩⟩) (fun hkb c' l' hl' => ?_)
        · rcases hset c' l' hl' with ⟨rfl, rfl⟩ | ⟨hne', hl2⟩
          · right
            have hb2 := hbox
            unfold RelBox at hb2
            rw [hkb] at hb2
            obtain ⟨_, cs2, ty2, hcs2, _, hcc⟩ := hb2
            rw [hcs] at hcs2; cases hcs2
            obtain ⟨v, hv, hr⟩ := hcc c' _ hlc
            exact ⟨v, hv, by rw [hr.1]; exact hnew⟩
          · exact .inl ⟨hl2, rfl, fun v hr => keepc c' l' v hne' hr⟩
        · rcases hset c' l' hl' with ⟨rfl, rfl⟩ | ⟨hne', hl2⟩
          · right; right; exact hnew
          · have hb2 := hbox
            unfold RelBox at hb2
            rw [hkb] at hb2
            rcases hb2 c' l' hl2 with h1 | h1
            · exact .inl h1
            · right; right; exact keepc c' l' _ hne' h1
      · rename_i hne'
        have hb't : b' ≠ .tmp := by rintro rfl; rw [b1.tmp] at hb'; cases hb'
        exact relBox_keep (G := G1) (G' := G2) (fun z hz => .inl hz) (fun z hz => hne z (hkS z hz)) (fun _ => rfl) rfl (fun z c' hz => hother z b' c' hz hb't (by intro e; cases e; exact hne' rfl)) (b1.box b' ls' hb')
    · intro z q hz
      show z < (w.setRow _ _).heap.size
      rw [setRow_size]
      cases hq' : G1.own z with
      | none => rw [storedRow_none hq'] at hz; cases hz
      | some q' => exact b1.lt z q' hq'
    · rintro z (h1 | ⟨c', h1⟩ | ⟨_, h1, _⟩)
      · show z < (w.setRow _ _).heap.size
        rw [setRow_size]; exact b1.Slt z h1
      · show z < (w.setRow _ _).heap.size
        rw [setRow_size]; exact b1.lt z _ h1
      · show z < (w.setRow _ _).heap.size
        rw [setRow_size]; exact b1.lt z _ h1
    · rintro z (h1 | ⟨c', h1⟩ | ⟨h0, h1, h2⟩)
      · exact storedRow_none (b1.Sown z h1)
      · exact storedRow_tmp h1
      · show (G1.storedRow b c k0 keep).own z = none
        simp [Gh.storedRow, h1, h0, h2]
  refine ⟨G2, w2, ?_, .inr ⟨?_, ?_⟩⟩
  · refine ⟨rfl, rfl, rfl, by show w.heap.size ≤ (w.setRow _ _).heap.size; rw [setRow_size]; exact Nat.le_refl _, fun z hz hz2 => hne z ?_, fun z hz hz2 => storedRow_none (fr_moved b2 hz2), fun z hz => .inl (by rw [b2.S]; exact hz), fun z hz => ?_, fun i => (by show G1.blk _ = _; rw [b2.blk])⟩
    · rintro rfl; have := fr_moved b2 hz2; rw [hown] at this; cases this
    · rcases hz with h1 | ⟨c', h1⟩ | ⟨_, h1, _⟩
      · rw [b2.S] at h1; exact .inl h1
      · right; right; intro h2; have := fr_moved b2 h2; rw [h1] at this; cases this
      · right; right; intro h2; have := fr_moved b2 h2; rw [h1] at this; cases this
  · simp only [execOp, ho, hv, Instr.storeAt, Sem.run_bind, Instr.sureAddr, Sem.run_pure, Result.andThen_ok, hrun]
    rfl
  · have hbx : m'.bx = st.box := elemInL_bx _ _ _ _ _ _ _ hin
    have e1 : (m'.setCell b c (.own e sz keep (setL r i (setAt (getL [] r i) off ps)))) = ⟨st.box, (m'.setCell b c (.own e sz keep (setL r i (setAt (getL [] r i) off ps)))).ch⟩ := by
      have := setCell_bx m' b c (.own e sz keep (setL r i (setAt (getL [] r i) off ps)))
      rw [hbx] at this; rw [← this]
    refine h.done o.dst _ (keep_moved b2 ⟨fun _ h => .inl h, fun z hz => hne z (hkS z hz), fun b' c' hb' hh => rfl, fun _ _ _ => rfl⟩) trivial (by rw [← e1]; exact hM) storedRow_notmp

theorem sound_store (hT : TabOk P T) (h : Rel G st a w) {t : TypeId} {x y : Operand} (ho : o.op = .store t x y) {p : Cnd} {e : Eff}
    (he : effStore ⟨st.box, []⟩ (T t) (placeOf (opnd st.regs x)) (leafs (opnd st.regs y)) = some (p, e)) (hp : p.holds) : Runs P o st a G w e := by
  unfold effStore at he
  split at he
  · rename_i ti b off xs hti hq hxs
    obtain ⟨hn, he⟩ := bif_some he
    have hn := Nat.eq_of_beq_eq_true hn
    rw [lenL_eq, lenL_eq] at hn
    split at he
    case h_2 => cases he
    rename_i xs' m' k hin
    split at he
    case h_2 => cases he
    rename_i ls hls
    obtain ⟨hf, he⟩ := bif_some he
    have hf := Nat.le_of_ble_eq_true hf
    rw [lenL_eq, lenL_eq] at hf
    cases he
    exact sound_storeBox hT h ho hti hq hxs hn hin hls hf
  · rename_i ti b c sz' i off xs hti hq hxs
    obtain ⟨hn, he⟩ := bif_some he
    have hn := Nat.eq_of_beq_eq_true hn
    rw [lenL_eq, lenL_eq] at hn
    split at he
    case h_2 => cases he
    rename_i ps d0 m' k hin
    split at he
    case h_2 => cases he
    rename_i e0 sz dp r hc
    obtain ⟨hf, he⟩ := bif_some he
    rw [Bool.and_eq_true] at hf
    have hsz := Nat.eq_of_beq_eq_true hf.1
    cases he
    subst hsz
    have hf := Nat.le_of_ble_eq_true hf.2
    rw [lenL_eq] at hf
    exact sound_storeRow hT h ho hti hq hxs hn hin hc hf hp
  · cases he
end
end Go.Vm

/-! ### 10. Appends -/
namespace Go.Vm
set_option linter.unusedSimpArgs false
set_option linter.unusedVariables false
section
variable {P : Program} {T : TypeId → Option TI} {G : Gh} {w w' : World} {st : St} {a : Act} {o : Oper}

/-- An append to a row that the call owns: the row is where it was, or in a new block. -/
theorem run_append_vm (t ty e : TypeId) (i : TypeInfo) (z : Value) (size bytes : Nat) (ht : P.underlying t = some (.slice e)) (hi : P.info? e = some i) (hz : i.zero = some z)
    (hsize : i.size = size) (hby : i.bytes = bytes) (hzs : z.cells.size = size) (hsz : 0 < size)
    (v : Value) (n : Nat) (xs : List Value) (hown : w.ownsRow 0 e size v n xs)
    (A : Addr) (m c : Nat) (news : List Value) (hl : news.length = m * size) (hnews : ∀ j u, news[j]? = some u → w.cell? (A.add j) = some u) (h1 : ∀ u ∈ news, u.oneCell' = true)
    (h63 : n + m ≤ maxLen) (hbytes : (n + m) * bytes ≤ 140737488355328) :
    ∃ v' w', (Builtin.append_ #[t, t] ty #[v, .slice (some A) m c]).run P w = .ok v' w' ∧ w'.ownsRow 0 e size v' (n + m) (xs ++ news) ∧ w'.os = w.os ∧ w'.tape = w.tape ∧ w'.output = w.output ∧ w.heap.size ≤ w'.heap.size ∧
      (∀ k, v'.ownBlock = some k → v.ownBlock = some k ∨ w.heap.size ≤ k) ∧ ∀ k, k < w.heap.size → some k ≠ v'.ownBlock → w'.heap[k]? = w.heap[k]? := by
  obtain ⟨v', w', hr, ho, hg, hnil⟩ := run_append_own (P := P) w 0 t ty e i z size bytes ht hi hz hsize hby hzs hsz v n xs hown A m c news hl hnews h1 h63 hbytes (Nat.zero_le _)
  refine ⟨v', w', hr, ho, hg.os, hg.tape, hg.output, hg.size, ?_⟩
  have hsmall : n + m ≤ 9223372036854775807 := by simp only [maxLen] at h63; omega
  subst hsize
  subst hby
  rcases hown.2 with ⟨rfl, rfl⟩ | ⟨g, cap, cur, rfl, _, hgg, hnc, hcm, hcs, htake⟩
  · by_cases hm : m = 0
    · have := hnil.2 ⟨rfl, hm⟩
      subst this
      exact ⟨fun k hk => (by cases hk), fun k hk _ => hg.block k hk (by simp [Value.ownBlock])⟩
    · have hr2 := run_append_nil (P := P) w t ty e i z ht hi hz A m c news hl hnews (by omega) (by omega) (by have hb := hbytes; simp only [Nat.zero_add] at hb; omega)
      rw [hr] at hr2
      cases hr2
      refine ⟨fun k hk => ?_, fun k hk _ => hg.block k hk (by simp [Value.ownBlock])⟩
      simp only [Value.ownBlock, Option.some.injEq] at hk
      right; omega
  · by_cases hroom : n + m ≤ cap
    · have hfit : n * i.size + news.length ≤ cur.size := by rw [hl, hcs, ← Nat.add_mul]; exact Nat.mul_le_mul_right _ hroom
      have hr2 := run_append_room (P := P) w t ty e i ht hi g n cap cur hgg A m c news hl hnews h1 hroom hfit
      rw [hr] at hr2
      cases hr2
      exact ⟨fun k hk => .inl hk, fun k hk hk2 => hg.block k hk hk2⟩
    · have holds : ∀ j u, xs[j]? = some u → w.cell? ((⟨g, 0, none⟩ : Addr).add j) = some u := hown.cells (g := g) rfl
      have hr2 := run_append_grow (P := P) w t ty e i z ht hi hz ⟨g, 0, none⟩ n cap xs hown.1 holds A m c news hl hnews (by omega) (by omega) (growslice_fits (by omega) hbytes)
      rw [hr] at hr2
      cases hr2
      refine ⟨fun k hk => ?_, fun k hk _ => RowKit.Below.heap_alloc w.drew _ k hk⟩
      simp only [Value.ownBlock, Option.some.injEq] at hk
      right; omega
/-- Nothing is appended. -/
theorem run_append_none (t ty e : TypeId) (i : TypeInfo) (ht : P.underlying t = some (.slice e)) (hi : P.info? e = some i) (base : Option Addr) (n cap c : Nat) (hn : n ≤ cap) :
    (Builtin.append_ #[t, t] ty #[.slice base n cap, .slice none 0 c]).run P w = .ok (.slice base n cap) w := by
  cases base with
  | none => simp [Builtin.append_, run_underlying ht, sizeOf, typeInfo, hi, Builtin.lenOf, Builtin.firstCells, loadCells, loadCellsFrom, hn]
  | some A => simp [Builtin.append_, run_underlying ht, sizeOf, typeInfo, hi, Builtin.lenOf, Builtin.firstCells, loadCells, loadCellsFrom, hn, storeCells]

theorem mrel_own {m : Mini} (h : MRel G w m.look) {b : B} {c e sz : Nat} {d : Bool} {r : List (List PV)} (hc : m.cell b c = .own e sz d r) : OwnRow G w b c e sz d r (G.hdr b c) := by
  obtain ⟨ls, hb, hl⟩ := cell_look hc (by simp)
  have := h.box b ls hb
  unfold RelBox at this
  split at this
  · obtain ⟨_, cs, ty, _, _, hcell⟩ := this
    obtain ⟨v, _, h1, h2⟩ := hcell c _ hl
    rw [← h1]; exact h2
  · rcases this c _ hl with h1 | h1
    · cases h1
    · exact h1.2
theorem rowsOf_srcM {m : Mini} (h : MRel G w m.look) {l : Lf} {sz : Nat} {r : List (List PV)} {v : Value} (hr : rowsOf m l = some (sz, r)) (hv : RelLf G w l v) : SrcRow G w sz r v := by
  unfold rowsOf at hr
  split at hr
  · cases hr; exact rep_src hv
  · obtain ⟨hn, hr⟩ := bif_some hr
    cases hr
    obtain ⟨e1, _⟩ := rep_val.1 hv
    rw [e1, isNil_eq hn]
    exact ⟨none, 0, rfl, Nat.le_refl _, .inl rfl⟩
  · split at hr
    case h_2 => cases hr
    rename_i hc
    cases hr
    rw [hv.1.1]; exact own_src (mrel_own h hc)
  · split at hr
    case h_2 => cases hr
    rename_i hc
    cases hr
    have h3 := own_src (mrel_own h hc)
    rw [hv.1.1]; exact src_take h3 (by rw [← src_len h3]; exact hv.1.2.1)
  · split at hr
    case h_2 => cases hr
    rename_i hc
    obtain ⟨hb, hr⟩ := bif_some hr
    cases hr
    have h3 := own_src (mrel_own h hc)
    have := Nat.eq_of_beq_eq_true hb
    subst this
    rw [hv.1.1]; exact src_sub h3 hv.1.2.1 (by rw [← src_len h3]; exact hv.1.2.2.1)
  · cases hr

theorem takeOut_sound {m m0 : Mini} {e sz : Nat} {l : Lf} {dp : Bool} {r0 : List (List PV)} {k0 : List (B × Option Nat)} {v : Value} (h : MRel G w m.look) (hl : RelLf G w l v) (ho : takeOut m e sz l = some (dp, r0, m0, k0)) (hj : ∀ x, G.own x ≠ some (.tmp, some 0)) :
    ∃ G1, MRel G1 w m0.look ∧ Moved G G1 0 1 k0 ∧ OwnRow G1 w .tmp 0 e sz dp r0 v ∧ m0.bx = m.bx := by
  unfold takeOut at ho
  split at ho
  · split at ho
    case h_2 => cases ho
    rename_i hc
    obtain ⟨hb, ho⟩ := bif_some ho
    rw [Bool.and_eq_true] at hb
    have e1 := Nat.eq_of_beq_eq_true hb.1
    have e2 := Nat.eq_of_beq_eq_true hb.2
    cases ho
    subst e1; subst e2
    obtain ⟨G1, h1, h2, h3, h4⟩ := h.out hc 0 hj v
    exact ⟨G1, h1, h2, by rw [hl.1.1]; exact h3, setCell_bx ..⟩
  · split at ho
    case h_2 => cases ho
    rename_i hc
    obtain ⟨hb, ho⟩ := bif_some ho
    rw [Bool.and_eq_true] at hb
    have e1 := Nat.eq_of_beq_eq_true hb.1
    have e2 := Nat.eq_of_beq_eq_true hb.2
    cases ho
    subst e1; subst e2
    obtain ⟨G1, h1, h2, h3, h4⟩ := h.out hc 0 hj v
    have hlen : _ := hl.1.2.1
    rw [src_len (own_src h3)] at hlen
    exact ⟨G1, h1, h2, by rw [hl.1.1]; exact h3.take hlen, setCell_bx ..⟩
  · obtain ⟨hn, ho⟩ := bif_some ho
    cases ho
    obtain ⟨e1, _⟩ := rep_val.1 hl
    exact ⟨G, h, (Moved.refl G 0).weak (by omega), .inl ⟨rfl, by rw [e1, isNil_eq hn]⟩, rfl⟩
  · cases ho

/-- The rows that come, told by what they are read from. -/
def InRow (G : Gh) (w : World) (sz : Nat) (d : Bool) (r : List (List PV)) (v : Value) : Prop :=
  ∃ A c, v = .slice A r.length c ∧ (r = [] ∨ ∃ k off cur ty fr, ∃ f : Nat → Nat → Value, A = some ⟨k, off, none⟩ ∧ w.heap[k]? = some (.cells cur ty fr) ∧ (∀ row, row ∈ r → row.length = sz) ∧
    (∀ (i : Nat) (row : List PV) (j : Nat) (p : PV), r[i]? = some row → row[j]? = some p → cur[off + i * sz + j]? = some (f i j)) ∧
      match d with
      | true => ∃ fp, (∀ (i : Nat) (row : List PV) (j : Nat) (p : PV), r[i]? = some row → row[j]? = some p → Deep w p (f i j) (fp i j)) ∧ (∀ x, x ∈ fpAll fp r.length sz → G.own x = some (.tmp, some 1)) ∧ (fpAll fp r.length sz).Nodup
      | false => ∀ (i : Nat) (row : List PV) (j : Nat) (p : PV), r[i]? = some row → row[j]? = some p → Rep G.S w p (f i j))
theorem own_in {c e sz : Nat} {d : Bool} {r : List (List PV)} {v : Value} (h : OwnRow G w .tmp 1 e sz d r v) : InRow G w sz d r v := by
  rcases h with ⟨rfl, rfl⟩ | ⟨k, cap, cur, rfl, _, hk, hle, _, _, _, hrow, f, hf, hd⟩
  · exact ⟨none, 0, rfl, .inl rfl⟩
  · refine ⟨_, cap, rfl, .inr ⟨k, 0, cur, e, (0, 0), f, rfl, hk, hrow, fun i row j p hi hj => by rw [Nat.zero_add]; exact hf i row j p hi hj, ?_⟩⟩
    cases d with
    | false => exact hd
    | true => obtain ⟨fp, h6, h7, h8⟩ := hd; exact ⟨fp, h6, h7, (List.nodup_cons.1 h8).2⟩
theorem fpAll_nil (n sz : Nat) : fpAll (fun _ _ => []) n sz = [] := by
  rw [List.eq_nil_iff_forall_not_mem]
  intro x hx
  obtain ⟨i, j, _, _, h⟩ := mem_fpAll.1 hx
  cases h
theorem src_in_val {sz : Nat} {r : List (List PV)} {v : Value} (h : SrcRow G w sz r v) (hv : ValRows r) : InRow G w sz true r v := by
  obtain ⟨A, c, rfl, hle, hr⟩ := h
  refine ⟨A, c, rfl, ?_⟩
  rcases hr with rfl | ⟨k, off, cur, ty, fr, f, rfl, hk, hrow, hf, hp⟩
  · exact .inl rfl
  · refine .inr ⟨k, off, cur, ty, fr, f, rfl, hk, hrow, hf, fun _ _ => [], fun i row j p hi hj => ?_, fun x hx => (by rw [fpAll_nil] at hx; cases hx), by rw [fpAll_nil]; exact List.nodup_nil⟩
    have := hv row (List.mem_of_getElem? hi) p (List.mem_of_getElem? hj)
    have hpp := hp i row j p hi hj
    generalize f i j = u at hpp
    cases p with
    | sl _ _ => cases this
    | err _ => cases this
    | val u' =>
      rcases hpp with h1 | ⟨fps, h1⟩
      · cases h1; exact .val _ (by assumption)
      · cases h1; exact .val _ (by assumption)
theorem rep_in {sz : Nat} {r : List (List PV)} {v : Value} (h : Rep G.S w (.sl sz r) v) : InRow G w sz false r v := by
  cases h with
  | nil sz A c => exact ⟨A, c, rfl, .inl rfl⟩
  | sl sz rows k o c cur ty fr f hne hl hc hS hk hcell hrep => exact ⟨_, c, rfl, .inr ⟨k, o, cur, ty, fr, f, rfl, hk, hl, hcell, hrep⟩⟩

theorem takeIn_sound {m m1 : Mini} {sz : Nat} {flat : Bool} {l : Lf} {q : Prop} {d1 : Bool} {r1 : List (List PV)} {k1 : List (B × Option Nat)} {v : Value} (h : MRel G w m.look) (hl : RelLf G w l v) (ho : takeIn m sz flat l = some (q, d1, r1, m1, k1)) (hq : q) (hj : ∀ x, G.own x ≠ some (.tmp, some 1)) :
    ∃ G1, MRel G1 w m1.look ∧ Moved G G1 1 2 k1 ∧ InRow G1 w sz d1 r1 v ∧ m1.bx = m.bx := by
  have rest : ∀ {l : Lf}, RelLf G w l v → (bif flat then (match rowsOf m l with | some (sz', r) => (bif Nat.beq sz sz' then some (ValRows r, true, r, m, ([] : List (B × Option Nat))) else none) | none => none) else none) = some (q, d1, r1, m1, k1) → ∃ G1, MRel G1 w m1.look ∧ Moved G G1 1 2 k1 ∧ InRow G1 w sz d1 r1 v ∧ m1.bx = m.bx := by
    intro l hl ho
    obtain ⟨_, ho⟩ := bif_some ho
    split at ho
    case h_2 => cases ho
    rename_i sz' r hr
    obtain ⟨hb, ho⟩ := bif_some ho
    have e1 := Nat.eq_of_beq_eq_true hb
    cases ho
    subst e1
    exact ⟨G, h, (Moved.refl G 1).weak (by omega), src_in_val (rowsOf_srcM h hr hl) hq, rfl⟩
  unfold takeIn at ho
  split at ho
  · split at ho
    case h_2 => cases ho
    rename_i hc
    obtain ⟨hb, ho⟩ := bif_some ho
    have e1 := Nat.eq_of_beq_eq_true hb
    cases ho
    subst e1
    obtain ⟨G1, h1, h2, h3, h4⟩ := h.out hc 1 hj v
    exact ⟨G1, h1, h2, by rw [hl.1.1]; exact own_in (c := 0) h3, setCell_bx ..⟩
  · obtain ⟨hb, ho⟩ := bif_some ho
    have e1 := Nat.eq_of_beq_eq_true hb
    cases flat with
    | true => cases ho; subst e1; exact ⟨G, h, (Moved.refl G 1).weak (by omega), src_in_val (rep_src hl) hq, rfl⟩
    | false => cases ho; subst e1; exact ⟨G, h, (Moved.refl G 1).weak (by omega), rep_in hl, rfl⟩
  · obtain ⟨hn, ho⟩ := bif_some ho
    cases ho
    obtain ⟨e1, _⟩ := rep_val.1 hl
    exact ⟨G, h, (Moved.refl G 1).weak (by omega), ⟨none, 0, by rw [e1, isNil_eq hn]; rfl, .inl rfl⟩, rfl⟩
  · exact rest hl ho

theorem divMod {z m sz : Nat} (h : z < m * sz) : z / sz < m ∧ z % sz < sz ∧ z / sz * sz + z % sz = z := by
  have hpos : 0 < sz := by
    rcases Nat.eq_zero_or_pos sz with h0 | h0
    · subst h0; simp at h
    · exact h0
  exact ⟨(Nat.div_lt_iff_lt_mul hpos).2 h, Nat.mod_lt _ hpos, by rw [Nat.mul_comm]; exact Nat.div_add_mod z sz⟩

theorem flatMap_congr' {α β : Type} {f g : α → List β} : ∀ {l : List α}, (∀ x, x ∈ l → f x = g x) → l.flatMap f = l.flatMap g
  | [], _ => rfl
  | x :: l, h => by rw [List.flatMap_cons, List.flatMap_cons, h x (List.mem_cons_self ..), flatMap_congr' fun y hy => h y (List.mem_cons_of_mem _ hy)]
theorem sound_append (hT : TabOk P T) (h : Rel G st a w) {t t' e : TypeId} {x0 x1 : Operand} {c : Call} (ho : o.op = .call c) (hc : c.callee = .builtin .append) (hx : c.args.toList = [x0, x1]) (ht : c.argTypes.toList = [t, t']) (htt : t = t') (hs : sliceOf (T t) = some e) {p : Cnd} {ee : Eff}
    (he : effAppend ⟨st.box, []⟩ o.dst e (T e) (opnd st.regs x0) (opnd st.regs x1) = some (p, ee)) (hp : p.holds) : Runs P o st a G w ee := by
  obtain ⟨cal, args, tys⟩ := c
  dsimp only at hc hx ht
  subst hc
  subst htt
  obtain rfl : args = #[x0, x1] := by rw [← Array.toArray_toList (xs := args), hx]
  obtain rfl : tys = #[t, t] := by rw [← Array.toArray_toList (xs := tys), ht]
  have hu := sliceOf_some hT hs
  unfold effAppend at he
  split at he
  case h_2 => cases he
  rename_i d te l0 l1 hd hte hl0 hl1
  obtain ⟨hpos, he⟩ := bif_some he
  have hpos : 0 < te.kinds.length := by rw [← lenL_eq]; exact Nat.le_of_ble_eq_true hpos
  split at he
  case h_1 => cases he
  rename_i dp r0 m0 k0 hout
  split at he
  case h_1 => cases he
  rename_i q d1 r1 m1 k1 hinn
  cases he
  obtain ⟨hq, hlim, hlim2⟩ := hp
  rw [lenL_eq] at hout hinn ⊢
  have hty := hT _ _ hte
  obtain ⟨i, z, hi, hsz, hby, hz, hzc⟩ := hty.info
  have hzs : z.cells.size = te.kinds.length := by rw [← Array.length_toList, hzc, hty.len]
  have hv0 := opnd_rel h x0
  rw [hl0] at hv0
  have hv1 := opnd_rel h x1
  rw [hl1] at hv1
  obtain ⟨G1, a1, a2, a3, a4⟩ := takeOut_sound h.m (one_rel.1 hv0).1 hout (fun x => h.notmp x _)
  obtain ⟨G2, b1, b2, b3, b4⟩ := takeIn_sound a1 (relLf_moved a2 (one_rel.1 hv1).1) hinn hq (a2.free (Nat.le_refl 1) fun x => h.notmp x _)
  have M := a2.trans b2 (by omega) (by omega)
  have hbx : m1.bx = st.box := b4.trans a4
  have hown0 : OwnRow G2 w .tmp 0 e te.kinds.length dp r0 (a.eval x0) := a3.ren (fun x hx => by rw [b2.S]; exact hx) (fun _ _ => rfl) fun x hx => by
    refine ⟨?_, rfl⟩
    rcases b2.own x with e1 | ⟨b, c, j, e1, _, hb, _⟩
    · exact e1.trans hx
    · rw [hx] at e1; cases e1; exact absurd rfl hb
  have hsl := ownRow_slice hown0
  obtain ⟨A1, c1, hx1, hin⟩ := b3
  -- nothing comes
  by_cases hA : A1 = none
  · subst hA
    have hr1 : r1 = [] := by
      rcases hin with h1 | ⟨_, _, _, _, _, _, h1, _⟩
      · exact h1
      · cases h1
    subst hr1
    have hrun : (execOp a.eval o).run P w = .ok (.value (a.eval x0)) w := by
      have : ∃ base n cap, a.eval x0 = .slice base n cap ∧ n ≤ cap := by
        rcases hsl.2 with ⟨_, h1⟩ | ⟨k, cap, h1, h2⟩
        · exact ⟨none, 0, 0, h1, Nat.le_refl _⟩
        · exact ⟨_, _, cap, h1, h2⟩
      obtain ⟨base, n, cap, h1, h2⟩ := this
      have := run_append_none (P := P) (w := w) t o.type e i hu hi base n cap c1 h2
      simp [execOp, ho, resolve, invoke, builtin, h1, hx1, this]
    have hkb : KbOk G2 w w (a.eval x0).ownBlock := by
      refine ⟨fun y hy => ?_, Nat.le_refl _, fun _ _ _ => rfl⟩
      rcases hown0 with ⟨_, h5⟩ | ⟨k, cap, cur, h5, h6, _⟩
      · rw [h5] at hy; cases hy
      · rw [h5] at hy; cases hy; exact ⟨.inl ⟨_, h6⟩, b1.lt _ _ h6⟩
    refine done_row h M b1 hbx hd (keep := and dp d1) (v := a.eval x0) hkb rfl rfl rfl ?_ (List.mem_cons_self ..) hrun
    rw [List.append_nil]
    rcases hown0 with h1 | ⟨k, cap, cur, h1, h2, h3, h4, h5, h6, h7, h8, f, h9, h10⟩
    · exact .inl h1
    · refine .inr ⟨k, cap, cur, h1, rowG_kb (by rw [h1]; rfl), h3, h4, h5, h6, h7, h8, f, h9, ?_⟩
      cases dp with
      | false => exact fun i row j p hi hj => Rep.move (fun _ h => .inl h) (fun _ _ => rfl) (h10 i row j p hi hj)
      | true =>
        obtain ⟨fp, g1, g2, g3⟩ := h10
        cases d1 with
        | true => exact ⟨fp, g1, fun x hx => rowG_tmp rfl (g2 x hx), g3⟩
        | false =>
          intro i row j p hi hj
          have hmem : ∀ x, x ∈ fp i j → x ∈ fpAll fp r0.length te.kinds.length := fun x hx => mem_fpAll.2 ⟨i, j, (List.getElem?_eq_some_iff.1 hi).1, by rw [← h8 row (List.mem_of_getElem? hi)]; exact (List.getElem?_eq_some_iff.1 hj).1, hx⟩
          refine (g1 i row j p hi hj).rep fun x hx => .inr ⟨rfl, ⟨_, g2 x (hmem x hx)⟩, ?_⟩
          rw [h1]; intro e1; cases e1; exact (List.nodup_cons.1 g3).1 (hmem _ hx)
  · -- rows come
    obtain ⟨news, A, hA1, hnl, hncell, hnone, f1, hf1⟩ : ∃ (news : List Value) (A : Addr), A1 = some A ∧ news.length = r1.length * te.kinds.length ∧ (∀ (j : Nat) (u : Value), news[j]? = some u → w.cell? (A.add j) = some u) ∧ (∀ u ∈ news, u.oneCell' = true) ∧ ∃ f1 : Nat → Nat → Value,
        (∀ row, row ∈ r1 → row.length = te.kinds.length) ∧ (∀ (i : Nat) (row : List PV) (j : Nat) (p : PV), r1[i]? = some row → row[j]? = some p → news[i * te.kinds.length + j]? = some (f1 i j)) ∧
        match (generalizing := false) d1 with
        | true => ∃ fp, (∀ (i : Nat) (row : List PV) (j : Nat) (p : PV), r1[i]? = some row → row[j]? = some p → Deep w p (f1 i j) (fp i j)) ∧ (∀ x, x ∈ fpAll fp r1.length te.kinds.length → G2.own x = some (.tmp, some 1)) ∧ (fpAll fp r1.length te.kinds.length).Nodup
        | false => ∀ (i : Nat) (row : List PV) (j : Nat) (p : PV), r1[i]? = some row → row[j]? = some p → Rep G2.S w p (f1 i j) := by
      rcases hin with rfl | ⟨k, off, cur, ty, fr, f, rfl, hk, hrow, hf, hpp⟩
      · cases A1 with
        | none => exact absurd rfl hA
        | some A =>
          refine ⟨[], A, rfl, by simp, (fun j u hj => by simp at hj), (fun u hu => by cases hu), fun _ _ => undef, (fun row hr => by cases hr), (fun i row j p hi => by simp at hi), ?_⟩
          cases d1 with
          | true => exact ⟨fun _ _ => [], fun i row j p hi => (by simp at hi), fun x hx => (by rw [fpAll_nil] at hx; cases hx), by rw [fpAll_nil]; exact List.nodup_nil⟩
          | false => exact fun i row j p hi => by simp at hi
      · have hleaf : ∀ z, z < r1.length * te.kinds.length → ∃ row p, r1[z / te.kinds.length]? = some row ∧ row[z % te.kinds.length]? = some p ∧ cur[off + z]? = some (f (z / te.kinds.length) (z % te.kinds.length)) := by
          intro z hz
          obtain ⟨e1, e2, e3⟩ := divMod hz
          have hr := List.getElem?_eq_getElem e1
          have hl := hrow _ (List.getElem_mem e1)
          have hj : z % te.kinds.length < (r1[z / te.kinds.length]).length := by rw [hl]; exact e2
          refine ⟨_, _, hr, List.getElem?_eq_getElem hj, ?_⟩
          have := hf _ _ _ _ hr (List.getElem?_eq_getElem hj)
          rw [← this, Nat.add_assoc, e3]
        refine ⟨(List.range (r1.length * te.kinds.length)).map fun z => f (z / te.kinds.length) (z % te.kinds.length), ⟨k, off, none⟩, rfl, by simp, fun j u hj => ?_, fun u hu => ?_, f, hrow, fun i row j p hi hj => ?_, hpp⟩
        · rw [List.getElem?_map] at hj
          cases e1 : (List.range (r1.length * te.kinds.length))[j]? with
          | none => rw [e1] at hj; cases hj
          | some z =>
            rw [e1] at hj; cases hj
            obtain ⟨hlt, e2⟩ := List.getElem?_eq_some_iff.1 e1
            simp at hlt e2
            subst e2
            obtain ⟨_, _, _, _, h3⟩ := hleaf j hlt
            rw [Addr.add_mid, cell_of hk]; exact h3
        · obtain ⟨z, hz, rfl⟩ := List.mem_map.1 hu
          obtain ⟨row, p, h1, h2, _⟩ := hleaf z (List.mem_range.1 hz)
          cases d1 with
          | true => obtain ⟨fp, g1, _⟩ := hpp; exact (g1 _ _ _ _ h1 h2).one
          | false => exact (hpp _ _ _ _ h1 h2).one
        · have hj' : j < te.kinds.length := by rw [← hrow row (List.mem_of_getElem? hi)]; exact (List.getElem?_eq_some_iff.1 hj).1
          have hi' : i < r1.length := (List.getElem?_eq_some_iff.1 hi).1
          have hlt : i * te.kinds.length + j < r1.length * te.kinds.length := by
            have : (i + 1) * te.kinds.length ≤ r1.length * te.kinds.length := Nat.mul_le_mul_right _ hi'
            rw [Nat.succ_mul] at this; omega
          have e1 : (i * te.kinds.length + j) / te.kinds.length = i ∧ (i * te.kinds.length + j) % te.kinds.length = j := by
            obtain ⟨_, g2, g3⟩ := divMod hlt
            exact idx_apart g2 hj' g3
          rw [List.getElem?_map, List.getElem?_range hlt]
          simp [e1.1, e1.2]
    subst hA1
    obtain ⟨hrow1, hf1, hpp1⟩ := hf1
    -- the row that grows
    obtain ⟨xs, hown, f0, hrow0, hf0, hpp0⟩ : ∃ xs : List Value, w.ownsRow 0 e te.kinds.length (a.eval x0) r0.length xs ∧ ∃ f0 : Nat → Nat → Value, (∀ row, row ∈ r0 → row.length = te.kinds.length) ∧
        (∀ (i : Nat) (row : List PV) (j : Nat) (p : PV), r0[i]? = some row → row[j]? = some p → xs[i * te.kinds.length + j]? = some (f0 i j)) ∧
        match (generalizing := false) dp with
        | true => ∃ fp, (∀ (i : Nat) (row : List PV) (j : Nat) (p : PV), r0[i]? = some row → row[j]? = some p → Deep w p (f0 i j) (fp i j)) ∧ (∀ x, x ∈ fpAll fp r0.length te.kinds.length → G2.own x = some (.tmp, some 0) ∧ some x ≠ (a.eval x0).ownBlock) ∧ (fpAll fp r0.length te.kinds.length).Nodup
        | false => ∀ (i : Nat) (row : List PV) (j : Nat) (p : PV), r0[i]? = some row → row[j]? = some p → Rep G2.S w p (f0 i j) := by
      rcases hown0 with ⟨rfl, h1⟩ | ⟨k, cap, cur, h1, h2, h3, h4, h5, h6, h7, h8, f, h9, h10⟩
      · refine ⟨[], ⟨by simp, .inl ⟨h1, rfl⟩⟩, fun _ _ => undef, (fun row hr => by cases hr), (fun i row j p hi => by simp at hi), ?_⟩
        cases dp with
        | true => exact ⟨fun _ _ => [], fun i row j p hi => (by simp at hi), fun x hx => (by rw [fpAll_nil] at hx; cases hx), by rw [fpAll_nil]; exact List.nodup_nil⟩
        | false => exact fun i row j p hi => by simp at hi
      · have hle : r0.length * te.kinds.length ≤ cur.size := by rw [h6]; exact Nat.mul_le_mul_right _ h4
        refine ⟨cur.toList.take (r0.length * te.kinds.length), ⟨by simp; omega, .inr ⟨k, cap, cur, h1, Nat.zero_le _, h3, h4, h5, h6, rfl⟩⟩, f, h8, fun i row j p hi hj => ?_, ?_⟩
        · have hj' : j < te.kinds.length := by rw [← h8 row (List.mem_of_getElem? hi)]; exact (List.getElem?_eq_some_iff.1 hj).1
          have hi' : i < r0.length := (List.getElem?_eq_some_iff.1 hi).1
          have hlt : i * te.kinds.length + j < r0.length * te.kinds.length := by
            have : (i + 1) * te.kinds.length ≤ r0.length * te.kinds.length := Nat.mul_le_mul_right _ hi'
            rw [Nat.succ_mul] at this; omega
          rw [List.getElem?_take, if_pos hlt]
          simpa using h9 i row j p hi hj
        · cases dp with
          | false => exact h10
          | true =>
            obtain ⟨fp, g1, g2, g3⟩ := h10
            refine ⟨fp, g1, fun x hx => ⟨g2 x hx, ?_⟩, (List.nodup_cons.1 g3).2⟩
            rw [h1]; intro e1; cases e1; exact (List.nodup_cons.1 g3).1 hx
    have hL : LIM = 1099511627776 := rfl
    obtain ⟨v', w', hr, hown', ho', ht', hu', hsz', hblk, hheap⟩ := run_append_vm (P := P) (w := w) t o.type e i z te.kinds.length te.bytes hu hi hz hsz hby hzs hpos (a.eval x0) r0.length xs hown A r1.length c1 news hnl hncell hnone (by unfold maxLen; omega) (by omega)
    have hrun : (execOp a.eval o).run P w = .ok (.value v') w' := by
      simp [execOp, ho, resolve, invoke, builtin, hx1, hr]
    have hown0' : ∀ k, (a.eval x0).ownBlock = some k → G2.own k = some (.tmp, some 0) := by
      intro k hk
      rcases hown0 with ⟨_, h5⟩ | ⟨k', cap, cur, h5, h6, _⟩
      · rw [h5] at hk; cases hk
      · rw [h5] at hk; cases hk; exact h6
    have hkb : KbOk G2 w w' v'.ownBlock := by
      refine ⟨fun y hy => ⟨?_, (hown'.lt y hy.symm).2⟩, hsz', hheap⟩
      rcases hblk y hy.symm with h1 | h1
      · exact .inl ⟨_, hown0' y h1⟩
      · exact .inr h1
    refine done_row h M b1 hbx hd (keep := and dp d1) (v := v') hkb ho' ht' hu' ?_ (List.mem_cons_self ..) hrun
    rcases hown'.2 with ⟨h1, h2⟩ | ⟨k', cap', cur', h1, _, h3, h4, h5, h6, h7⟩
    · refine .inl ⟨List.eq_nil_of_length_eq_zero (by rw [List.length_append]; exact h2), h1⟩
    · have hlen : (r0 ++ r1).length = r0.length + r1.length := by simp
      have hxl : xs.length = r0.length * te.kinds.length := hown.1
      have hcell : ∀ z : Nat, z < (r0.length + r1.length) * te.kinds.length → cur'[z]? = (xs ++ news)[z]? := by
        intro z hz
        rw [← h7, List.getElem?_take, if_pos hz]; simp
      have hkb' : some k' = v'.ownBlock := by rw [h1]; rfl
      let F : Nat → Nat → Value := fun i j => if i < r0.length then f0 i j else f1 (i - r0.length) j
      have hcase : ∀ (i : Nat) (row : List PV), (r0 ++ r1)[i]? = some row → (i < r0.length ∧ r0[i]? = some row) ∨ (¬ i < r0.length ∧ r1[i - r0.length]? = some row) := by
        intro i row hi
        by_cases e1 : i < r0.length
        · exact .inl ⟨e1, by rwa [List.getElem?_append_left e1] at hi⟩
        · exact .inr ⟨e1, by rwa [List.getElem?_append_right (by omega)] at hi⟩
      -- a block that the rows lead to is as it was
      have hSh : ∀ x, G2.S x → w'.heap[x]? = w.heap[x]? := fun x hx => hheap x (b1.Slt x hx) (kb_not_S b1 hkb hx)
      refine .inr ⟨k', cap', cur', by rw [hlen]; exact h1, rowG_kb hkb', h3, by rw [hlen]; exact h4, h5, h6, hpos, ?_, F, ?_, ?_⟩
      · intro row hr
        rcases List.mem_append.1 hr with h1 | h1
        · exact hrow0 row h1
        · exact hrow1 row h1
      · intro i row j p hi hj
        have hj' : j < te.kinds.length := by
          have : row.length = te.kinds.length := by
            rcases List.mem_append.1 (List.mem_of_getElem? hi) with h1 | h1
            · exact hrow0 row h1
            · exact hrow1 row h1
          rw [← this]; exact (List.getElem?_eq_some_iff.1 hj).1
        have hlt : i * te.kinds.length + j < (r0.length + r1.length) * te.kinds.length := by
          have hi' := (List.getElem?_eq_some_iff.1 hi).1
          rw [hlen] at hi'
          have : (i + 1) * te.kinds.length ≤ (r0.length + r1.length) * te.kinds.length := Nat.mul_le_mul_right _ hi'
          rw [Nat.succ_mul] at this; omega
        rw [hcell _ hlt]
        rcases hcase i row hi with ⟨e1, e2⟩ | ⟨e1, e2⟩
        · have hlt2 : i * te.kinds.length + j < xs.length := by
            rw [hxl]
            have : (i + 1) * te.kinds.length ≤ r0.length * te.kinds.length := Nat.mul_le_mul_right _ e1
            rw [Nat.succ_mul] at this; omega
          rw [List.getElem?_append_left hlt2, hf0 i row j p e2 hj]
          simp [F, e1]
        · obtain ⟨n, rfl⟩ : ∃ n, i = r0.length + n := ⟨i - r0.length, by omega⟩
          have e3 : r0.length + n - r0.length = n := by omega
          rw [e3] at e2
          have hge : xs.length ≤ (r0.length + n) * te.kinds.length + j := by rw [hxl, Nat.add_mul]; omega
          rw [List.getElem?_append_right hge]
          have e4 : (r0.length + n) * te.kinds.length + j - xs.length = n * te.kinds.length + j := by rw [hxl, Nat.add_mul]; omega
          rw [e4, hf1 n row j p e2 hj]
          simp [F, e1, e3]
      · -- the elements
        have hdeep0 : ∀ (fp : Nat → Nat → List Nat), (∀ x, x ∈ fpAll fp r0.length te.kinds.length → G2.own x = some (.tmp, some 0) ∧ some x ≠ (a.eval x0).ownBlock) → ∀ x, x ∈ fpAll fp r0.length te.kinds.length → some x ≠ v'.ownBlock ∧ w'.heap[x]? = w.heap[x]? := by
          intro fp g2 x hx
          have hne : some x ≠ v'.ownBlock := by
            intro e1
            rcases hblk x e1.symm with h1 | h1
            · exact (g2 x hx).2 h1.symm
            · have := b1.lt x _ (g2 x hx).1; omega
          exact ⟨hne, hheap x (b1.lt x _ (g2 x hx).1) hne⟩
        have hdeep1 : ∀ x, G2.own x = some (.tmp, some 1) → some x ≠ v'.ownBlock ∧ w'.heap[x]? = w.heap[x]? := by
          intro x hx
          have hne : some x ≠ v'.ownBlock := by
            intro e1
            rcases hblk x e1.symm with h1 | h1
            · have := hown0' x h1; rw [hx] at this; cases this
            · have := b1.lt x _ hx; omega
          exact ⟨hne, hheap x (b1.lt x _ hx) hne⟩
        have hin0 : ∀ (i : Nat) (row : List PV) (j : Nat) (p : PV) (fp : Nat → Nat → List Nat) (x : Nat), r0[i]? = some row → row[j]? = some p → x ∈ fp i j → x ∈ fpAll fp r0.length te.kinds.length := by
          intro i row j p fp x hi hj hx
          exact mem_fpAll.2 ⟨i, j, (List.getElem?_eq_some_iff.1 hi).1, by rw [← hrow0 row (List.mem_of_getElem? hi)]; exact (List.getElem?_eq_some_iff.1 hj).1, hx⟩
        have hin1 : ∀ (i : Nat) (row : List PV) (j : Nat) (p : PV) (fp : Nat → Nat → List Nat) (x : Nat), r1[i]? = some row → row[j]? = some p → x ∈ fp i j → x ∈ fpAll fp r1.length te.kinds.length := by
          intro i row j p fp x hi hj hx
          exact mem_fpAll.2 ⟨i, j, (List.getElem?_eq_some_iff.1 hi).1, by rw [← hrow1 row (List.mem_of_getElem? hi)]; exact (List.getElem?_eq_some_iff.1 hj).1, hx⟩
        cases hkeep : and dp d1 with
        | true =>
          rw [Bool.and_eq_true] at hkeep
          obtain ⟨rfl, rfl⟩ := hkeep
          obtain ⟨fp0, p1, p2, p3⟩ := hpp0
          obtain ⟨fp1, q1, q2, q3⟩ := hpp1
          have hfp : fpAll (fun i j => if i < r0.length then fp0 i j else fp1 (i - r0.length) j) (r0.length + r1.length) te.kinds.length = fpAll fp0 r0.length te.kinds.length ++ fpAll fp1 r1.length te.kinds.length := by
            unfold fpAll
            rw [List.range_add, List.flatMap_append]
            congr 1
            · refine flatMap_congr' fun i hi => flatMap_congr' fun j _ => if_pos (List.mem_range.1 hi)
            · rw [List.flatMap_map]
              refine flatMap_congr' fun i hi => flatMap_congr' fun j _ => ?_
              show (if r0.length + i < r0.length then fp0 (r0.length + i) j else fp1 (r0.length + i - r0.length) j) = fp1 i j
              rw [if_neg (by omega), show r0.length + i - r0.length = i from by omega]
          refine ⟨fun i j => if i < r0.length then fp0 i j else fp1 (i - r0.length) j, fun i row j p hi hj => ?_, fun x hx => ?_, ?_⟩
          · rcases hcase i row hi with ⟨e1, e2⟩ | ⟨e1, e2⟩
            · simp only [F, e1, if_true]
              exact (p1 i row j p e2 hj).move fun x hx => (hdeep0 fp0 p2 x (hin0 i row j p fp0 x e2 hj hx)).2
            · simp only [F, e1, if_false]
              exact (q1 _ row j p e2 hj).move fun x hx => (hdeep1 x (q2 x (hin1 _ row j p fp1 x e2 hj hx))).2
          · rw [hlen, hfp] at hx
            rcases List.mem_append.1 hx with h1 | h1
            · exact rowG_tmp rfl (p2 x h1).1
            · exact rowG_tmp rfl (q2 x h1)
          · rw [hlen, hfp, List.nodup_cons]
            refine ⟨fun hx => ?_, List.nodup_append.2 ⟨p3, q3, fun x hx y hy e1 => ?_⟩⟩
            · rcases List.mem_append.1 hx with h1 | h1
              · exact (hdeep0 fp0 p2 _ h1).1 hkb'
              · exact (hdeep1 _ (q2 _ h1)).1 hkb'
            · subst e1
              have := (p2 x hx).1
              rw [q2 x hy] at this; cases this
        | false =>
          intro i row j p hi hj
          rcases hcase i row hi with ⟨e1, e2⟩ | ⟨e1, e2⟩
          · simp only [F, e1, if_true]
            cases dp with
            | false => exact Rep.move (fun _ h => .inl h) hSh (hpp0 i row j p e2 hj)
            | true =>
              obtain ⟨fp0, p1, p2, p3⟩ := hpp0
              have hx' := fun x hx => hin0 i row j p fp0 x e2 hj hx
              exact ((p1 i row j p e2 hj).move fun x hx => (hdeep0 fp0 p2 x (hx' x hx)).2).rep fun x hx => .inr ⟨rfl, ⟨_, (p2 x (hx' x hx)).1⟩, (hdeep0 fp0 p2 x (hx' x hx)).1⟩
          · simp only [F, e1, if_false]
            cases d1 with
            | false => exact Rep.move (fun _ h => .inl h) hSh (hpp1 _ row j p e2 hj)
            | true =>
              obtain ⟨fp1, q1, q2, q3⟩ := hpp1
              have hx' := fun x hx => hin1 _ row j p fp1 x e2 hj hx
              exact ((q1 _ row j p e2 hj).move fun x hx => (hdeep1 x (q2 x (hx' x hx))).2).rep fun x hx => .inr ⟨rfl, ⟨_, q2 x (hx' x hx)⟩, (hdeep1 x (q2 x (hx' x hx))).1⟩
end
end Go.Vm

/-! ### 10b. An error beside nil; bytes as a string -/
namespace Go.Vm
set_option linter.unusedSimpArgs false
set_option linter.unusedVariables false
section
variable {P : Program} {T : TypeId → Option TI} {G : Gh} {w : World} {st : St} {a : Act} {o : Oper}
theorem eqIn_val (d : Nat) {t : TypeId} {ms : Array (String × TypeId)} (hu : P.underlying t = some (.interface ms)) (u : TypeId) (x : Value) : (Op.equalIn (d + 1) t (.iface u x) .nilIface).run P w = .ok false w := by
  rw [Op.equalIn]
  simp [run_underlying hu]
theorem eqIn_nil (d : Nat) {t : TypeId} {ms : Array (String × TypeId)} (hu : P.underlying t = some (.interface ms)) : (Op.equalIn (d + 1) t .nilIface .nilIface).run P w = .ok true w := by
  rw [Op.equalIn]
  simp [run_underlying hu]
theorem eq_val {t : TypeId} {ms : Array (String × TypeId)} (hu : P.underlying t = some (.interface ms)) (u : TypeId) (x : Value) : (Op.equal t (.iface u x) .nilIface).run P w = .ok false w := eqIn_val 9999 hu u x
theorem eq_nil {t : TypeId} {ms : Array (String × TypeId)} (hu : P.underlying t = some (.interface ms)) : (Op.equal t .nilIface .nilIface).run P w = .ok true w := eqIn_nil 9999 hu
theorem errOf_some {r : RV} {b : Bool} (h : errOf r = some b) : r = one (.pv (.err b)) := by
  unfold errOf at h
  split at h
  · cases h; rfl
  · cases h
theorem isNilI_eq {v : Value} (h : isNilI v = true) : v = .nilIface := by
  unfold isNilI at h
  split at h
  · rfl
  · cases h
theorem isIfaceT_true (hT : TabOk P T) {t : TypeId} (h : isIfaceT (T t) = true) : ∃ ms, P.underlying t = some (.interface ms) := by
  unfold isIfaceT at h
  split at h
  case h_2 => cases h
  rename_i ti hti
  split at h
  case h_2 => cases h
  rename_i hd
  have hu := (hT t ti hti).under
  rw [hd] at hu
  exact ⟨_, hu⟩
theorem sound_err (hT : TabOk P T) (h : Rel G st a w) {op : BinOp} {t t' : TypeId} {x y : Operand} (ho : o.op = .binOp op t x y t') {b : Bool} (hb : errOf (opnd st.regs x) = some b) {p : Cnd} {e : Eff}
    (he : effErr (T t) op b y = some (p, e)) : Runs P o st a G w e := by
  unfold effErr at he
  split at he
  case h_2 => cases he
  rename_i v
  obtain ⟨hn, he2⟩ := bif_some he
  clear he
  rw [Bool.and_eq_true] at hn
  obtain rfl := isNilI_eq hn.1
  have ev : a.eval (.const .nilIface) = .nilIface := rfl
  obtain ⟨ms, hi⟩ := isIfaceT_true hT hn.2
  have hx := opnd_rel h x
  rw [errOf_some hb] at hx
  have hr : Rep G.S w (.err b) (a.eval x) := (one_rel.1 hx).1
  generalize hu : a.eval x = u at hr
  split at he2
  · obtain rfl := ret_some he2
    refine Runs.pure h (v := .bool (!b)) ?_ (scal_rel rfl)
    simp only [execOp, ho, hu, ev]
    cases hr with
    | errN => simp [eqGuard, binOp]; rw [eq_nil hi]; rfl
    | errS tt v => simp [eqGuard, binOp]; rw [eq_val hi tt v]; rfl
  · obtain rfl := ret_some he2
    refine Runs.pure h (v := .bool b) ?_ (scal_rel rfl)
    simp only [execOp, ho, hu, ev]
    cases hr with
    | errN => simp [eqGuard, binOp]; rw [eq_nil hi]; rfl
    | errS tt v => simp [eqGuard, binOp]; rw [eq_val hi tt v]; rfl
  · cases he2
theorem bytesOf_eq : ∀ r : List (List PV), bytesOf r = (numsOf r).map fun n => UInt8.ofNat n.toNat
  | [] => rfl
  | r :: rs => by simp only [bytesOf, numsOf, List.map_cons]; rw [bytesOf_eq rs]
theorem numsOf_len : ∀ r : List (List PV), (numsOf r).length = r.length
  | [] => rfl
  | r :: rs => by simp [numsOf, numsOf_len rs]
theorem numsOf_get : ∀ (r : List (List PV)) (i : Nat) (row : List PV), r[i]? = some row → (numsOf r).getD i 0 = (getL PV.dft row 0).int
  | [], i, row, h => by simp at h
  | r :: rs, 0, row, h => by simp at h; subst h; rfl
  | r :: rs, i + 1, row, h => by
    have := numsOf_get rs i row (by simpa using h)
    simpa [numsOf] using this
theorem sound_toStr (hT : TabOk P T) (h : Rel G st a w) {s t e' : TypeId} {x : Operand} (ho : o.op = .convert s t x) (ht : isString (T t) = true) (hs : sliceOf (T s) = some e') {p : Cnd} {e : Eff}
    (he : effToStr ⟨st.box, []⟩ (T e') (opnd st.regs x) = some (p, e)) (hp : p.holds) : Runs P o st a G w e := by
  unfold effToStr at he
  split at he
  case h_2 => cases he
  rename_i l hl
  split at he
  case h_2 => cases he
  rename_i sz r hr
  obtain ⟨hb, he⟩ := bif_some he
  obtain ⟨rfl, rfl⟩ := retP_some he
  have hu1 := sliceOf_some hT hs
  have hu2 := isString_true hT ht
  have hu3 : P.underlying e' = some (.int .u8) := by
    unfold isByteTy at hb
    split at hb
    case h_2 => cases hb
    rename_i ti hti
    split at hb
    case h_2 => cases hb
    rename_i hd
    have := (hT e' ti hti).under
    rw [hd] at this
    exact this
  have hx := opnd_rel h x
  rw [hl] at hx
  have hrow := rowsOf_src h hr (one_rel.1 hx).1
  have hB : ByteRows r := hp
  obtain ⟨A, c, hv, hle, hh⟩ := hrow
  refine Runs.pure h (v := .string (strOf r)) ?_ (scal_rel rfl)
  simp only [execOp, ho, hv]
  rcases hh with rfl | ⟨k, off, cur, ty, fr, f, rfl, hk, hrl, hf, hp'⟩
  · cases A with
    | none =>
      rw [Sem.run_bind, run_convert_bytes_nil w s e' hu1 hu3 _ _ t hu2]
      rfl
    | some A =>
      obtain ⟨kb, ko, kp⟩ := A
      rw [Sem.run_bind, run_convert_bytes_string w s t e' _ _ _ hu1 hu3 hu2]
      have : (loadCells ⟨kb, ko, kp⟩ 0).run P w = .ok (([] : List Int).map (Value.int .u8)).toArray w := by
        have := run_loadCells_list (P := P) w ⟨kb, ko, kp⟩ [] (fun j v hj => by simp at hj)
        simpa using this
      rw [show ([] : List (List PV)).length = 0 from rfl, run_bytesToString w _ 0 _ [] this]
      rfl
  · have hsz : r = [] ∨ sz = 1 := by
      cases r with
      | nil => exact .inl rfl
      | cons row r0 =>
        obtain ⟨n, hn⟩ := hB row (List.mem_cons_self ..)
        have := hrl row (List.mem_cons_self ..)
        rw [hn] at this
        exact .inr this.symm
    have := run_convert_bytes_arg (P := P) w s e' hu1 hu3 k off r.length c (numsOf r) (numsOf_len r) (fun i hi => by
      have hri : r[i]? = some r[i] := by simp [hi]
      obtain ⟨n, hn⟩ := hB r[i] (List.getElem_mem hi)
      have hc := hf i r[i] 0 (.val (.int .u8 n)) hri (by rw [hn]; rfl)
      have hsz1 : sz = 1 := by
        rcases hsz with e0 | e0
        · subst e0; simp at hi
        · exact e0
      subst hsz1
      have hval : f i 0 = .int .u8 n := by
        rcases hp' i r[i] 0 (.val (.int .u8 n)) hri (by rw [hn]; rfl) with q | ⟨fps, q⟩
        · exact (rep_val.1 q).1
        · generalize f i 0 = u at q; cases q; rfl
      rw [cell_of hk, numsOf_get r i r[i] hri, hn]
      rw [show off + i = off + i * 1 + 0 from by omega, hc, hval]
      rfl) t hu2
    rw [Sem.run_bind, this]
    unfold strOf strOfNums
    rw [bytesOf_eq]
    rfl
end
end Go.Vm

/-! ### 11. Every plain operation -/
namespace Go.Vm
section
variable {P : Program} {T : TypeId → Option TI} {G : Gh} {w : World} {st : St} {a : Act} {o : Oper}
theorem sound_eff (hT : TabOk P T) (h : Rel G st a w) {p : Cnd} {e : Eff} (he : eff T o (opnd st.regs) st.box = some (p, e)) (hp : p.holds) : Runs P o st a G w e := by
  unfold eff at he
  split at he
  · rename_i x ho; obtain rfl := ret_some he; exact sound_move h (.inl ho) rfl
  · rename_i x ho; exact sound_assign h ho he
  · rename_i c x y ho; exact sound_pick h ho he
  · rename_i t ho; exact sound_alloc hT h ho he
  · rename_i t x ho; exact sound_box hT h ho he
  · rename_i t parts ho; exact sound_build hT h ho he
  · rename_i t n parts ho
    split at he
    case h_2 => cases he
    rename_i e' hs
    exact sound_buildSlice hT h ho hs he
  · rename_i t x ho; exact sound_load hT h ho he hp
  · rename_i t x y ho; exact sound_store hT h ho he hp
  · rename_i x ho; exact sound_nilCheck h ho he
  · rename_i op t x y t' ho
    split at he
    · rename_i b hb; exact sound_err hT h ho hb he
    · exact sound_bin hT h ho he hp
  · rename_i op t x ho; exact sound_un h ho he
  · rename_i s t x ho
    split at he
    · rename_i e' h1 h2; exact sound_toStr hT h ho h1 h2 he hp
    · exact sound_conv hT h ho he
  · rename_i s x f ho; exact sound_fieldAddr hT h ho he
  · rename_i s x f ho; exact sound_field hT h ho he
  · rename_i t x i ho; exact sound_indexAddr hT h ho he hp
  · rename_i t x i ho; exact sound_index hT h ho he hp
  · rename_i t x lo hi ho
    split at he
    · rename_i hs; exact sound_sliceStr hT h ho hs he hp
    · split at he
      case h_2 => cases he
      rename_i e' hs
      exact sound_sliceSl hT h ho hs he hp
  · rename_i x i ho; exact sound_extract h ho he
  · rename_i fn first caps ho; exact sound_makeFunc h ho he
  · rename_i c ho
    split at he
    · rename_i x t hc hx ht; exact sound_len hT h ho hc hx ht he
    · rename_i x0 x1 t t' hc hx ht
      obtain ⟨hb, he⟩ := bif_some he
      split at he
      case h_2 => cases he
      rename_i e' hs
      exact sound_append hT h ho hc hx ht (Nat.eq_of_beq_eq_true hb) hs he hp
    · cases he
  · cases he
end
end Go.Vm
