import Derived.Test.YtdelbjcfgedjpaaDoorVmC
import Derived.Below
import Derived.Lib.LaidTab
import Derived.Lib.ItoaNum
import Derived.Lib.AtoiAll
import Derived.Lib.Join
import Derived.Lib.AtoiErrMem
import Derived.Deep.Draws
import Derived.Sort.Grow
/-! ### 25. Drawn regions: a step as a function -/
namespace Go.Vm
set_option linter.unusedSimpArgs false
set_option linter.unusedVariables false
theorem bindO_bindO {α β γ : Type} (x : Option α) (k : α → Option β) (l : β → Option γ) : bindO (bindO x k) l = bindO x fun a => bindO (k a) l := by cases x <;> rfl
theorem bindO_none {α β : Type} (k : α → Option β) : bindO none k = none := rfl
theorem bindO_chk {α β : Type} (p : Cnd) (x : Option α) (k : α → Option β) : bindO (chkC p x) k = chkC p (bindO x k) := by
  cases p with
  | t => rfl
  | p q => simp only [chkC]; unfold chk; split <;> rfl
section
variable {E : Env} {C : FuncId → List PV → Option (List PV)} {β : Type}
theorem callE_bind {sig : FuncId → Option Sig} {f : FuncId} {rvs : List RV} {dst : Option Tmp} {bx : BX} (K : Eff → Option β) : callE sig C f rvs dst bx K = bindO (callE sig C f rvs dst bx some) K := by
  unfold callE
  cases dst with
  | none => rfl
  | some d =>
    cases hs : sig f with
    | none => rfl
    | some sg =>
      dsimp only
      cases hb : boxesOf (bindL sg.params rvs) 0 (lenL sg.pbox) with
      | none => rfl
      | some bs =>
        dsimp only
        generalize (anyL (fun b => b.beq (.loc d)) bs || !(sameLens sg.pbox sg.rbox)) = c
        cases c with
        | true => rfl
        | false =>
          simp only [cond_false]
          cases hl : boxLs bx bs with
          | none => rfl
          | some ls =>
            dsimp only
            rw [bindO_bindO]
            congr 1
            funext vs
            rw [bindO_bindO]
            rfl
theorem effK_bind {o : Oper} {ρ : Operand → RV} {bx : BX} (K : Eff → Option β) : effK E C o ρ bx K = bindO (effK E C o ρ bx some) K := by
  unfold effK
  split
  · split
    · rename_i v f rvs _
      cases Nat.beq (E.real v) f with
      | false => rfl
      | true =>
        simp only [cond_true]
        cases nilL (callFrz E.sig v rvs) with
        | true => exact callE_bind K
        | false =>
          simp only [cond_false]
          split
          · rename_i v1 f1 rvs1 _
            cases Nat.beq f1 f with
            | false => rfl
            | true =>
              simp only [cond_true]
              rw [callE_bind (fun e => K (frzEff (callFrz E.sig v rvs) (frzAll (callFrz E.sig v rvs) ρ bx).2 e)), callE_bind (fun e => some (frzEff (callFrz E.sig v rvs) (frzAll (callFrz E.sig v rvs) ρ bx).2 e)), bindO_bindO]
              rfl
          · rfl
    · rfl
  · split
    · rw [bindO_chk]; rfl
    · rfl
theorem opD_bind {o : Oper} {st : St} (K : St → List B × List B → Option β) : opD E C o st K = bindO (opD E C o st fun s f => some (s, f)) fun x => K x.1 x.2 := by
  unfold opD
  dsimp only
  cases cleanOps st.regs o.op.operands.toList with
  | false => rfl
  | true =>
    simp only [cond_true]
    rw [effK_bind, effK_bind (β := St × (List B × List B)), bindO_bindO]
    congr 1
    funext e
    cases e.within _ <;> rfl
theorem runOpD_bind {ops : List Oper} {o : Oper} {st : St} (K : St → List B × List B → Option β) : runOpD E C ops o st K = bindO (runOpD E C ops o st fun s f => some (s, f)) fun x => K x.1 x.2 := by
  unfold runOpD
  cases hg : o.guard with
  | none => exact opD_bind K
  | some gw =>
    obtain ⟨g, want⟩ := gw
    dsimp only
    cases ht : guardReg ops g with
    | none => rfl
    | some t =>
      dsimp only
      split
      · rename_i b _
        cases b <;> cases want <;> simp only [cond_true, cond_false] <;> first | exact opD_bind K | rfl
      · rfl
      · rfl
end
end Go.Vm

/-! ### 26. A step of a drawn region is sound -/
namespace Go.Vm
set_option linter.unusedSimpArgs false
set_option linter.unusedVariables false
/-! #### freezing within an effect -/
theorem thawRV_const (b : B) (c sz : Nat) (r : List (List PV)) (rs : List RV) (y : Operand) (hy : ∀ t, y ≠ .tmp t) : thawRV b c sz r (opnd rs y) = opnd rs y := by
  cases y with
  | tmp t => exact absurd rfl (hy t)
  | const v => cases v <;> rfl
  | func f => rfl
  | global g => rfl
theorem frzOne_eq (x : B × Nat) (st : St) : (∀ y, (frzOne x (opnd st.regs) st.box).1 y = opnd (st.freeze x).regs y) ∧ (frzOne x (opnd st.regs) st.box).2 = (st.freeze x).box := by
  unfold frzOne St.freeze
  cases hb : st.box x.1 with
  | none => exact ⟨fun _ => rfl, rfl⟩
  | some ls =>
    dsimp only
    split
    · rename_i e sz d r hc
      refine ⟨fun y => ?_, funext fun b => ?_⟩
      · have hr : (St.setBox ({ st with regs := mapL (thawRV x.1 x.2 sz r) st.regs } : St) (x.1, setL ls x.2 (.pv (.sl sz r)))).regs = mapL (thawRV x.1 x.2 sz r) st.regs := by
          unfold St.setBox; cases x.1 <;> rfl
        rw [hr]
        cases y with
        | tmp t =>
          show thawRV _ _ _ _ (getL .un st.regs t) = getL .un (mapL _ st.regs) t
          have : ∀ (l : List RV) (t : Nat), thawRV x.1 x.2 sz r (getL .un l t) = getL .un (mapL (thawRV x.1 x.2 sz r) l) t := by
            intro l
            induction l with
            | nil => intro t; cases t <;> rfl
            | cons z l ih => intro t; cases t with
              | zero => rfl
              | succ t => exact ih t
          exact this st.regs t
        | const v => cases v <;> rfl
        | func f => rfl
        | global g => rfl
      · show (bif b.beq x.1 then some (setL ls x.2 (.pv (.sl sz r))) else st.box b) = _
        cases hbb : b.beq x.1 with
        | true =>
          have := B.beq_iff.1 hbb
          subst this
          simp only [cond_true]
          obtain ⟨xb, xc⟩ := x
          dsimp only at hb ⊢
          cases xb with
          | par i =>
            show _ = getL none (setL st.pb i _) i
            have hb' : getL none st.pb i = some ls := hb
            have hlt : i < st.pb.length := by
              rw [getL_eq] at hb'
              cases e : st.pb[i]? with
              | none => rw [e] at hb'; cases hb'
              | some z => exact (List.getElem?_eq_some_iff.1 e).1
            rw [getL_setL, if_pos ⟨rfl, hlt⟩]
          | loc i =>
            show _ = getL none (setL st.lb i _) i
            have hb' : getL none st.lb i = some ls := hb
            have hlt : i < st.lb.length := by
              rw [getL_eq] at hb'
              cases e : st.lb[i]? with
              | none => rw [e] at hb'; cases hb'
              | some z => exact (List.getElem?_eq_some_iff.1 e).1
            rw [getL_setL, if_pos ⟨rfl, hlt⟩]
          | tmp => cases hb
        | false =>
          simp only [cond_false]
          have hne := B.beq_false.1 hbb
          have := setBoxes_out (s := ({ st with regs := mapL (thawRV x.1 x.2 sz r) st.regs } : St)) (b := b) [(x.1, setL ls x.2 (.pv (.sl sz r)))] (fun y hy => by
            rw [List.mem_singleton] at hy; subst hy; exact fun e => hne e.symm)
          refine Eq.trans ?_ this.symm
          cases b <;> rfl
    · exact ⟨fun _ => rfl, rfl⟩
theorem frzAll_eq : ∀ (xs : List (B × Nat)) (st : St), (∀ y, (frzAll xs (opnd st.regs) st.box).1 y = opnd (st.freezes xs).regs y) ∧ (frzAll xs (opnd st.regs) st.box).2 = (st.freezes xs).box
  | [], st => ⟨fun _ => rfl, rfl⟩
  | x :: r, st => by
    obtain ⟨h1, h2⟩ := frzOne_eq x st
    have h1' : (frzOne x (opnd st.regs) st.box).1 = opnd (st.freeze x).regs := funext h1
    show (∀ y, (frzAll r (frzOne x (opnd st.regs) st.box).1 (frzOne x (opnd st.regs) st.box).2).1 y = _) ∧ (frzAll r (frzOne x (opnd st.regs) st.box).1 (frzOne x (opnd st.regs) st.box).2).2 = _
    rw [h1', h2]
    exact frzAll_eq r (st.freeze x)
theorem freeze_len (st : St) (x : B × Nat) : (st.freeze x).pb.length = st.pb.length ∧ (st.freeze x).lb.length = st.lb.length := by
  unfold St.freeze
  split
  · split
    · unfold St.setBox
      cases x.1 with
      | par i => dsimp only; rw [setL_eq, List.length_set]; exact ⟨rfl, rfl⟩
      | loc i => dsimp only; rw [setL_eq, List.length_set]; exact ⟨rfl, rfl⟩
      | tmp => exact ⟨rfl, rfl⟩
    · exact ⟨rfl, rfl⟩
  · exact ⟨rfl, rfl⟩
theorem freezes_len : ∀ (xs : List (B × Nat)) (st : St), (st.freezes xs).pb.length = st.pb.length ∧ (st.freezes xs).lb.length = st.lb.length
  | [], st => ⟨rfl, rfl⟩
  | x :: r, st => by
    obtain ⟨h1, h2⟩ := freeze_len st x
    obtain ⟨h3, h4⟩ := freezes_len r (st.freeze x)
    exact ⟨h3.trans h1, h4.trans h2⟩
theorem freeze_out (st : St) (x : B × Nat) {b : B} (h : b ≠ x.1) : (st.freeze x).box b = st.box b := by
  have := (frzOne_eq x st).2
  rw [← this]
  unfold frzOne
  split
  · split
    · show (bif b.beq x.1 then _ else _) = _
      rw [B.beq_false.2 h]; rfl
    · rfl
  · rfl
theorem freezes_out : ∀ (xs : List (B × Nat)) (st : St) {b : B}, (∀ x, x ∈ xs → b ≠ x.1) → (st.freezes xs).box b = st.box b
  | [], st, b, _ => rfl
  | x :: r, st, b, h => by
    show ((st.freeze x).freezes r).box b = _
    rw [freezes_out r (st.freeze x) fun y hy => h y (List.mem_cons_of_mem _ hy), freeze_out st x (h x (List.mem_cons_self ..))]
theorem freeze_some (st : St) (x : B × Nat) (b : B) : ((st.freeze x).box b).isSome = (st.box b).isSome := by
  have := (frzOne_eq x st).2
  rw [← this]
  unfold frzOne
  split
  · rename_i ls hls
    split
    · show (bif b.beq x.1 then _ else _ : Option (List Lf)).isSome = _
      cases hb : b.beq x.1 with
      | true => rw [B.beq_iff.1 hb, hls]; rfl
      | false => rfl
    · rfl
  · rfl
theorem freezes_some : ∀ (xs : List (B × Nat)) (st : St) (b : B), ((st.freezes xs).box b).isSome = (st.box b).isSome
  | [], st, b => rfl
  | x :: r, st, b => (freezes_some r (st.freeze x) b).trans (freeze_some st x b)
theorem setBoxes_in : ∀ (wr : List (B × List Lf)) (s : St) (b : B) (f : B → List Lf), (∀ y, y ∈ wr → y.2 = f y.1) → (∃ y, y ∈ wr ∧ y.1 = b) → (s.box b).isSome = true → (s.setBoxes wr).box b = some (f b)
  | [], s, b, f, _, h, _ => by obtain ⟨y, hy, _⟩ := h; cases hy
  | y :: r, s, b, f, hf, h, hs => by
    have hlen : ∀ (wr : List (B × List Lf)) (s : St), (s.setBoxes wr).pb.length = s.pb.length ∧ (s.setBoxes wr).lb.length = s.lb.length := by
      intro wr
      induction wr with
      | nil => intro s; exact ⟨rfl, rfl⟩
      | cons x r ih =>
        intro s
        show (St.setBox _ x).pb.length = _ ∧ (St.setBox _ x).lb.length = _
        unfold St.setBox
        cases x.1 with
        | par i => dsimp only; rw [setL_eq, List.length_set]; exact ih s
        | loc i => dsimp only; rw [setL_eq, List.length_set]; exact ih s
        | tmp => exact ih s
    show ((s.setBoxes r).setBox y).box b = _
    by_cases hyb : y.1 = b
    · obtain ⟨yb, yl⟩ := y
      dsimp only at hyb
      subst hyb
      have hl := hf (yb, yl) (List.mem_cons_self ..)
      dsimp only at hl
      subst hl
      cases yb with
      | par i =>
        show getL none (setL (s.setBoxes r).pb i (some _)) i = _
        have hlt : i < (s.setBoxes r).pb.length := by
          rw [(hlen r s).1]
          have hs' : (getL none s.pb i).isSome = true := hs
          rw [getL_eq] at hs'
          cases e : s.pb[i]? with
          | none => rw [e] at hs'; cases hs'
          | some z => exact (List.getElem?_eq_some_iff.1 e).1
        rw [getL_setL, if_pos ⟨rfl, hlt⟩]
      | loc i =>
        show getL none (setL (s.setBoxes r).lb i (some _)) i = _
        have hlt : i < (s.setBoxes r).lb.length := by
          rw [(hlen r s).2]
          have hs' : (getL none s.lb i).isSome = true := hs
          rw [getL_eq] at hs'
          cases e : s.lb[i]? with
          | none => rw [e] at hs'; cases hs'
          | some z => exact (List.getElem?_eq_some_iff.1 e).1
        rw [getL_setL, if_pos ⟨rfl, hlt⟩]
      | tmp => cases hs
    · have h' : ∃ y, y ∈ r ∧ y.1 = b := by
        obtain ⟨z, hz, hzb⟩ := h
        rcases List.mem_cons.1 hz with rfl | hz
        · exact absurd hzb hyb
        · exact ⟨z, hz, hzb⟩
      have ih := setBoxes_in r s b f (fun z hz => hf z (List.mem_cons_of_mem _ hz)) h' hs
      rw [← ih]
      have := setBoxes_out (s := s.setBoxes r) (b := b) [y] (fun z hz => by rw [List.mem_singleton] at hz; subst hz; exact hyb)
      exact this
theorem freezes_boxes (xs : List (B × Nat)) (st : St) : (st.freezes xs).pb.length = st.pb.length ∧ (st.freezes xs).lb.length = st.lb.length ∧ ∀ b, (st.setBoxes (frzWr (st.freezes xs).box xs)).box b = (st.freezes xs).box b := by
  obtain ⟨h1, h2⟩ := freezes_len xs st
  refine ⟨h1, h2, fun b => ?_⟩
  have hmem : ∀ (ys : List (B × Nat)) (y : B × List Lf), y ∈ frzWr (st.freezes xs).box ys → (st.freezes xs).box y.1 = some y.2 ∧ ∃ x, x ∈ ys ∧ x.1 = y.1 := by
    intro ys
    induction ys with
    | nil => intro y hy; cases hy
    | cons x r ih =>
      intro y hy
      unfold frzWr at hy
      split at hy
      · rename_i ls hls
        rcases List.mem_cons.1 hy with rfl | hy
        · exact ⟨hls, x, List.mem_cons_self .., rfl⟩
        · obtain ⟨g1, z, g2, g3⟩ := ih y hy; exact ⟨g1, z, List.mem_cons_of_mem _ g2, g3⟩
      · obtain ⟨g1, z, g2, g3⟩ := ih y hy; exact ⟨g1, z, List.mem_cons_of_mem _ g2, g3⟩
  by_cases hb : ∃ y, y ∈ frzWr (st.freezes xs).box xs ∧ y.1 = b
  · obtain ⟨y, hy, hyb⟩ := hb
    obtain ⟨g1, _⟩ := hmem xs y hy
    rw [hyb] at g1
    have hs : (st.box b).isSome = true := by rw [← freezes_some xs st b, g1]; rfl
    rw [setBoxes_in _ st b (fun c => ((st.freezes xs).box c).getD []) (fun z hz => by rw [(hmem xs z hz).1]; rfl) ⟨y, hy, hyb⟩ hs, g1]
    rfl
  · rw [setBoxes_out _ (fun y hy e => hb ⟨y, hy, e⟩)]
    by_cases hx : ∃ x, x ∈ xs ∧ x.1 = b
    · -- nothing stands there
      obtain ⟨x, hx, hxb⟩ := hx
      have hnone : (st.freezes xs).box b = none := by
        cases e : (st.freezes xs).box b with
        | none => rfl
        | some ls =>
          exfalso
          apply hb
          have : ∀ ys : List (B × Nat), x ∈ ys → (x.1, ls) ∈ frzWr (st.freezes xs).box ys := by
            intro ys
            induction ys with
            | nil => intro h; cases h
            | cons z r ih =>
              intro h
              unfold frzWr
              rcases List.mem_cons.1 h with rfl | h
              · rw [hxb, e]; exact List.mem_cons_self ..
              · split
                · exact List.mem_cons_of_mem _ (ih h)
                · exact ih h
          exact ⟨_, this xs hx, hxb⟩
      have := freezes_some xs st b
      rw [hnone] at this ⊢
      cases e : st.box b with
      | none => rfl
      | some ls => rw [e] at this; cases this
    · exact (freezes_out xs st fun x hx' e => hx ⟨x, hx', e.symm⟩).symm
/-- A leaf that tells no more. -/
def WkL (l' l : Lf) : Prop := l' = l ∨ l' = .un
def WkRV (r' r : RV) : Prop :=
  r' = .un ∨ (∃ a ls' ls, r' = .v a ls' ∧ r = .v a ls ∧ All2 WkL ls' ls) ∨ (∃ cs' cs, r' = .tup cs' ∧ r = .tup cs ∧ All2 (fun (x' x : Bool × List Lf) => x'.1 = x.1 ∧ All2 WkL x'.2 x.2) cs' cs)
theorem wk_c {G : Gh} {w : World} {a : Bool} {ls' ls : List Lf} {v : Value} (hw : All2 WkL ls' ls) (h : RelC G w (a, ls) v) : RelC G w (a, ls') v := by
  have hl : ∀ {l' l : Lf} {u : Value}, WkL l' l → RelLf G w l u → RelLf G w l' u := by
    rintro l' l u (rfl | rfl) h
    · exact h
    · trivial
  cases a with
  | true =>
    obtain ⟨vs, hv, ha⟩ := h
    refine ⟨vs, hv, ?_⟩
    clear hv
    dsimp only at ha ⊢
    induction hw generalizing vs with
    | nil => cases ha; exact .nil
    | cons h0 t ih => cases ha with | cons h1 t1 => exact .cons ⟨hl h0 h1.1, h1.2⟩ (ih _ t1)
  | false =>
    obtain ⟨l, h1, h2, h3⟩ := h
    dsimp only at h1
    subst h1
    cases hw with
    | cons h0 t => cases t; exact ⟨_, rfl, hl h0 h2, h3⟩
theorem wk_rv {G : Gh} {w : World} {r' r : RV} {v : Value} (hw : WkRV r' r) (h : RelRV G w r v) : RelRV G w r' v := by
  rcases hw with rfl | ⟨a, ls', ls, rfl, rfl, hw⟩ | ⟨cs', cs, rfl, rfl, hw⟩
  · trivial
  · exact wk_c hw h
  · obtain ⟨vs, hv, ha⟩ := h
    refine ⟨vs, hv, ?_⟩
    clear hv
    induction hw generalizing vs with
    | nil => cases ha; exact .nil
    | @cons x' x _ _ h0 t ih =>
      cases ha with
      | cons h1 t1 =>
        obtain ⟨a', l'⟩ := x'
        obtain ⟨a1, l1⟩ := x
        obtain ⟨e, h0⟩ := h0
        dsimp only at e
        subst e
        exact .cons (wk_c h0 h1) (ih _ t1)
theorem rel_weak {G : Gh} {w : World} {st st' : St} {a : Act} (h : Rel G st a w) (hl : st'.regs.length = st.regs.length) (hr : ∀ t, WkRV (getL .un st'.regs t) (getL .un st.regs t)) (hb : ∀ b ls, st'.box b = some ls → st.box b = some ls) : Rel G st' a w :=
  ⟨hl.trans h.len, fun t => wk_rv (hr t) (h.regs t), fun b ls hbx => h.box b ls (hb b ls hbx), h.lt, h.Slt, h.Sown, h.notmp, h.defers⟩
theorem wkL_refl (ls : List Lf) : All2 WkL ls ls := All2.of rfl fun i x y h1 h2 => by rw [h1] at h2; cases h2; exact .inl rfl
theorem wkRV_refl (r : RV) : WkRV r r := by
  cases r with
  | un => exact .inl rfl
  | v a ls => exact .inr (.inl ⟨a, ls, ls, rfl, rfl, wkL_refl ls⟩)
  | tup cs => exact .inr (.inr ⟨cs, cs, rfl, rfl, All2.of rfl fun i x y h1 h2 => by rw [h1] at h2; cases h2; exact ⟨rfl, wkL_refl _⟩⟩)
/-- What thawing does to all the leaves of a state, one freeze after another. -/
theorem thawLf_kill {b : B} {c sz : Nat} {r : List (List PV)} {l : Lf} (h : l.hits (b, some c) = false) : thawLf b c sz r l = l := by
  have hb : ∀ {b' : B} {c' : Nat}, B.hit b (some c) b' c' = false → (b.beq b' && Nat.beq c c') = false := fun h => h
  cases l with
  | hd b' c' => simp only [thawLf]; rw [hb h]; rfl
  | tk b' c' n => simp only [thawLf]; rw [hb h]; rfl
  | vw b' c' s lo hi => simp only [thawLf]; rw [hb h]; rfl
  | un => unfold thawLf; rfl
  | pv p => unfold thawLf; rfl
  | own _ _ _ _ => unfold thawLf; rfl
  | ptr q => simp only [thawLf]; rw [h]; rfl
  | fn f caps => simp only [thawLf]; rw [h]; rfl
theorem killLf_app (X k : List (B × Option Nat)) (l : Lf) : killLf (X ++ k) l = killLf X l ∧ killLf X l = .un ∨ killLf (X ++ k) l = killLf k l ∧ killLf X l = l := by
  unfold killLf
  have : anyL (fun x => l.hits x) (X ++ k) = (anyL (fun x => l.hits x) X || anyL (fun x => l.hits x) k) := by rw [anyL_eq, anyL_eq, anyL_eq, List.any_append]
  rw [this]
  cases anyL (fun x => l.hits x) X with
  | true => left; exact ⟨rfl, rfl⟩
  | false => right; exact ⟨rfl, rfl⟩
theorem freeze_regs (st : St) (x : B × Nat) : (st.freeze x).regs = st.regs ∨ ∃ sz r, (st.freeze x).regs = mapL (thawRV x.1 x.2 sz r) st.regs := by
  unfold St.freeze
  split
  · split
    · rename_i e sz d r hc
      right
      refine ⟨sz, r, ?_⟩
      unfold St.setBox; cases x.1 <;> rfl
    · exact .inl rfl
  · exact .inl rfl
/-- A register behind some freezes: each leaf that none of them hits stays. -/
def SameOut (xs : List (B × Nat)) (l l' : Lf) : Prop := (∀ x, x ∈ xs → l.hits (x.1, some x.2) = false) → l' = l
def SameRV (xs : List (B × Nat)) (r r' : RV) : Prop :=
  (r = .un ∧ r' = .un) ∨ (∃ a ls ls', r = .v a ls ∧ r' = .v a ls' ∧ All2 (SameOut xs) ls ls') ∨ (∃ cs cs', r = .tup cs ∧ r' = .tup cs' ∧ All2 (fun (x x' : Bool × List Lf) => x'.1 = x.1 ∧ All2 (SameOut xs) x.2 x'.2) cs cs')
theorem sameL_thaw {xs : List (B × Nat)} {x : B × Nat} (hx : x ∈ xs) {sz : Nat} {row : List (List PV)} {ls ls' : List Lf} (h : All2 (SameOut xs) ls ls') : All2 (SameOut xs) ls (mapL (thawLf x.1 x.2 sz row) ls') := by
  rw [mapL_eq]
  induction h with
  | nil => exact .nil
  | cons h0 t ih =>
    refine .cons (fun hh => ?_) ih
    rw [h0 hh]
    exact thawLf_kill (hh x hx)
theorem sameRV_thaw {xs : List (B × Nat)} {x : B × Nat} (hx : x ∈ xs) {sz : Nat} {row : List (List PV)} {r r' : RV} (h : SameRV xs r r') : SameRV xs r (thawRV x.1 x.2 sz row r') := by
  rcases h with ⟨rfl, rfl⟩ | ⟨a, ls, ls', rfl, rfl, h⟩ | ⟨cs, cs', rfl, rfl, h⟩
  · exact .inl ⟨rfl, rfl⟩
  · exact .inr (.inl ⟨a, ls, _, rfl, rfl, sameL_thaw hx h⟩)
  · refine .inr (.inr ⟨cs, _, rfl, rfl, ?_⟩)
    rw [mapL_eq]
    induction h with
    | nil => exact .nil
    | cons h0 t ih => exact .cons ⟨h0.1, sameL_thaw hx h0.2⟩ ih
theorem sameRV_refl (xs : List (B × Nat)) (r : RV) : SameRV xs r r := by
  have hl : ∀ ls : List Lf, All2 (SameOut xs) ls ls := fun ls => All2.of rfl fun i x y h1 h2 => by rw [h1] at h2; cases h2; exact fun _ => rfl
  cases r with
  | un => exact .inl ⟨rfl, rfl⟩
  | v a ls => exact .inr (.inl ⟨a, ls, ls, rfl, rfl, hl ls⟩)
  | tup cs => exact .inr (.inr ⟨cs, cs, rfl, rfl, All2.of rfl fun i x y h1 h2 => by rw [h1] at h2; cases h2; exact ⟨rfl, hl _⟩⟩)
theorem getL_mapL_un (f : RV → RV) (hf : f .un = .un) : ∀ (l : List RV) (t : Nat), getL .un (mapL f l) t = f (getL .un l t)
  | [], t => by cases t <;> exact hf.symm
  | x :: l, 0 => rfl
  | x :: l, t + 1 => getL_mapL_un f hf l t
theorem freezes_same (xs0 : List (B × Nat)) : ∀ (xs : List (B × Nat)) (st st0 : St), (∀ x, x ∈ xs → x ∈ xs0) → st.regs.length = st0.regs.length → (∀ t, SameRV xs0 (getL .un st0.regs t) (getL .un st.regs t)) →
    (st.freezes xs).regs.length = st0.regs.length ∧ ∀ t, SameRV xs0 (getL .un st0.regs t) (getL .un (st.freezes xs).regs t)
  | [], st, st0, _, hl, h => ⟨hl, h⟩
  | x :: r, st, st0, hs, hl, h => by
    refine freezes_same xs0 r (st.freeze x) st0 (fun y hy => hs y (List.mem_cons_of_mem _ hy)) ?_ (fun t => ?_)
    · rcases freeze_regs st x with e | ⟨sz, row, e⟩
      · rw [e]; exact hl
      · rw [e, mapL_eq, List.length_map]; exact hl
    · rcases freeze_regs st x with e | ⟨sz, row, e⟩
      · rw [e]; exact h t
      · rw [e, getL_mapL_un _ rfl]; exact sameRV_thaw (hs x (List.mem_cons_self ..)) (h t)
theorem wk_kill {xs : List (B × Nat)} {k : List (B × Option Nat)} {ls ls' : List Lf} (h : All2 (SameOut xs) ls ls') : All2 WkL (mapL (killLf (mapL (fun x => (x.1, some x.2)) xs ++ k)) ls) (mapL (killLf k) ls') := by
  rw [mapL_eq (killLf (mapL (fun (x : B × Nat) => (x.1, some x.2)) xs ++ k)) ls, mapL_eq (killLf k) ls']
  induction h with
  | nil => exact .nil
  | @cons l l' _ _ h0 t ih =>
    refine .cons ?_ ih
    rcases killLf_app (mapL (fun x => (x.1, some x.2)) xs) k l with ⟨e1, e2⟩ | ⟨e1, e2⟩
    · right; rw [e1, e2]
    · by_cases hu : l = .un
      · right
        rw [e1, hu]; unfold killLf; cases anyL (fun x => Lf.un.hits x) k <;> rfl
      · left
        rw [e1]
        have : l' = l := h0 fun x hx => by
          unfold killLf at e2
          cases ha : anyL (fun x => l.hits x) (mapL (fun x => (x.1, some x.2)) xs) with
          | true => rw [ha] at e2; exact absurd e2.symm hu
          | false => exact any_false ha _ (by rw [mapL_eq]; exact List.mem_map.2 ⟨x, hx, rfl⟩)
        rw [this]
theorem wk_killRV {xs : List (B × Nat)} {k : List (B × Option Nat)} {r r' : RV} (h : SameRV xs r r') : WkRV (killRV (mapL (fun x => (x.1, some x.2)) xs ++ k) r) (killRV k r') := by
  rcases h with ⟨rfl, rfl⟩ | ⟨a, ls, ls', rfl, rfl, h⟩ | ⟨cs, cs', rfl, rfl, h⟩
  · exact .inl rfl
  · exact .inr (.inl ⟨a, _, _, rfl, rfl, wk_kill h⟩)
  · refine .inr (.inr ⟨_, _, rfl, rfl, ?_⟩)
    rw [mapL_eq _ cs, mapL_eq _ cs']
    induction h with
    | nil => exact .nil
    | cons h0 t ih => exact .cons ⟨h0.1.symm, wk_kill h0.2⟩ ih
theorem setBoxes_app (s : St) : ∀ (u v : List (B × List Lf)), s.setBoxes (u ++ v) = (s.setBoxes v).setBoxes u
  | [], v => rfl
  | x :: u, v => by show (s.setBoxes (u ++ v)).setBox x = ((s.setBoxes v).setBoxes u).setBox x; rw [setBoxes_app s u v]
theorem frz_rel {G : Gh} {w : World} {st : St} {a : Act} (xs : List (B × Nat)) {d : Option Tmp} {e : Eff} (h : Rel G ((st.freezes xs).apply d e) a w) : Rel G (st.apply d (frzEff xs (st.freezes xs).box e)) a w := by
  obtain ⟨hl, hs⟩ := freezes_same xs xs st st (fun _ h => h) rfl fun t => sameRV_refl xs _
  have hregs : ∀ (s : St) (k : List (B × Option Nat)), (s.killed k).regs.length = s.regs.length := killed_len
  refine rel_weak h ?_ (fun t => ?_) (fun b ls hb => ?_)
  · rw [apply_regs, apply_regs]
    cases d with
    | none => dsimp only; rw [hregs, hregs, hl]
    | some t => dsimp only; rw [setL_eq, setL_eq, List.length_set, List.length_set, hregs, hregs, hl]
  · have hk : ∀ t, WkRV (getL .un (st.killed (frzEff xs (st.freezes xs).box e).kill).regs t) (getL .un ((st.freezes xs).killed e.kill).regs t) := by
      intro t
      have hm : ∀ (s : St) (k : List (B × Option Nat)) (t : Nat), getL .un (s.killed k).regs t = killRV k (getL .un s.regs t) := by
        intro s k t
        cases k with
        | nil =>
          have e : ∀ r : RV, killRV [] r = r := by
            intro r
            have el : ∀ ls : List Lf, mapL (killLf []) ls = ls := fun ls => by induction ls <;> simp_all [mapL, killLf, anyL]
            cases r with
            | un => rfl
            | v a ls => simp [killRV, el]
            | tup cs => simp only [killRV, el, RV.tup.injEq]; induction cs <;> simp_all [mapL]
          rw [e]; rfl
        | cons y k => exact getL_mapL_un _ rfl s.regs t
      rw [hm, hm]
      exact wk_killRV (hs t)
    rw [apply_regs, apply_regs]
    cases d with
    | none => exact hk t
    | some t0 =>
      dsimp only
      rw [getL_setL, getL_setL, hregs, hregs, hl]
      by_cases hc : t0 = t ∧ t0 < st.regs.length
      · rw [if_pos hc, if_pos hc]; exact wkRV_refl _
      · rw [if_neg hc, if_neg hc]; exact hk t
  · -- the boxes
    have key : ∀ (s : St) (k : List (B × Option Nat)) (wr : List (B × List Lf)) (d : Option Tmp) (v : RV) (b : B), (((s.killed k).setBoxes wr).put d v).box b = (s.setBoxes wr).box b := by
      intro s k wr d v b
      have h1 : (s.killed k).pb = s.pb ∧ (s.killed k).lb = s.lb := by cases k <;> exact ⟨rfl, rfl⟩
      have h2 := setBoxes_agree (s := s.killed k) (s' := s) (b := b) (by cases b <;> simp only [St.box] <;> first | rfl | rw [h1.1] | rw [h1.2]) (by rw [h1.1]) (by rw [h1.2]) wr
      rw [← h2.1]
      cases d <;> cases b <;> rfl
    unfold St.apply at hb ⊢
    rw [key] at hb ⊢
    show (st.freezes xs |>.setBoxes e.wr).box b = some ls
    have hb2 : (st.setBoxes (e.wr ++ frzWr (st.freezes xs).box xs)).box b = some ls := hb
    rw [setBoxes_app] at hb2
    -- the frozen boxes are those of the frozen state
    have hfz : ∀ (s : St) (b : B), s.pb.length = (st.freezes xs).pb.length → s.lb.length = (st.freezes xs).lb.length → (∀ c, (s.setBoxes (frzWr (st.freezes xs).box xs)).box c = (st.freezes xs).box c) → ((s.setBoxes (frzWr (st.freezes xs).box xs)).setBoxes e.wr).box b = ((st.freezes xs).setBoxes e.wr).box b := by
      intro s b h1 h2 h3
      have hlen : ∀ (wr : List (B × List Lf)) (s : St), (s.setBoxes wr).pb.length = s.pb.length ∧ (s.setBoxes wr).lb.length = s.lb.length := by
        intro wr
        induction wr with
        | nil => intro s; exact ⟨rfl, rfl⟩
        | cons x r ih =>
          intro s
          show (St.setBox _ x).pb.length = _ ∧ (St.setBox _ x).lb.length = _
          unfold St.setBox
          cases x.1 with
          | par i => dsimp only; rw [setL_eq, List.length_set]; exact ih s
          | loc i => dsimp only; rw [setL_eq, List.length_set]; exact ih s
          | tmp => exact ih s
      exact (setBoxes_agree (h3 b) ((hlen _ s).1.trans h1) ((hlen _ s).2.trans h2) e.wr).1
    obtain ⟨g1, g2, g3⟩ := freezes_boxes xs st
    rw [hfz st b g1.symm g2.symm g3] at hb2
    exact hb2
section
variable {P : Program} {W0 : World} {E : Env} {C : FuncId → List PV → Option (List PV)}
theorem effK_sound {β : Type} (hT : TabOk P E.T) (hC : ∀ f sg vs out, E.sig f = some sg → C f vs = some out → Sat P W0 sg (E.real f) vs out) {G : Gh} {w : World} {st : St} {a : Act} {o : Oper} (hB : Base W0 G w) (h : Rel G st a w) {K : Eff → Option β} {b : β}
    (he : effK E C o (opnd st.regs) st.box K = some b) : ∃ e, K e = some b ∧ ∀ (next : Act → World → Prop) (Q : Exit → Act → World → Prop), (∀ G1 w' v, Fr G w G1 w' → Rel G1 (st.apply o.dst e) (a.put o.dst v) w' → next (a.put o.dst v) w') → o.wp P a w next Q := by
  unfold effK at he
  split at he
  · rename_i x args tys ho
    split at he
    case h_2 => cases he
    rename_i v f rvs hf
    obtain ⟨hre, he⟩ := bif_some he
    have hre := Nat.eq_of_beq_eq_true hre
    have fin : ∀ {e : Eff} {vs : List Value}, K e = some b → a.eval x = .func (.func f) #[] vs.toArray → (Enters P (E.real v) (args.toList.map a.eval ++ vs).toArray w fun v w' => ∃ G', Fr G w G' w' ∧ Rel G' (st.apply o.dst e) (a.put o.dst v) w') →
        ∃ e, K e = some b ∧ ∀ (next : Act → World → Prop) (Q : Exit → Act → World → Prop), (∀ G1 w' v, Fr G w G1 w' → Rel G1 (st.apply o.dst e) (a.put o.dst v) w' → next (a.put o.dst v) w') → o.wp P a w next Q := by
      intro e vs hk hv hent
      rw [hre] at hent
      have ea : (args.toList.map a.eval ++ vs).toArray = (args.toList.map a.eval).toArray ++ vs.toArray := by simp
      rw [ea] at hent
      refine ⟨e, hk, fun next Q hn => ?_⟩
      unfold Oper.wp
      rw [invoke_run ho hv]
      rcases hent with ⟨h1, h2⟩ | ⟨v, w', h1, G', h2, h3⟩
      · rw [h1, Oper.upon_enter]
        refine h2.mono fun e w' he' => ?_
        obtain ⟨v, rfl, G', h3, h4⟩ := he'
        exact hn G' w' v h3 h4
      · rw [h1, Oper.upon_value]
        exact hn G' w' v h2 h3
    cases hnl : nilL (callFrz E.sig v rvs) with
    | true =>
      rw [hnl] at he
      obtain ⟨caps, hx, rfl⟩ := callF_some hf
      have hxr := opnd_rel h x
      rw [hx] at hxr
      obtain ⟨vs, hv, ha⟩ := (one_rel.1 hxr).1
      obtain ⟨e, hk, hent⟩ := callE_sound hC hB h (callArgs_rel h args.toList ha) he
      exact fin hk hv hent
    | false =>
      rw [hnl] at he
      simp only [cond_false] at he
      generalize callFrz E.sig v rvs = xs at he
      obtain ⟨q1, q2⟩ := frzAll_eq xs st
      have q1' : (frzAll xs (opnd st.regs) st.box).1 = opnd (st.freezes xs).regs := funext q1
      rw [q1', q2] at he
      obtain ⟨G1, h1, f1⟩ := freezes_rel xs h
      split at he
      case h_2 => cases he
      rename_i v1 f' rvs1 hf1
      obtain ⟨hff, he2⟩ := bif_some he
      have hff := Nat.eq_of_beq_eq_true hff
      subst hff
      obtain ⟨caps, hx, rfl⟩ := callF_some hf1
      have hxr := opnd_rel h1 x
      rw [hx] at hxr
      obtain ⟨vs, hv, ha⟩ := (one_rel.1 hxr).1
      obtain ⟨e, hk, hent⟩ := callE_sound hC (hB.rel h f1) h1 (callArgs_rel h1 args.toList ha) he2
      refine fin hk hv ?_
      rcases hent with ⟨p1, p2⟩ | ⟨v, w', p1, G', p2, p3⟩
      · exact .inl ⟨p1, p2.mono fun e' w' ⟨v, he', G', p3, p4⟩ => ⟨v, he', G', f1.trans p3, frz_rel xs p4⟩⟩
      · exact .inr ⟨v, w', p1, G', f1.trans p2, frz_rel xs p3⟩
  · split at he
    case h_2 => cases he
    rename_i p e hef
    obtain ⟨hp, hk⟩ := chkC_some he
    refine ⟨e, hk, fun next Q hn => ?_⟩
    obtain ⟨G', w', hf, hr⟩ := sound_eff hT h hef hp
    unfold Oper.wp
    rcases hr with ⟨v, hr, hrel⟩ | ⟨hr, hrel⟩
    · rw [hr, Oper.upon_value]; exact hn G' w' v hf hrel
    · rw [hr, Oper.upon_skip]; exact hn G' w' undef hf hrel
theorem only_base {G : Gh} {w : World} {F : List B} (hB : Base W0 G w) : Base W0 (G.onlyG F) w := ⟨hB.S, hB.heap⟩
theorem opD_sound {β : Type} (hT : TabOk P E.T) (hC : ∀ f sg vs out, E.sig f = some sg → C f vs = some out → Sat P W0 sg (E.real f) vs out) {G : Gh} {w : World} {st : St} {a : Act} {o : Oper} (hB : Base W0 G w) (h : Rel G st a w) {K : St → List B × List B → Option β} {b : β}
    (he : opD E C o st K = some b) : ∃ st' f, K st' f = some b ∧ ∀ (next : Act → World → Prop) (Q : Exit → Act → World → Prop), (∀ G1 w' v, Fr G w G1 w' → Rel G1 st' (a.put o.dst v) w' → next (a.put o.dst v) w') → o.wp P a w next Q := by
  unfold opD at he
  dsimp only at he
  obtain ⟨_, he⟩ := bif_some he
  generalize hF : (footOps st.regs o.op.operands.toList ++ _) = F at he
  have h0 := only_rel h F
  rw [← only_box] at he
  obtain ⟨e, hk, hw⟩ := effK_sound hT hC (only_base hB) h0 he
  obtain ⟨hin, hk⟩ := bif_some hk
  refine ⟨_, _, hk, fun next Q hn => hw next Q fun G1 w' v f1 r1 => ?_⟩
  obtain ⟨G2, f2, r2⟩ := frame_step h hin f1 r1
  exact hn G2 w' v f2 r2
theorem runOpD_sound {β : Type} (hT : TabOk P E.T) (hC : ∀ f sg vs out, E.sig f = some sg → C f vs = some out → Sat P W0 sg (E.real f) vs out) {G : Gh} {w : World} {st : St} {a : Act} {o : Oper} {ops : Array Oper} {i : Nat} (hi : ops[i]? = some o) (hB : Base W0 G w) (h : Rel G st a w) {K : St → List B × List B → Option β} {b : β} {Q : Exit → Act → World → Prop}
    (he : runOpD E C ops.toList o st K = some b) : ∃ st' f, K st' f = some b ∧ ∀ next : Act → World → Prop, (∀ G1 w' a', Fr G w G1 w' → Rel G1 st' a' w' → a'.tmps.size = a.tmps.size → next a' w') → wpOp P ops Q i next a w := by
  have run : ∀ {st1 : St}, Rel G st1 a w → opD E C o st1 K = some b → ∃ st' f, K st' f = some b ∧ ∀ next : Act → World → Prop, (∀ G1 w' a', Fr G w G1 w' → Rel G1 st' a' w' → a'.tmps.size = a.tmps.size → next a' w') → o.wp P a w next Q := by
    intro st1 h1 he
    obtain ⟨st', f, hk, hw⟩ := opD_sound hT hC hB h1 he
    exact ⟨st', f, hk, fun next hn => hw next Q fun G1 w' v f1 r1 => hn G1 w' _ f1 r1 (put_size ..)⟩
  have skip : ∀ {st1 : St}, Rel G st1 a w → K (st1.put o.dst (.tup [])) ([], []) = some b → ∃ st' f, K st' f = some b ∧ ∀ next : Act → World → Prop, (∀ G1 w' a', Fr G w G1 w' → Rel G1 st' a' w' → a'.tmps.size = a.tmps.size → next a' w') → next (a.put o.dst undef) w :=
    fun h1 hk => ⟨_, _, hk, fun next hn => hn G w _ (Fr.refl G w) (h1.put o.dst tup_undef) (put_size ..)⟩
  unfold wpOp
  rw [hi]
  dsimp only
  unfold runOpD at he
  split at he
  · rename_i hg
    have hw : Region.wanted o (yielded ops a.tmps) = true := by unfold Region.wanted; rw [hg]
    obtain ⟨st', f, hk, hn⟩ := run h he
    exact ⟨st', f, hk, fun next h' => by rw [if_pos hw]; exact .inl (hn next h')⟩
  · rename_i g want hg
    split at he
    case h_1 => cases he
    rename_i t ht
    have hgr := guardReg_some ht
    have hw : ∀ y, yielded ops a.tmps g = y → Region.wanted o (yielded ops a.tmps) = (y == some want) := by
      intro y hy; unfold Region.wanted; rw [hg]; dsimp only; rw [hy]
    have hreg := h.regs t
    split at he
    · rename_i bb hb
      rw [hb] at hreg
      have hv := (rep_val.1 (one_rel.1 hreg).1).1
      have hy := hw _ (yielded_bool hgr hv)
      rw [hy]
      have hs := same_reg h hb
      cases bb <;> cases want <;> simp only [cond_true, cond_false] at he
      · obtain ⟨st', f, hk, hn⟩ := run hs he
        exact ⟨st', f, hk, fun next h' => by rw [if_pos (by decide)]; exact .inl (hn next h')⟩
      · obtain ⟨st', f, hk, hn⟩ := skip hs he
        exact ⟨st', f, hk, fun next h' => by rw [if_neg (by decide)]; exact hn next h'⟩
      · obtain ⟨st', f, hk, hn⟩ := skip hs he
        exact ⟨st', f, hk, fun next h' => by rw [if_neg (by decide)]; exact hn next h'⟩
      · obtain ⟨st', f, hk, hn⟩ := run hs he
        exact ⟨st', f, hk, fun next h' => by rw [if_pos (by decide)]; exact .inl (hn next h')⟩
    · rename_i hb
      rw [hb] at hreg
      obtain ⟨vs, hv, ha⟩ := hreg
      cases ha
      have hy := hw _ (yielded_undef hgr hv)
      obtain ⟨st', f, hk, hn⟩ := skip h he
      exact ⟨st', f, hk, fun next h' => by rw [hy, if_neg (by simp)]; exact hn next h'⟩
    · cases he
end
end Go.Vm

/-! ### 27. Two steps of a drawn region that are apart may change places -/
namespace Go.Vm
set_option linter.unusedSimpArgs false
set_option linter.unusedVariables false

theorem setL_getL {α : Type} (d : α) : ∀ (l : List α) (i : Nat), setL l i (getL d l i) = l
  | [], i => by cases i <;> rfl
  | x :: l, 0 => rfl
  | x :: l, i + 1 => by simp only [getL, setL]; rw [setL_getL d l i]
theorem setL_comm {α : Type} (l : List α) (i j : Nat) (x y : α) (h : i ≠ j) : setL (setL l i x) j y = setL (setL l j y) i x := by
  rw [setL_eq, setL_eq, setL_eq, setL_eq, List.set_comm _ _ h]
theorem mapL_setL {α β : Type} (f : α → β) (l : List α) (i : Nat) (x : α) : mapL f (setL l i x) = setL (mapL f l) i (f x) := by
  rw [mapL_eq, mapL_eq, setL_eq, setL_eq, List.map_set]

/-! #### killing -/
theorem killLf_nil (l : Lf) : killLf [] l = l := rfl
theorem mapL_id {α : Type} {f : α → α} : ∀ {l : List α}, (∀ x, x ∈ l → f x = x) → mapL f l = l
  | [], _ => rfl
  | x :: l, h => by simp only [mapL]; rw [h x (List.mem_cons_self ..), mapL_id fun y hy => h y (List.mem_cons_of_mem _ hy)]
theorem mapL_comp {α β γ : Type} (f : α → β) (g : β → γ) : ∀ l : List α, mapL g (mapL f l) = mapL (fun x => g (f x)) l
  | [] => rfl
  | x :: l => by simp only [mapL]; rw [mapL_comp f g l]
theorem mapL_congr {α β : Type} {f g : α → β} : ∀ {l : List α}, (∀ x, x ∈ l → f x = g x) → mapL f l = mapL g l
  | [], _ => rfl
  | x :: l, h => by simp only [mapL]; rw [h x (List.mem_cons_self ..), mapL_congr fun y hy => h y (List.mem_cons_of_mem _ hy)]
theorem killRV_nil (r : RV) : killRV [] r = r := by
  cases r with
  | un => rfl
  | v a ls => simp only [killRV]; rw [mapL_id fun x _ => killLf_nil x]
  | tup cs => simp only [killRV]; rw [mapL_id fun x _ => by rw [mapL_id fun x _ => killLf_nil x]]
theorem killed_regs_eq (s : St) (k : List (B × Option Nat)) : (s.killed k).regs = mapL (killRV k) s.regs := by
  cases k with
  | nil => simp only [St.killed]; rw [mapL_id fun x _ => killRV_nil x]
  | cons x k => rfl
theorem hits_un (x : B × Option Nat) : Lf.un.hits x = false := rfl
theorem killLf_un (k : List (B × Option Nat)) : killLf k .un = .un := by
  unfold killLf; cases anyL (fun x => Lf.un.hits x) k <;> rfl
theorem killLf_comm (k k' : List (B × Option Nat)) (l : Lf) : killLf k (killLf k' l) = killLf k' (killLf k l) := by
  cases h : anyL (fun x => l.hits x) k with
  | true =>
    have e : killLf k l = .un := by unfold killLf; rw [h]; rfl
    rw [e, killLf_un]
    cases h' : anyL (fun x => l.hits x) k' with
    | true => have e' : killLf k' l = .un := by unfold killLf; rw [h']; rfl
              rw [e', killLf_un]
    | false => have e' : killLf k' l = l := by unfold killLf; rw [h']; rfl
               rw [e', e]
  | false =>
    have e : killLf k l = l := by unfold killLf; rw [h]; rfl
    rw [e]
    cases h' : anyL (fun x => l.hits x) k' with
    | true => have e' : killLf k' l = .un := by unfold killLf; rw [h']; rfl
              rw [e', killLf_un]
    | false => have e' : killLf k' l = l := by unfold killLf; rw [h']; rfl
               rw [e', e]
theorem killRV_comm (k k' : List (B × Option Nat)) (r : RV) : killRV k (killRV k' r) = killRV k' (killRV k r) := by
  cases r with
  | un => rfl
  | v a ls => simp only [killRV]; rw [mapL_comp, mapL_comp, mapL_congr fun x _ => killLf_comm k k' x]
  | tup cs =>
    simp only [killRV]
    rw [mapL_comp, mapL_comp, mapL_congr fun x _ => ?_]
    simp only
    rw [mapL_comp, mapL_comp, mapL_congr fun x _ => killLf_comm k k' x]
theorem killLf_or (k : List (B × Option Nat)) (l : Lf) : killLf k l = l ∨ killLf k l = .un := by
  unfold killLf; cases anyL (fun x => l.hits x) k
  · exact .inl rfl
  · exact .inr rfl
theorem killLf_out {k : List (B × Option Nat)} {l : Lf} (h : ∀ x, x ∈ k → l.hits x = false) : killLf k l = l := by
  unfold killLf
  have : anyL (fun x => l.hits x) k = false := by rw [anyL_eq, List.any_eq_false]; exact fun x hx => by rw [h x hx]; exact Bool.false_ne_true
  rw [this]; rfl
theorem allL_mem {α : Type} {f : α → Bool} {l : List α} (h : allL f l = true) : ∀ x, x ∈ l → f x = true := by
  rw [allL_eq, List.all_eq_true] at h; exact h
theorem hit_out {x : B × Option Nat} {b : B} {c : Nat} (hne : x.1 ≠ b) : x.1.hit x.2 b c = false := by
  unfold B.hit; rw [B.beq_false.2 hne]; rfl
theorem place_out {x : B × Option Nat} {q : Place} (h : x.1 ∉ q.foot) : q.hits x = false := by
  cases q with
  | box b off =>
    have hne : x.1 ≠ b := fun e => h (by simp [Place.foot, e])
    simp only [Place.hits]
    cases x.2 with
    | none => exact B.beq_false.2 hne
    | some c => rfl
  | cells ps => rfl
  | row b c sz i off => exact hit_out fun e => h (by simp [Place.foot, e])
theorem caps_out {x : B × Option Nat} : ∀ {caps : List Cap}, x.1 ∉ capFoot caps → anyL (fun c => match c with | .ptr q => q.hits x | _ => false) caps = false
  | [], _ => rfl
  | .ptr q :: r, h => by
    simp only [capFoot, List.mem_append, not_or] at h
    simp only [anyL, place_out h.1, Bool.false_or]
    exact caps_out h.2
  | .pv p :: r, h => by simp only [anyL, Bool.false_or]; exact caps_out (caps := r) h
  | .ag p :: r, h => by simp only [anyL, Bool.false_or]; exact caps_out (caps := r) h
theorem foot_hits {x : B × Option Nat} {l : Lf} (hc : l.clean = true) (h : x.1 ∉ l.foot) : l.hits x = false := by
  cases l with
  | un => rfl
  | pv p => rfl
  | own _ _ _ _ => rfl
  | hd b c => exact hit_out fun e => h (by simp [Lf.foot, e])
  | tk b c n => exact hit_out fun e => h (by simp [Lf.foot, e])
  | vw b c s lo hi => exact hit_out fun e => h (by simp [Lf.foot, e])
  | ptr q => exact place_out h
  | fn f caps => exact caps_out h
theorem footL_mem {l : Lf} : ∀ {ls : List Lf}, l ∈ ls → ∀ b, b ∈ l.foot → b ∈ footL ls
  | x :: ls, h, b, hb => by
    simp only [footL, List.mem_append]
    rcases List.mem_cons.1 h with rfl | h
    · exact .inl hb
    · exact .inr (footL_mem h b hb)
theorem foot_rv {k : List (B × Option Nat)} {r : RV} (hc : r.clean = true) (h : ∀ x, x ∈ k → x.1 ∉ r.foot) : killRV k r = r := by
  have hls : ∀ ls : List Lf, allL Lf.clean ls = true → (∀ x, x ∈ k → x.1 ∉ footL ls) → mapL (killLf k) ls = ls := fun ls h1 h2 =>
    mapL_id fun l hl => killLf_out fun x hx => foot_hits (allL_mem h1 l hl) fun hf => h2 x hx (footL_mem hl _ hf)
  cases r with
  | un => rfl
  | v a ls => simp only [killRV]; rw [hls ls hc h]
  | tup cs =>
    simp only [killRV]
    rw [mapL_id fun c hcm => ?_]
    obtain ⟨a, ls⟩ := c
    dsimp only
    rw [hls ls (allL_mem hc (a, ls) hcm) fun x hx hf => h x hx ?_]
    simp only [RV.foot, List.mem_flatten, List.mem_map]
    exact ⟨_, ⟨(a, ls), hcm, rfl⟩, hf⟩
/-- What is clean behind a kill has not been touched by it. -/
theorem clean_kill {k : List (B × Option Nat)} {r : RV} (hc : (killRV k r).clean = true) : killRV k r = r := by
  have hls : ∀ ls : List Lf, allL Lf.clean (mapL (killLf k) ls) = true → mapL (killLf k) ls = ls := fun ls h1 =>
    mapL_id fun l hl => by
      rcases killLf_or k l with e | e
      · exact e
      · have := allL_mem h1 (killLf k l) (by rw [mapL_eq]; exact List.mem_map.2 ⟨l, hl, rfl⟩)
        rw [e] at this; cases this
  cases r with
  | un => rfl
  | v a ls => simp only [killRV] at hc ⊢; rw [hls ls hc]
  | tup cs =>
    simp only [killRV] at hc ⊢
    rw [mapL_id fun c hcm => ?_]
    obtain ⟨a, ls⟩ := c
    dsimp only
    rw [hls ls ?_]
    exact allL_mem hc (a, mapL (killLf k) ls) (by rw [mapL_eq]; exact List.mem_map.2 ⟨(a, ls), hcm, rfl⟩)
theorem place_within {F : List B} {x : B × Option Nat} {q : Place} (hw : q.within F = true) (h : inF F x.1 = false) : q.hits x = false := by
  refine place_out fun hm => ?_
  cases q with
  | box b off => simp only [Place.foot, List.mem_singleton] at hm; rw [hm] at h; rw [show inF F b = true from hw] at h; cases h
  | cells ps => cases hm
  | row b c sz i off => simp only [Place.foot, List.mem_singleton] at hm; rw [hm] at h; rw [show inF F b = true from hw] at h; cases h
theorem within_hits {F : List B} {x : B × Option Nat} {l : Lf} (hw : l.within F = true) (h : inF F x.1 = false) : l.hits x = false := by
  have hb : ∀ {b : B} {c : Nat}, inF F b = true → x.1.hit x.2 b c = false := fun {b c} hf => by
    unfold B.hit; rw [B.beq_false.2 fun e => by rw [e, hf] at h; cases h]; rfl
  cases l with
  | un => rfl
  | pv p => rfl
  | own _ _ _ _ => rfl
  | hd b c => exact hb hw
  | tk b c n => exact hb hw
  | vw b c s lo hi => exact hb hw
  | ptr q => exact place_within hw h
  | fn f caps =>
    have hw' : allL (Cap.within F) caps = true := hw
    simp only [Lf.hits]
    rw [anyL_eq, List.any_eq_false]
    intro c hc
    have := allL_mem hw' c hc
    cases c with
    | pv p => simp
    | ag p => simp
    | ptr q => simp [place_within this h]
theorem within_kill {F : List B} {k : List (B × Option Nat)} {r : RV} (hw : r.within F = true) (h : ∀ x, x ∈ k → inF F x.1 = false) : killRV k r = r := by
  have hls : ∀ ls : List Lf, allL (Lf.within F) ls = true → mapL (killLf k) ls = ls := fun ls h1 =>
    mapL_id fun l hl => killLf_out fun x hx => within_hits (allL_mem h1 l hl) (h x hx)
  cases r with
  | un => rfl
  | v a ls => simp only [killRV]; rw [hls ls hw]
  | tup cs =>
    simp only [killRV]
    rw [mapL_id fun c hcm => ?_]
    obtain ⟨a, ls⟩ := c
    dsimp only
    rw [hls ls (allL_mem hw (a, ls) hcm)]

/-! #### boxes -/
theorem setBox_lists {s s' : St} (x : B × List Lf) (h1 : s.pb = s'.pb) (h2 : s.lb = s'.lb) : (s.setBox x).pb = (s'.setBox x).pb ∧ (s.setBox x).lb = (s'.setBox x).lb := by
  unfold St.setBox
  cases x.1 <;> simp [h1, h2]
theorem setBoxes_lists : ∀ (wr : List (B × List Lf)) {s s' : St}, s.pb = s'.pb → s.lb = s'.lb → (s.setBoxes wr).pb = (s'.setBoxes wr).pb ∧ (s.setBoxes wr).lb = (s'.setBoxes wr).lb
  | [], _, _, h1, h2 => ⟨h1, h2⟩
  | x :: r, _, _, h1, h2 => by
    have ih := setBoxes_lists r h1 h2
    exact setBox_lists x ih.1 ih.2
theorem setBox_comm (s : St) (x y : B × List Lf) (h : x.1 ≠ y.1) : (s.setBox x).setBox y = (s.setBox y).setBox x := by
  obtain ⟨b, u⟩ := x
  obtain ⟨c, v⟩ := y
  dsimp only at h
  cases b <;> cases c <;> simp only [St.setBox] <;> first | rfl | skip
  · rename_i i j; rw [setL_comm _ _ _ _ _ fun e => h (by rw [e])]
  · rename_i i j; rw [setL_comm _ _ _ _ _ fun e => h (by rw [e])]
theorem setBoxes_one (x : B × List Lf) : ∀ (wr : List (B × List Lf)) (s : St), (∀ y, y ∈ wr → y.1 ≠ x.1) → (s.setBoxes wr).setBox x = (s.setBox x).setBoxes wr
  | [], s, _ => rfl
  | y :: r, s, h => by
    simp only [St.setBoxes]
    rw [setBox_comm _ y x (h y (List.mem_cons_self ..)), setBoxes_one x r s fun z hz => h z (List.mem_cons_of_mem _ hz)]
theorem setBoxes_comm : ∀ (wr wr' : List (B × List Lf)) (s : St), (∀ x, x ∈ wr → ∀ y, y ∈ wr' → x.1 ≠ y.1) → (s.setBoxes wr).setBoxes wr' = (s.setBoxes wr').setBoxes wr
  | [], wr', s, _ => rfl
  | x :: r, wr', s, h => by
    simp only [St.setBoxes]
    rw [← setBoxes_one x wr' _ fun y hy e => h x (List.mem_cons_self ..) y hy e.symm, setBoxes_comm r wr' s fun z hz => h z (List.mem_cons_of_mem _ hz)]
theorem apply_lists (st : St) (d : Option Tmp) (e : Eff) : (st.apply d e).pb = (st.setBoxes e.wr).pb ∧ (st.apply d e).lb = (st.setBoxes e.wr).lb := by
  have hk : (st.killed e.kill).pb = st.pb ∧ (st.killed e.kill).lb = st.lb := by cases e.kill <;> exact ⟨rfl, rfl⟩
  have := setBoxes_lists e.wr hk.1 hk.2
  unfold St.apply
  cases d <;> exact this
theorem apply_box_out {st : St} {d : Option Tmp} {e : Eff} {b : B} (h : b ∉ e.writes) : (st.apply d e).box b = st.box b := by
  have h1 : (st.apply d e).box b = (st.setBoxes e.wr).box b := by
    have := apply_lists st d e
    cases b <;> simp only [St.box] <;> first | rfl | (rw [this.1]) | (rw [this.2])
  rw [h1]
  refine setBoxes_out e.wr fun x hx e1 => h ?_
  unfold Eff.writes
  rw [List.mem_append, mapL_eq, mapL_eq]
  exact .inr (List.mem_map.2 ⟨x, hx, e1⟩)
theorem St.ext' {s s' : St} (h1 : s.regs = s'.regs) (h2 : s.pb = s'.pb) (h3 : s.lb = s'.lb) : s = s' := by
  cases s; cases s'; simp_all
theorem kill_writes {e : Eff} {x : B × Option Nat} (h : x ∈ e.kill) : x.1 ∈ e.writes := by
  unfold Eff.writes; rw [List.mem_append, mapL_eq]; exact .inl (List.mem_map.2 ⟨x, h, rfl⟩)
theorem wr_writes {e : Eff} {x : B × List Lf} (h : x ∈ e.wr) : x.1 ∈ e.writes := by
  unfold Eff.writes; rw [List.mem_append, mapL_eq, mapL_eq]; exact .inr (List.mem_map.2 ⟨x, h, rfl⟩)
theorem writes_in {e : Eff} {F : List B} (h : e.within F = true) {b : B} (hb : b ∈ e.writes) : b ∈ F := by
  unfold Eff.within at h
  simp only [Bool.and_eq_true] at h
  unfold Eff.writes at hb
  rw [List.mem_append, mapL_eq, mapL_eq] at hb
  rcases hb with hb | hb
  · obtain ⟨x, hx, rfl⟩ := List.mem_map.1 hb; exact inF_iff.1 (allL_mem h.1 x hx)
  · obtain ⟨x, hx, rfl⟩ := List.mem_map.1 hb; exact inF_iff.1 (allL_mem h.2.1 x hx)
theorem disj_spec {a b : List B} (h : disj a b = true) {x : B} (hx : x ∈ a) : x ∉ b := by
  unfold disj at h
  have := allL_mem h x hx
  intro hb
  rw [inF_iff.2 hb] at this
  cases this

/-- Two effects that touch nothing of one another. -/
theorem apply_comm {st : St} {da db : Option Tmp} {ea eb : Eff} {Fa Fb : List B} (ha : ea.within Fa = true) (hb : eb.within Fb = true) (hd : ∀ d, da = some d → db ≠ some d)
    (h1 : disj ea.writes Fb = true) (h2 : disj eb.writes Fa = true) : (st.apply da ea).apply db eb = (st.apply db eb).apply da ea := by
  have va : killRV eb.kill ea.val = ea.val := by
    unfold Eff.within at ha; simp only [Bool.and_eq_true] at ha
    refine within_kill ha.2.2 fun x hx => ?_
    cases e : inF Fa x.1 with
    | false => rfl
    | true => exact absurd (inF_iff.1 e) (disj_spec h2 (kill_writes hx))
  have vb : killRV ea.kill eb.val = eb.val := by
    unfold Eff.within at hb; simp only [Bool.and_eq_true] at hb
    refine within_kill hb.2.2 fun x hx => ?_
    cases e : inF Fb x.1 with
    | false => rfl
    | true => exact absurd (inF_iff.1 e) (disj_spec h1 (kill_writes hx))
  have hw : ∀ x, x ∈ ea.wr → ∀ y, y ∈ eb.wr → x.1 ≠ y.1 := fun x hx y hy e =>
    disj_spec h1 (wr_writes hx) (by rw [e]; exact writes_in hb (wr_writes hy))
  refine St.ext' ?_ ?_ ?_
  · rw [apply_regs, apply_regs, killed_regs_eq, killed_regs_eq, apply_regs, apply_regs, killed_regs_eq, killed_regs_eq]
    have hc : mapL (killRV eb.kill) (mapL (killRV ea.kill) st.regs) = mapL (killRV ea.kill) (mapL (killRV eb.kill) st.regs) := by
      rw [mapL_comp, mapL_comp, mapL_congr fun x _ => killRV_comm _ _ x]
    cases da with
    | none =>
      cases db with
      | none => exact hc
      | some d => dsimp only; rw [mapL_setL, vb, hc]
    | some d =>
      cases db with
      | none => dsimp only; rw [mapL_setL, va, hc]
      | some d' =>
        dsimp only
        rw [mapL_setL, va, mapL_setL, vb, hc, setL_comm _ _ _ _ _ fun e => hd d rfl (by rw [e])]
  · rw [(apply_lists _ db eb).1, (apply_lists _ da ea).1,
      (setBoxes_lists eb.wr (s' := st.setBoxes ea.wr) (apply_lists st da ea).1 (apply_lists st da ea).2).1,
      (setBoxes_lists ea.wr (s' := st.setBoxes eb.wr) (apply_lists st db eb).1 (apply_lists st db eb).2).1, setBoxes_comm _ _ _ hw]
  · rw [(apply_lists _ db eb).2, (apply_lists _ da ea).2,
      (setBoxes_lists eb.wr (s' := st.setBoxes ea.wr) (apply_lists st da ea).1 (apply_lists st da ea).2).2,
      (setBoxes_lists ea.wr (s' := st.setBoxes eb.wr) (apply_lists st db eb).1 (apply_lists st db eb).2).2, setBoxes_comm _ _ _ hw]

/-! #### a step's effect, told by what it looks at -/
section
variable {E : Env} {C : FuncId → List PV → Option (List PV)}
/-- Whether an operation is run, by its guard. -/
def decG (ops : List Oper) (o : Oper) (st : St) : Option Bool :=
  match o.guard with
  | none => some true
  | some (g, want) => match guardReg ops g with
    | none => none
    | some t => match getL .un st.regs t with
      | .v false [.pv (.val (.bool b))] => some (bif b then want else !want)
      | .tup [] => some false
      | _ => none
def noEff : Eff := ⟨[], .tup [], []⟩
def footOf (o : Oper) (st : St) : List B := footOps st.regs o.op.operands.toList ++ (match o.dst with | some d => [.loc d] | none => [])
noncomputable def effOf (E : Env) (C : FuncId → List PV → Option (List PV)) (ops : List Oper) (o : Oper) (st : St) : Option (Eff × List B) :=
  match decG ops o st with
  | none => none
  | some false => some (noEff, [])
  | some true => bif cleanOps st.regs o.op.operands.toList then bindO (effK E C o (opnd st.regs) (restr (footOf o st) st.box) some) fun e => bif e.within (footOf o st) then some (e, footOf o st) else none
    else none
theorem runOpD_eff {β : Type} {ops : List Oper} {o : Oper} {st : St} (K : St → List B × List B → Option β) :
    runOpD E C ops o st K = bindO (effOf E C ops o st) fun x => K (st.apply o.dst x.1) (x.2, x.1.writes) := by
  have hD : ∀ st1 : St, st1 = st → opD E C o st1 K = bindO (bif cleanOps st.regs o.op.operands.toList then bindO (effK E C o (opnd st.regs) (restr (footOf o st) st.box) some) fun e => bif e.within (footOf o st) then some (e, footOf o st) else none
      else none) fun x => K (st.apply o.dst x.1) (x.2, x.1.writes) := by
    intro st1 hst
    rw [hst]
    unfold opD
    dsimp only
    cases cleanOps st.regs o.op.operands.toList with
    | false => rfl
    | true =>
      simp only [cond_true]
      rw [effK_bind, bindO_bindO]
      congr 1
      funext e
      show (bif e.within (footOf o st) then _ else _) = _
      cases e.within (footOf o st) <;> rfl
  have hN : ∀ st1 : St, st1 = st → K (St.put st1 o.dst (.tup [])) ([], []) = bindO (some (noEff, ([] : List B))) fun x => K (st.apply o.dst x.1) (x.2, x.1.writes) := by
    intro st1 hst; rw [hst]; rfl
  unfold runOpD effOf decG
  cases hg : o.guard with
  | none => exact hD st rfl
  | some gw =>
    obtain ⟨g, want⟩ := gw
    dsimp only
    cases ht : guardReg ops g with
    | none => rfl
    | some t =>
      dsimp only
      have hs : ∀ b : Bool, getL .un st.regs t = .v false [.pv (.val (.bool b))] → ({ st with regs := setL st.regs t (scal (.bool b)) } : St) = st := fun b hb => by
        have : setL st.regs t (scal (.bool b)) = st.regs := by
          have := setL_getL RV.un st.regs t
          rw [hb] at this
          exact this
        rw [this]
      split
      · rename_i b hb
        rw [hb]
        cases b <;> cases want <;> simp only [cond_true, cond_false, Bool.not_true, Bool.not_false]
        · exact hD _ (hs _ hb)
        · exact hN _ (hs _ hb)
        · exact hN _ (hs _ hb)
        · exact hD _ (hs _ hb)
      · rename_i hb
        rw [hb]
        exact hN _ rfl
      · rename_i h1 h2
        have hnone : (match getL RV.un st.regs t with | .v false [.pv (.val (.bool b))] => some (bif b then want else !want) | .tup [] => some false | _ => none) = none := by
          split
          · rename_i b hb; exact absurd hb (h1 b)
          · rename_i hb; exact absurd hb h2
          · rfl
        rw [hnone]
        rfl
theorem effOf_within {ops : List Oper} {o : Oper} {st : St} {e : Eff} {F : List B} (h : effOf E C ops o st = some (e, F)) : e.within F = true := by
  unfold effOf at h
  split at h
  · cases h
  · cases h; rfl
  · obtain ⟨_, h⟩ := bif_some h
    obtain ⟨e', _, h⟩ := bindO_some h
    obtain ⟨hw, h⟩ := bif_some h
    cases h
    exact hw
theorem footOps_congr {rs rs' : List RV} : ∀ {l : List Operand}, (∀ x, x ∈ l → opnd rs x = opnd rs' x) → footOps rs l = footOps rs' l
  | [], _ => rfl
  | x :: r, h => by simp only [footOps]; rw [h x (List.mem_cons_self ..), footOps_congr fun y hy => h y (List.mem_cons_of_mem _ hy)]
theorem cleanOps_congr {rs rs' : List RV} : ∀ {l : List Operand}, (∀ x, x ∈ l → opnd rs x = opnd rs' x) → cleanOps rs l = cleanOps rs' l
  | [], _ => rfl
  | x :: r, h => by simp only [cleanOps]; rw [h x (List.mem_cons_self ..), cleanOps_congr fun y hy => h y (List.mem_cons_of_mem _ hy)]
theorem frzOne_congr {ρ ρ' : Operand → RV} (x : B × Nat) (bx : BX) : (∀ y, ρ y = ρ' y → (frzOne x ρ bx).1 y = (frzOne x ρ' bx).1 y) ∧ (frzOne x ρ bx).2 = (frzOne x ρ' bx).2 := by
  unfold frzOne
  split
  · split
    · exact ⟨fun y h => by dsimp only; rw [h], rfl⟩
    · exact ⟨fun y h => h, rfl⟩
  · exact ⟨fun y h => h, rfl⟩
theorem frzAll_congr : ∀ (xs : List (B × Nat)) (ρ ρ' : Operand → RV) (bx : BX), (∀ y, ρ y = ρ' y → (frzAll xs ρ bx).1 y = (frzAll xs ρ' bx).1 y) ∧ (frzAll xs ρ bx).2 = (frzAll xs ρ' bx).2
  | [], ρ, ρ', bx => ⟨fun y h => h, rfl⟩
  | x :: r, ρ, ρ', bx => by
    obtain ⟨h1, h2⟩ := frzOne_congr (ρ := ρ) (ρ' := ρ') x bx
    show (∀ y, ρ y = ρ' y → (frzAll r (frzOne x ρ bx).1 (frzOne x ρ bx).2).1 y = (frzAll r (frzOne x ρ' bx).1 (frzOne x ρ' bx).2).1 y) ∧ (frzAll r (frzOne x ρ bx).1 (frzOne x ρ bx).2).2 = (frzAll r (frzOne x ρ' bx).1 (frzOne x ρ' bx).2).2
    rw [h2]
    obtain ⟨h3, h4⟩ := frzAll_congr r (frzOne x ρ bx).1 (frzOne x ρ' bx).1 (frzOne x ρ' bx).2
    exact ⟨fun y h => h3 y (h1 y h), h4⟩
theorem callF_congr {ρ ρ' : Operand → RV} {x : Operand} {args : List Operand} (hx : ρ x = ρ' x) (ha : ∀ y, y ∈ args → ρ y = ρ' y) : callF E ρ x args = callF E ρ' x args := by
  unfold callF callArgs
  rw [hx, mapL_congr ha]
theorem effK_congr {β : Type} {o : Oper} {ρ ρ' : Operand → RV} {bx : BX} {K : Eff → Option β} (h : ∀ x, x ∈ o.op.operands → ρ x = ρ' x) : effK E C o ρ bx K = effK E C o ρ' bx K := by
  unfold effK
  split
  · rename_i x args tys ho
    rw [ho] at h
    have hx : ρ x = ρ' x := h x (by simp [Op.operands, Call.operands])
    have ha : mapL ρ args.toList = mapL ρ' args.toList := mapL_congr fun y hy => h y (by
      simp only [Op.operands, Call.operands]
      simp at hy
      simp [hy])
    have ha' : ∀ y, y ∈ args.toList → ρ y = ρ' y := fun y hy => h y (by
      simp only [Op.operands, Call.operands]
      simp at hy
      simp [hy])
    rw [callF_congr hx ha']
    split
    · rename_i v f rvs _
      obtain ⟨g1, g2⟩ := frzAll_congr (callFrz E.sig v rvs) ρ ρ' bx
      rw [callF_congr (g1 x hx) (fun y hy => g1 y (ha' y hy)), g2]
    · rfl
  · rw [eff_congr h]
/-- The registers that an operation looks at. -/
def Sees (ops : List Oper) (o : Oper) (st : St) (t : Tmp) : Prop := (∃ g want, o.guard = some (g, want) ∧ guardReg ops g = some t) ∨ (decG ops o st = some true ∧ .tmp t ∈ o.op.operands)
theorem opnd_same {rs rs' : List RV} {x : Operand} (h : ∀ t, x = .tmp t → getL .un rs t = getL .un rs' t) : opnd rs x = opnd rs' x := by
  cases x with
  | tmp t => exact h t rfl
  | const v => cases v <;> rfl
  | _ => rfl
theorem effOf_congr {ops : List Oper} {o : Oper} {st st' : St} {e : Eff} {F : List B} (h : effOf E C ops o st = some (e, F)) (hr : ∀ t, Sees ops o st t → getL .un st'.regs t = getL .un st.regs t) (hb : ∀ b, b ∈ F → st'.box b = st.box b) :
    effOf E C ops o st' = some (e, F) := by
  have hd : decG ops o st' = decG ops o st := by
    unfold decG
    cases hg : o.guard with
    | none => rfl
    | some gw =>
      obtain ⟨g, want⟩ := gw
      dsimp only
      cases ht : guardReg ops g with
      | none => rfl
      | some t => dsimp only; rw [hr t (.inl ⟨g, want, hg, ht⟩)]
  unfold effOf at h ⊢
  rw [hd]
  split at h
  · cases h
  · exact h
  · rename_i hdd
    have ho : ∀ x, x ∈ o.op.operands → opnd st'.regs x = opnd st.regs x := fun x hx => opnd_same fun t e => hr t (.inr ⟨hdd, e ▸ hx⟩)
    have ho' : ∀ x, x ∈ o.op.operands.toList → opnd st'.regs x = opnd st.regs x := fun x hx => ho x (by simpa using hx)
    have hf : footOf o st' = footOf o st := by unfold footOf; rw [footOps_congr ho']
    rw [hf, cleanOps_congr ho']
    obtain ⟨hc, h⟩ := bif_some h
    have hF : footOf o st = F := by
      obtain ⟨e', _, h⟩ := bindO_some h
      obtain ⟨_, h⟩ := bif_some h
      cases h; rfl
    have hbx : restr (footOf o st) st'.box = restr (footOf o st) st.box := by
      funext b
      unfold restr
      cases hi : inF (footOf o st) b with
      | false => rfl
      | true => exact hb b (hF ▸ inF_iff.1 hi)
    rw [hc, hbx, effK_congr ho]
    exact h
/-- What an operation looks at is clean; its boxes are its footprint's. -/
theorem effOf_sees {ops : List Oper} {o : Oper} {st : St} {e : Eff} {F : List B} (h : effOf E C ops o st = some (e, F)) {t : Tmp} (ht : Sees ops o st t) :
    (getL .un st.regs t).clean = true ∧ ∀ b, b ∈ (getL .un st.regs t).foot → b ∈ F := by
  rcases ht with ⟨g, want, hg, hgr⟩ | ⟨hd, hm⟩
  · unfold effOf at h
    cases hd : decG ops o st with
    | none => rw [hd] at h; cases h
    | some bb =>
      unfold decG at hd
      rw [hg] at hd
      dsimp only at hd
      rw [hgr] at hd
      dsimp only at hd
      split at hd
      · rename_i hb; rw [hb]; exact ⟨rfl, fun b h => by cases h⟩
      · rename_i hb; rw [hb]; exact ⟨rfl, fun b h => by cases h⟩
      · cases hd
  · unfold effOf at h
    rw [hd] at h
    dsimp only at h
    obtain ⟨hc, h⟩ := bif_some h
    have hF : footOf o st = F := by
      obtain ⟨e', _, h⟩ := bindO_some h
      obtain ⟨_, h⟩ := bif_some h
      cases h; rfl
    have hcl : ∀ {l : List Operand}, cleanOps st.regs l = true → .tmp t ∈ l → (getL .un st.regs t).clean = true := by
      intro l
      induction l with
      | nil => intro _ h; cases h
      | cons x r ih =>
        intro h1 h2
        simp only [cleanOps, Bool.and_eq_true] at h1
        rcases List.mem_cons.1 h2 with e | h2
        · subst e; exact h1.1
        · exact ih h1.2 h2
    have hft : ∀ {l : List Operand}, .tmp t ∈ l → ∀ b, b ∈ (getL .un st.regs t).foot → b ∈ footOps st.regs l := by
      intro l
      induction l with
      | nil => intro h; cases h
      | cons x r ih =>
        intro h2 b hb
        simp only [footOps, List.mem_append]
        rcases List.mem_cons.1 h2 with e | h2
        · subst e; exact .inl hb
        · exact .inr (ih h2 b hb)
    have hm' : Operand.tmp t ∈ o.op.operands.toList := by simpa using hm
    refine ⟨hcl hc hm', fun b hb => ?_⟩
    rw [← hF]
    unfold footOf
    exact List.mem_append_left _ (hft hm' b hb)
theorem getL_mapL_kill (k : List (B × Option Nat)) : ∀ (l : List RV) (t : Nat), getL .un (mapL (killRV k) l) t = killRV k (getL .un l t)
  | [], t => by cases t <;> rfl
  | x :: l, 0 => rfl
  | x :: l, t + 1 => getL_mapL_kill k l t
theorem apply_get {st : St} {d : Option Tmp} {e : Eff} {t : Tmp} (h : ∀ x, d = some x → x ≠ t) : getL .un (st.apply d e).regs t = killRV e.kill (getL .un st.regs t) := by
  rw [apply_regs, killed_regs_eq]
  cases d with
  | none => exact getL_mapL_kill _ _ _
  | some x =>
    dsimp only
    rw [getL_setL, if_neg fun hh => h x rfl hh.1]
    exact getL_mapL_kill _ _ _
theorem sees_looks {ops : Array Oper} {o : Oper} {st : St} {t : Tmp} (h : Sees ops.toList o st t) : t ∈ o.looksAt ops := by
  unfold Oper.looksAt
  rcases h with ⟨g, want, hg, hgr⟩ | ⟨_, hm⟩
  · rw [hg]
    dsimp only
    rw [guardReg_some hgr]
    simp
  · exact List.mem_append_left _ (List.mem_filterMap.2 ⟨.tmp t, by simpa using hm, rfl⟩)
theorem eff_swap {ops : Array Oper} {a b : Oper} {st : St} {ea eb : Eff} {Fa Fb : List B} (hap : a.apart ops b = true) (ha : effOf E C ops.toList a st = some (ea, Fa)) (hb : effOf E C ops.toList b (st.apply a.dst ea) = some (eb, Fb))
    (h1 : disj ea.writes Fb = true) (h2 : disj eb.writes Fa = true) :
    effOf E C ops.toList b st = some (eb, Fb) ∧ effOf E C ops.toList a (st.apply b.dst eb) = some (ea, Fa) ∧ (st.apply a.dst ea).apply b.dst eb = (st.apply b.dst eb).apply a.dst ea := by
  obtain ⟨p1, p2, p3⟩ := Oper.apart_spec hap
  refine ⟨effOf_congr hb (fun t ht => ?_) (fun x hx => ?_), effOf_congr ha (fun t ht => ?_) (fun x hx => ?_), apply_comm (effOf_within ha) (effOf_within hb) p2 h1 h2⟩
  · have hne : ∀ x, a.dst = some x → x ≠ t := fun x hx e => p1 x hx (e ▸ sees_looks ht)
    have hc := (effOf_sees hb ht).1
    rw [apply_get hne] at hc ⊢
    exact (clean_kill hc).symm
  · exact (apply_box_out fun hw => disj_spec h1 hw hx).symm
  · have hne : ∀ x, b.dst = some x → x ≠ t := fun x hx e => p3 x hx (e ▸ sees_looks ht)
    obtain ⟨hc, hf⟩ := effOf_sees ha ht
    rw [apply_get hne]
    exact foot_rv hc fun x hx hx' => disj_spec h2 (kill_writes hx) (hf _ hx')
  · exact apply_box_out fun hw => disj_spec h2 hw hx
end
end Go.Vm

/-! ### 28. A drawn region: every order -/
namespace Go.Vm
set_option linter.unusedSimpArgs false
set_option linter.unusedVariables false
section
variable {P : Program} {W0 : World} {E : Env} {C : FuncId → List PV → Option (List PV)} {ops : Array Oper}

/-- The operations of a list of numbers, one after another, with these footprints. -/
inductive Steps (E : Env) (C : FuncId → List PV → Option (List PV)) (ops : Array Oper) (fp : Nat → List B × List B) : St → List Nat → St → Prop
  | nil (st : St) : Steps E C ops fp st [] st
  | cons {st st' : St} {i : Nat} {l : List Nat} {o : Oper} {e : Eff} (ho : ops[i]? = some o) (h : effOf E C ops.toList o st = some (e, (fp i).1)) (hw : (fp i).2 = e.writes) (t : Steps E C ops fp (st.apply o.dst e) l st') : Steps E C ops fp st (i :: l) st'

def PairOk (ops : Array Oper) (fp : Nat → List B × List B) (j i : Nat) : Prop := ∀ oj oi, ops[j]? = some oj → ops[i]? = some oi → pairOk ops oj oi (fp j) (fp i) = true

theorem bubble {fp : Nat → List B × List B} {i : Nat} {oi : Oper} (hi : ops[i]? = some oi) : ∀ (l1 l2 : List Nat) {st stf : St}, (∀ j, j ∈ l1 → PairOk ops fp j i) → Steps E C ops fp st (l1 ++ i :: l2) stf →
    ∃ e, effOf E C ops.toList oi st = some (e, (fp i).1) ∧ (fp i).2 = e.writes ∧ Steps E C ops fp (st.apply oi.dst e) (l1 ++ l2) stf
  | [], l2, st, stf, _, h => by
    cases h with
    | cons ho h hw t =>
      rw [hi] at ho; cases ho
      exact ⟨_, h, hw, t⟩
  | j :: l1, l2, st, stf, hp, h => by
    cases h with
    | @cons _ _ _ _ oj ej ho h hw t =>
      obtain ⟨e, h1, h2, h3⟩ := bubble hi l1 l2 (fun k hk => hp k (List.mem_cons_of_mem _ hk)) t
      have hpk := hp j (List.mem_cons_self ..) oj oi ho hi
      unfold pairOk at hpk
      simp only [Bool.and_eq_true] at hpk
      obtain ⟨g1, g2, g3⟩ := eff_swap hpk.1 h h1 (hw ▸ hpk.2.1) (h2 ▸ hpk.2.2)
      exact ⟨e, g1, h2, .cons ho g2 hw (g3 ▸ h3)⟩

/-- What a run in one order says. -/
structure GoodR (ops : Array Oper) (fp : Nat → List B × List B) (anc : Nat → List Nat) (pos : Nat → Nat) (n : Nat) : Prop where
  down : ∀ i o, i < n → ops[i]? = some o → ∀ e, e ∈ o.after → Region.binds .any e = true → e.on < n ∧ pos e.on < pos i
  ancS : ∀ i o, i < n → ops[i]? = some o → ∀ k, k ∈ anc i → ∃ e, e ∈ o.after ∧ Region.binds .any e = true ∧ (e.on = k ∨ k ∈ anc e.on)
  pair : ∀ i j, i < n → j < n → pos j < pos i → j ∈ anc i ∨ PairOk ops fp j i

theorem anc_listed {fp : Nat → List B × List B} {anc : Nat → List Nat} {pos : Nat → Nat} {n : Nat} (g : GoodR ops fp anc pos n) {L : Nat → Prop} (hL : ∀ i o, i < n → L i → ops[i]? = some o → ∀ e, e ∈ o.after → Region.binds .any e = true → L e.on) (hn : n = ops.size) :
    ∀ (q i : Nat) (o : Oper), pos i = q → i < n → ops[i]? = some o → (∀ e, e ∈ o.after → Region.binds .any e = true → L e.on) → ∀ k, k ∈ anc i → L k := by
  intro q
  induction q using Nat.strongRecOn with
  | _ q ih =>
    intro i o hq hi ho hr k hk
    obtain ⟨e, he, hb, h⟩ := g.ancS i o hi ho k hk
    rcases h with rfl | h
    · exact hr e he hb
    · obtain ⟨hlt, hp⟩ := g.down i o hi ho e he hb
      obtain ⟨oe, hoe⟩ : ∃ oe, ops[e.on]? = some oe := ⟨ops[e.on]'(by omega), by simp⟩
      exact ih (pos e.on) (by omega) e.on oe rfl hlt hoe (hL e.on oe hlt (hr e he hb) hoe) k h

theorem any_sound (hT : TabOk P E.T) (hC : ∀ f sg vs out, E.sig f = some sg → C f vs = some out → Sat P W0 sg (E.real f) vs out) {β : Type} {K : St → Option β} {b : β} {n : Nat} {Q : Exit → Act → World → Prop}
    {fp : Nat → List B × List B} {anc : Nat → List Nat} {pos : Nat → Nat} (g : GoodR ops fp anc pos ops.size) {stf : St} (hK : K stf = some b) : ∀ (fuel : Nat) (l : List Nat) (listed : Array Bool) (G : Gh) (w : World) (st : St) (a : Act),
    l.length ≤ fuel → l.Nodup → (∀ i, i ∈ l ↔ i < ops.size ∧ listed.getD i true = false) → listed.size = ops.size → (l.Pairwise (fun a b => pos a < pos b)) →
    (∀ i o, i < ops.size → listed.getD i false = true → ops[i]? = some o → ∀ e, e ∈ o.after → Region.binds .any e = true → listed.getD e.on false = true) →
    Steps E C ops fp st l stf → Base W0 G w → Rel G st a w → a.tmps.size = n → Told G w n K b (Q .normal) → wpAny P .any ops Q fuel listed a w := by
  have hin : ∀ {listed : Array Bool} {i : Nat}, listed.size = ops.size → i < ops.size → listed.getD i true = listed.getD i false := by
    intro listed i h1 h2
    rw [Array.getD_eq_getD_getElem?, Array.getD_eq_getD_getElem?]
    rw [Array.getElem?_eq_getElem (by omega)]
    rfl
  have hready : ∀ (l : List Nat) (listed : Array Bool), (∀ i, i ∈ l ↔ i < ops.size ∧ listed.getD i true = false) → listed.size = ops.size → (l.Pairwise (fun a b => pos a < pos b)) → Region.ready .any ops listed = [] → l = [] := by
    intro l listed hm hs hp h0
    cases l with
    | nil => rfl
    | cons i r =>
      exfalso
      obtain ⟨hi, hu⟩ := (hm i).1 (List.mem_cons_self ..)
      have : i ∈ Region.ready .any ops listed := by
        rw [mem_ready]
        refine ⟨hu, ops[i], by simp [hi], fun e he hbe => ?_⟩
        obtain ⟨hlt, hpe⟩ := g.down i ops[i] hi (by simp [hi]) e he hbe
        cases hc : listed.getD e.on false with
        | true => rfl
        | false =>
          have hme : e.on ∈ i :: r := (hm e.on).2 ⟨by omega, by rw [hin hs (by omega)]; exact hc⟩
          rcases List.mem_cons.1 hme with h | h
          · rw [h] at hpe; omega
          · have := (List.pairwise_cons.1 hp).1 _ h; omega
      rw [h0] at this; cases this
  intro fuel
  induction fuel with
  | zero =>
    intro l listed G w st a hl hnd hm hs hp hcl hst hB hr hn hTd
    have : l = [] := by cases l with | nil => rfl | cons _ _ => simp at hl
    subst this
    cases hst
    refine ⟨?_, hTd _ G a w hK hr (Fr.refl G w) hn⟩
    cases h : Region.ready .any ops listed with
    | nil => rfl
    | cons i r =>
      exfalso
      have hi : i ∈ Region.ready .any ops listed := by rw [h]; exact List.mem_cons_self ..
      obtain ⟨hu, o, ho, _⟩ := mem_ready.1 hi
      have := (hm i).2 ⟨(Array.getElem?_eq_some_iff.1 ho).1, hu⟩
      cases this
  | succ fuel ih =>
    intro l listed G w st a hl hnd hm hs hp hcl hst hB hr hn hTd
    refine ⟨fun h0 => ?_, fun i hi => ?_⟩
    · have := hready l listed hm hs hp h0
      subst this
      cases hst
      exact hTd _ G a w hK hr (Fr.refl G w) hn
    · obtain ⟨hu, oi, ho, hall⟩ := mem_ready.1 hi
      have hilt := (Array.getElem?_eq_some_iff.1 ho).1
      obtain ⟨l1, l2, rfl⟩ := List.append_of_mem ((hm i).2 ⟨hilt, hu⟩)
      have hpw := List.pairwise_append.1 hp
      have hbefore : ∀ j, j ∈ l1 → PairOk ops fp j i := by
        intro j hj
        have hji : pos j < pos i := hpw.2.2 j hj i (List.mem_cons_self ..)
        rcases g.pair i j hilt ((hm j).1 (List.mem_append_left _ hj)).1 hji with h | h
        · exfalso
          have h1 := anc_listed g (L := fun k => listed.getD k false = true) hcl rfl (pos i) i oi rfl hilt ho (fun e he hb => hall e he hb) j h
          have h2 := (hm j).1 (List.mem_append_left _ hj)
          rw [hin hs h2.1, h1] at h2
          cases h2.2
        · exact h
      obtain ⟨e, h1, h2, h3⟩ := bubble ho l1 l2 hbefore hst
      have hrun : runOpD E C ops.toList oi st (fun s f => some (s, f)) = some (st.apply oi.dst e, ((fp i).1, e.writes)) := by
        rw [runOpD_eff, h1]; rfl
      obtain ⟨st', f, hk, hw⟩ := runOpD_sound hT hC ho hB hr (Q := Q) hrun
      cases hk
      refine hw _ fun G1 w' a' f1 r1 ht => ?_
      have hset : ∀ k, (listed.setIfInBounds i true).getD k true = if k = i then true else listed.getD k true := by
        intro k
        by_cases hk : k = i
        · subst hk; rw [if_pos rfl]; simp [hs, hilt]
        · rw [if_neg hk, getD_set_ne true (Ne.symm hk)]
      have hnd' := List.nodup_append.1 hnd
      refine ih (l1 ++ l2) (listed.setIfInBounds i true) G1 w' _ a' ?_ ?_ ?_ ?_ ?_ ?_ h3 (hB.rel hr f1) r1 (ht.trans hn) (hTd.fr f1)
      · simp only [List.length_append, List.length_cons] at hl ⊢; omega
      · refine List.nodup_append.2 ⟨hnd'.1, (List.nodup_cons.1 hnd'.2.1).2, fun x hx y hy => hnd'.2.2 x hx y (List.mem_cons_of_mem _ hy)⟩
      · intro k
        rw [hset]
        have := hm k
        simp only [List.mem_append, List.mem_cons] at this ⊢
        by_cases hk : k = i
        · subst hk
          rw [if_pos rfl]
          constructor
          · rintro (h | h)
            · exact absurd rfl (hnd'.2.2 k h k (List.mem_cons_self ..))
            · exact absurd h (List.nodup_cons.1 hnd'.2.1).1
          · rintro ⟨_, h⟩; cases h
        · rw [if_neg hk, ← this]
          constructor
          · rintro (h | h)
            · exact .inl h
            · exact .inr (.inr h)
          · rintro (h | h | h)
            · exact .inl h
            · exact absurd h hk
            · exact .inr h
      · rw [Array.size_setIfInBounds]; exact hs
      · exact List.pairwise_append.2 ⟨hpw.1, (List.pairwise_cons.1 hpw.2.1).2, fun x hx y hy => hpw.2.2 x hx y (List.mem_cons_of_mem _ hy)⟩
      · intro k o hk hL hok e' he' hb'
        by_cases hki : k = i
        · subst hki
          rw [ho] at hok; cases hok
          exact getD_set_true (hall e' he' hb')
        · refine getD_set_true (hcl k o hk ?_ hok e' he' hb')
          rw [getD_set_ne false (Ne.symm hki)] at hL
          exact hL

/-! #### from the run -/
structure Told1 (ops : Array Oper) (past : List Past) : Prop where
  o : ∀ (k : Nat) (p : Past), past[k]? = some p → ops[p.i]? = some p.o
  anc : ∀ (k : Nat) (p : Past), past[k]? = some p → p.anc = ancL (past.take k) p.o.after.toList
  done : ∀ (k : Nat) (p : Past), past[k]? = some p → edgesDone (past.take k) p.o = true
  apart : ∀ (k : Nat) (p : Past), past[k]? = some p → apartAll ops p.o p.f p.anc (past.take k) = true

theorem runOpsD_steps {β : Type} {K : St → Option β} {b : β} : ∀ (l : List Nat) (past : List Past) (st : St), Told1 ops past → runOpsD E C ops l past st K = some b →
    ∃ past' stf, Told1 ops (past ++ past') ∧ past'.map (·.i) = l ∧ K stf = some b ∧ ∀ fp : Nat → List B × List B, (∀ p, p ∈ past' → fp p.i = p.f) → Steps E C ops fp st l stf
  | [], past, st, hp, h => ⟨[], st, by simpa using hp, rfl, h, fun fp _ => .nil st⟩
  | i :: r, past, st, hp, h => by
    unfold runOpsD at h
    split at h
    · cases h
    rename_i o ho
    rw [runOpD_eff] at h
    obtain ⟨x, hx, h⟩ := bindO_some h
    obtain ⟨e, F⟩ := x
    dsimp only at h
    obtain ⟨hc, h⟩ := bif_some h
    simp only [Bool.and_eq_true] at hc
    have hi : ops[i]? = some o := by
      rw [getL_eq, mapL_eq, List.getElem?_map] at ho
      cases e1 : ops.toList[i]? with
      | none => rw [e1] at ho; cases ho
      | some o' => rw [e1] at ho; cases ho; simpa using e1
    let q : Past := ⟨i, o, (F, e.writes), ancL past o.after.toList⟩
    have hget : ∀ k p, (past ++ [q])[k]? = some p → (past[k]? = some p ∧ k < past.length) ∨ (k = past.length ∧ p = q) := by
      intro k p h
      rcases Nat.lt_trichotomy k past.length with hlt | heq | hgt
      · rw [List.getElem?_append_left hlt] at h; exact .inl ⟨h, hlt⟩
      · subst heq; simp at h; exact .inr ⟨rfl, h.symm⟩
      · rw [List.getElem?_eq_none (by simp; omega)] at h; cases h
    have htk : ∀ k, k ≤ past.length → (past ++ [q]).take k = past.take k := fun k h => by rw [List.take_append_of_le_length h]
    have hp' : Told1 ops (past ++ [q]) := by
      refine ⟨fun k p h => ?_, fun k p h => ?_, fun k p h => ?_, fun k p h => ?_⟩ <;> rcases hget k p h with ⟨h, hlt⟩ | ⟨rfl, rfl⟩
      · exact hp.o k p h
      · exact hi
      · rw [htk k (by omega)]; exact hp.anc k p h
      · rw [htk _ (Nat.le_refl _), List.take_length]
      · rw [htk k (by omega)]; exact hp.done k p h
      · rw [htk _ (Nat.le_refl _), List.take_length]; exact hc.1
      · rw [htk k (by omega)]; exact hp.apart k p h
      · rw [htk _ (Nat.le_refl _), List.take_length]; exact hc.2
    obtain ⟨past', stf, h1, h2, h3, h4⟩ := runOpsD_steps r (past ++ [q]) _ hp' h
    refine ⟨q :: past', stf, by simpa using h1, by simp [h2, q], h3, fun fp hfp => ?_⟩
    have hq : fp i = q.f := hfp q (List.mem_cons_self ..)
    exact .cons hi (by rw [hq]; exact hx) (by rw [hq]) (h4 fp fun p hp => hfp p (List.mem_cons_of_mem _ hp))

theorem apartAll_spec {o : Oper} {fi : List B × List B} {anc : List Nat} : ∀ (past : List Past), apartAll ops o fi anc past = true → ∀ p, p ∈ past → p.i ∈ anc ∨ pairOk ops p.o o p.f fi = true
  | [], h, p, hp => by cases hp
  | q :: past, h, p, hp => by
    unfold apartAll at h
    simp only [Bool.and_eq_true, Bool.or_eq_true] at h
    rcases List.mem_cons.1 hp with rfl | hp
    · rcases h.1 with h | h
      · rw [anyL_eq, List.any_eq_true] at h
        obtain ⟨x, hx, hb⟩ := h
        exact .inl (by rw [← Nat.eq_of_beq_eq_true hb]; exact hx)
      · exact .inr h
    · exact apartAll_spec past h.2 p hp
theorem pastAt_mem : ∀ {past : List Past} {i : Nat} {p : Past}, pastAt past i = some p → p ∈ past ∧ p.i = i
  | [], i, p, h => by cases h
  | q :: r, i, p, h => by
    unfold pastAt at h
    cases e : Nat.beq q.i i with
    | true => rw [e] at h; cases h; exact ⟨List.mem_cons_self .., Nat.eq_of_beq_eq_true e⟩
    | false => rw [e] at h; obtain ⟨h1, h2⟩ := pastAt_mem (past := r) h; exact ⟨List.mem_cons_of_mem _ h1, h2⟩
theorem pastAt_nodup : ∀ {past : List Past} {p : Past}, (past.map (fun p => p.i)).Nodup → p ∈ past → pastAt past p.i = some p
  | [], p, hn, hp => by cases hp
  | q :: r, p, hn, hp => by
    have hn' : q.i ∉ r.map (fun p => p.i) ∧ (r.map (fun p => p.i)).Nodup := List.nodup_cons.1 hn
    unfold pastAt
    rcases List.mem_cons.1 hp with rfl | hp
    · rw [Nat.beq_refl]; rfl
    · have : Nat.beq q.i p.i = false := by
        cases e : Nat.beq q.i p.i with
        | false => rfl
        | true => exact absurd (List.mem_map.2 ⟨p, hp, (Nat.eq_of_beq_eq_true e).symm⟩) hn'.1
      rw [this]; exact pastAt_nodup hn'.2 hp
theorem ancL_spec {past : List Past} : ∀ {l : List Edge} {k : Nat}, k ∈ ancL past l → ∃ e, e ∈ l ∧ Region.binds .any e = true ∧ ∃ p, pastAt past e.on = some p ∧ (e.on = k ∨ k ∈ p.anc)
  | [], k, h => by cases h
  | e :: r, k, h => by
    unfold ancL at h
    cases hb : Region.binds .any e with
    | false =>
      rw [hb] at h
      obtain ⟨e', h1, h2⟩ := ancL_spec (l := r) h
      exact ⟨e', List.mem_cons_of_mem _ h1, h2⟩
    | true =>
      rw [hb] at h
      simp only [cond_true] at h
      have hrest : k ∈ ancL past r → ∃ e', e' ∈ e :: r ∧ Region.binds .any e' = true ∧ ∃ p, pastAt past e'.on = some p ∧ (e'.on = k ∨ k ∈ p.anc) := fun h => by
        obtain ⟨e', h1, h2⟩ := ancL_spec (l := r) h
        exact ⟨e', List.mem_cons_of_mem _ h1, h2⟩
      split at h
      · rename_i p hp
        simp only [List.mem_cons, List.mem_append] at h
        rcases h with h | h | h
        · exact ⟨e, List.mem_cons_self .., hb, p, hp, .inl h.symm⟩
        · exact ⟨e, List.mem_cons_self .., hb, p, hp, .inr h⟩
        · exact hrest h
      · exact hrest h
def posL : List Nat → Nat → Nat
  | [], _ => 0
  | x :: r, i => if x = i then 0 else posL r i + 1
theorem posL_get : ∀ {l : List Nat} {k i : Nat}, l.Nodup → l[k]? = some i → posL l i = k
  | [], k, i, _, h => by simp at h
  | x :: r, 0, i, _, h => by simp at h; subst h; simp [posL]
  | x :: r, k + 1, i, hn, h => by
    have hr : r[k]? = some i := by simpa using h
    have hne : x ≠ i := by rintro rfl; exact (List.nodup_cons.1 hn).1 (List.mem_of_getElem? hr)
    simp only [posL]
    rw [if_neg hne, posL_get (List.nodup_cons.1 hn).2 hr]
theorem rangeL_mem : ∀ (n i k : Nat), k ∈ rangeL i n ↔ i ≤ k ∧ k < i + n
  | 0, i, k => by simp [rangeL]
  | n + 1, i, k => by simp only [rangeL, List.mem_cons, rangeL_mem n]; omega
theorem nodupL_spec : ∀ {l : List Nat}, nodupL l = true → l.Nodup
  | [], _ => List.nodup_nil
  | x :: r, h => by
    simp only [nodupL, Bool.and_eq_true, Bool.not_eq_true'] at h
    refine List.nodup_cons.2 ⟨fun hm => ?_, nodupL_spec h.2⟩
    have := any_false h.1 x hm
    rw [Nat.beq_refl] at this; cases this
theorem permOk_spec {os : List Nat} {n : Nat} (h : permOk os n = true) : os.length ≤ n ∧ os.Nodup ∧ ∀ i, i ∈ os ↔ i < n := by
  unfold permOk at h
  simp only [Bool.and_eq_true] at h
  obtain ⟨⟨h1, h2⟩, h3, h4⟩ := h
  refine ⟨by have := Nat.le_of_ble_eq_true h1; rwa [lenL_eq] at this, nodupL_spec h2, fun i => ⟨fun hi => ?_, fun hi => ?_⟩⟩
  · have := allL_mem h3 i hi
    simpa using this
  · have := allL_mem h4 i ((rangeL_mem n 0 i).2 ⟨Nat.zero_le _, by omega⟩)
    rw [anyL_eq, List.any_eq_true] at this
    obtain ⟨j, hj, hb⟩ := this
    rw [Nat.eq_of_beq_eq_true hb]; exact hj

theorem runD_sound (hT : TabOk P E.T) (hC : ∀ f sg vs out, E.sig f = some sg → C f vs = some out → Sat P W0 sg (E.real f) vs out) {β : Type} {K : St → Option β} {b : β} {n : Nat} {Q : Exit → Act → World → Prop} {G : Gh} {w : World} {st : St} {a : Act}
    (hB : Base W0 G w) (hr : Rel G st a w) (hn : a.tmps.size = n) {os : List Nat} (hos : permOk os (lenL ops.toList) = true) (h : runOpsD E C ops os [] st K = some b) (hTd : Told G w n K b (Q .normal)) :
    wpAny P .any ops Q ops.size (Array.replicate ops.size false) a w := by
  obtain ⟨past, stf, h1, h2, h3, h4⟩ := runOpsD_steps (ops := ops) os [] st ⟨fun i p h => by simp at h, fun i p h => by simp at h, fun i p h => by simp at h, fun i p h => by simp at h⟩ h
  rw [List.nil_append] at h1
  obtain ⟨o1, o2, o3⟩ := permOk_spec hos
  have hsz : lenL ops.toList = ops.size := by rw [lenL_eq]; simp
  rw [hsz] at o1 o3
  have hnd : (past.map (·.i)).Nodup := by rw [h2]; exact o2
  let fp : Nat → List B × List B := fun i => match pastAt past i with | some p => p.f | none => ([], [])
  let anc : Nat → List Nat := fun i => match pastAt past i with | some p => p.anc | none => []
  have hfp : ∀ p : Past, p ∈ past → fp p.i = p.f := fun p h => by simp only [fp, pastAt_nodup hnd h]
  have hanc : ∀ p : Past, p ∈ past → anc p.i = p.anc := fun p h => by simp only [anc, pastAt_nodup hnd h]
  have hex : ∀ i, i < ops.size → ∃ (k : Nat) (p : Past), past[k]? = some p ∧ p.i = i := fun i hi => by
    have := (o3 i).2 hi
    rw [← h2] at this
    obtain ⟨p, hp, hpi⟩ := List.mem_map.1 this
    obtain ⟨k, hk⟩ := List.getElem?_of_mem hp
    exact ⟨k, p, hk, hpi⟩
  have hpos : ∀ (k : Nat) (p : Past), past[k]? = some p → posL os p.i = k := fun k p hp => posL_get o2 (by rw [← h2, List.getElem?_map, hp]; rfl)
  have htake : ∀ {k : Nat} {q : Past}, q ∈ past.take k → ∃ k', k' < k ∧ past[k']? = some q := fun {k q} hq => by
    obtain ⟨k', hk'⟩ := List.getElem?_of_mem hq
    rw [List.getElem?_take] at hk'
    split at hk'
    · exact ⟨k', by assumption, hk'⟩
    · cases hk'
  have g : GoodR ops fp anc (posL os) ops.size := by
    refine ⟨fun i o hi ho e he hb => ?_, fun i o hi ho k hk => ?_, fun i j hi hj hp => ?_⟩
    · obtain ⟨k, p, hp, rfl⟩ := hex i hi
      have hpo := h1.o k p hp
      rw [ho] at hpo; cases hpo
      have := h1.done k p hp
      unfold edgesDone at this
      have := allL_mem this e (by simpa using he)
      rw [hb] at this
      simp only [cond_true] at this
      split at this
      · rename_i q hq
        obtain ⟨q1, q2⟩ := pastAt_mem hq
        obtain ⟨k', hk1, hk2⟩ := htake q1
        have e1 := hpos k' q hk2
        have e2 := hpos k p hp
        refine ⟨?_, by rw [← q2, e1, e2]; exact hk1⟩
        have : e.on ∈ os := by rw [← h2, ← q2]; exact List.mem_map.2 ⟨q, List.mem_of_getElem? hk2, rfl⟩
        exact (o3 _).1 this
      · cases this
    · obtain ⟨kk, p, hp, rfl⟩ := hex i hi
      have hpo := h1.o kk p hp
      rw [ho] at hpo; cases hpo
      rw [hanc p (List.mem_of_getElem? hp), h1.anc kk p hp] at hk
      obtain ⟨e, he, hb, q, hq, hh⟩ := ancL_spec hk
      obtain ⟨q1, q2⟩ := pastAt_mem hq
      obtain ⟨k', hk1, hk2⟩ := htake q1
      refine ⟨e, by simpa using he, hb, ?_⟩
      rw [← q2, hanc q (List.mem_of_getElem? hk2)]
      rw [q2]
      exact hh
    · obtain ⟨k, p, hp', rfl⟩ := hex i hi
      obtain ⟨k', q, hq, rfl⟩ := hex j hj
      rw [hpos k p hp', hpos k' q hq] at hp
      have hqt : q ∈ past.take k := by
        refine List.mem_of_getElem? (i := k') ?_
        rw [List.getElem?_take, if_pos hp]; exact hq
      rcases apartAll_spec _ (h1.apart k p hp') q hqt with h | h
      · left; rw [hanc p (List.mem_of_getElem? hp')]; exact h
      · right
        intro oj oi hoj hoi
        have := h1.o k' q hq
        rw [hoj] at this; cases this
        have := h1.o k p hp'
        rw [hoi] at this; cases this
        rw [hfp q (List.mem_of_getElem? hq), hfp p (List.mem_of_getElem? hp')]
        exact h
  have hst := h4 fp hfp
  have hpw : os.Pairwise (fun a b => posL os a < posL os b) := by
    rw [List.pairwise_iff_getElem]
    intro i j hi hj hij
    rw [posL_get o2 (List.getElem?_eq_getElem hi), posL_get o2 (List.getElem?_eq_getElem hj)]
    exact hij
  refine any_sound hT hC g h3 ops.size os _ G w st a o1 o2 (fun i => ?_) (by simp) hpw (fun i o hi hl => ?_) hst hB hr hn hTd
  · rw [o3]
    constructor
    · intro h; exact ⟨h, by simp [h]⟩
    · rintro ⟨h, _⟩; exact h
  · exfalso; simp [hi] at hl
end
end Go.Vm

/-! ### 19. Code -/
namespace Go.Vm
set_option linter.unusedSimpArgs false
set_option linter.unusedVariables false

theorem least_exists {p : Nat → Prop} : ∀ n, p n → ∃ m, p m ∧ ∀ k, p k → m ≤ k := by
  intro n
  induction n using Nat.strongRecOn with
  | _ n ih =>
    intro h
    by_cases hk : ∃ k, k < n ∧ p k
    · obtain ⟨k, h1, h2⟩ := hk; exact ih k h1 h2
    · exact ⟨n, h, fun k hp => Nat.le_of_not_lt fun hlt => hk ⟨k, hlt, hp⟩⟩
noncomputable def leastN (p : Nat → Prop) : Nat := @dite _ (∃ n, p n) (Classical.propDecidable _) (fun h => Classical.choose (least_exists h.choose h.choose_spec)) (fun _ => 0)
theorem leastN_spec {p : Nat → Prop} {n : Nat} (h : p n) : p (leastN p) ∧ leastN p ≤ n := by
  have hex : ∃ n, p n := ⟨n, h⟩
  unfold leastN
  rw [dif_pos hex]
  have := Classical.choose_spec (least_exists hex.choose hex.choose_spec)
  exact ⟨this.1, this.2 n h⟩

section
variable {P : Program} {W0 : World} {E : Env} {C : FuncId → List PV → Option (List PV)}
theorem rel_heap {G : Gh} {st : St} {a : Act} {w w' : World} (hh : w'.heap = w.heap) (h : Rel G st a w) : Rel G st a w' := by
  have hx : ∀ x : Nat, w'.heap[x]? = w.heap[x]? := fun x => by rw [hh]
  have K : Keep [] G w G w' := ⟨fun _ h => h, fun x _ => hx x, fun _ _ _ _ => rfl, fun _ _ _ => rfl⟩
  refine ⟨h.len, fun t => killed_regs K h.regs t, fun b ls hb => ?_, fun k o hk => by rw [hh]; exact h.lt k o hk, fun k hk => by rw [hh]; exact h.Slt k hk, h.Sown, h.notmp, h.defers⟩
  exact relBox_keep (G := G) (G' := G) (fun _ h => h) (fun x _ => hx x) (fun _ => rfl) rfl (fun x c ho => ⟨ho, hx x⟩) (h.box b ls hb)
theorem exec_sound (hM : P.follows .mixedOrders = true) (hT : TabOk P E.T) (hC : ∀ f sg vs out, E.sig f = some sg → C f vs = some out → Sat P W0 sg (E.real f) vs out) {f : FuncId} {n m : Nat} : ∀ (c : Code) (β : Type) (G : Gh) (w : World) (st : St) (a : Act) (K : Ex → St → Option β) (b : β) (Q : Exit → Act → World → Prop),
    Base W0 G w → Rel G st a w → a.tmps.size = n → exec E C f n m c β st K = some b → ToldX G w n K b Q → c.wp P Q a w := by
  intro c
  induction c with
  | skip => intro β G w st a K b Q hB h hn he hK; exact wp_skip (hK .norm st G a w he h (Fr.refl G w) hn)
  | region id ops dr =>
    intro β G w st a K b Q hB h hn he hK
    cases dr with
    | true =>
      simp only [exec] at he
      obtain ⟨hos, he⟩ := bif_some he
      refine wp_region_any hM (runD_sound hT hC (Base.mk hB.S hB.heap) (rel_heap (G := G) (w := w) rfl h) hn hos he ?_)
      exact (hK .norm).fr ⟨rfl, rfl, rfl, Nat.le_refl _, fun _ _ _ => rfl, fun _ _ h => h, fun _ h => h, fun _ h => .inl h, fun _ => rfl⟩
    | false =>
      have := runOps_sound (P := P) (Q := Q) hT hC (ops := ops) ops.toList 0 (by simp) hB h hn he (hK .norm)
      refine wp_region ?_
      rw [List.range_eq_range']
      simpa using this
  | seq x y ihx ihy =>
    intro β G w st a K b Q hB h hn he hK
    simp only [exec] at he
    have cont : ∀ (G1 : Gh) (w1 : World), Fr G w G1 w1 → ToldX G1 w1 n (fun e st' => match e with | .norm => exec E C f n m y β st' K | e => K e st') b (Exit.then (y.wp P Q) Q) := by
      intro G1 w1 f1 e st' G' a' w' hk hr hf hn'
      cases e with
      | norm => exact ihy β G' w' st' a' K b Q (hB.rel h (f1.trans hf)) hr hn' hk (hK.fr (f1.trans hf))
      | exit i => exact hK (.exit i) st' G' a' w' hk hr (f1.trans hf) hn'
      | ret => exact hK .ret st' G' a' w' hk hr (f1.trans hf) hn'
    split at he
    · exact wp_seq (ihx β G w st a _ b _ hB h hn he (cont G w (Fr.refl G w)))
    · rename_i outs _
      obtain ⟨r, h1, h2⟩ := bindO_some he
      refine wp_seq (ihx _ G w st a _ r _ hB h hn h1 ?_)
      intro e st' G' a' w' hk hr hf hn'
      obtain ⟨i, vs⟩ := r
      obtain ⟨_, tm, hp, hk2⟩ := packOut_dispatch outs 0 hk h2
      obtain ⟨G2, hr2, hf2⟩ := pack_rel hr hp hn'
      exact cont G' w' hf e _ G2 a' w' hk2 hr2 hf2 hn'
  | cond c x y ihx ihy =>
    intro β G w st a K b Q hB h hn he hK
    simp only [exec] at he
    split at he
    case h_2 => cases he
    rename_i t hv
    have hc := (valOf_rel hv (opnd_rel h c)).1
    cases t with
    | true => exact wp_cond_true hc (ihx β G w st a K b Q hB h hn he hK)
    | false => exact wp_cond_false hc (ihy β G w st a K b Q hB h hn he hK)
  | block id c ih =>
    intro β G w st a K b Q hB h hn he hK
    simp only [exec] at he
    refine wp_block (ih β G w st a _ b _ hB h hn he ?_)
    intro e st' G' a' w' hk hr hf hn'
    cases e with
    | norm => exact hK .norm st' G' a' w' hk hr hf hn'
    | ret => exact hK .ret st' G' a' w' hk hr hf hn'
    | exit i =>
      dsimp only at hk
      show (if i = id then Q .normal a' w' else Q (.exit i) a' w')
      cases hb : Nat.beq i id with
      | true =>
        rw [hb] at hk
        rw [if_pos (Nat.eq_of_beq_eq_true hb)]
        exact hK .norm st' G' a' w' hk hr hf hn'
      | false =>
        rw [hb] at hk
        rw [if_neg (fun e => by subst e; have := Nat.beq_refl i; rw [hb] at this; cases this)]
        exact hK (.exit i) st' G' a' w' hk hr hf hn'
  | loop c ih =>
    intro β G w st a K b Q hB h hn he hK
    simp only [exec] at he
    split at he
    case h_1 => cases he
    rename_i lp _
    obtain ⟨vs, hvs, he⟩ := bindO_some he
    obtain ⟨r, hr0, hd⟩ := bindO_some he
    obtain ⟨ri, rv⟩ := r
    obtain ⟨G0, hrel0, hfr0⟩ := pack_rel h hvs hn
    let step := fun (rec : List PV → Option (Nat × List PV)) (vs : List PV) => exec E C f n m c (Nat × List PV) (lp.head.inst n vs) fun e st' => match e with | .norm => bindO (lp.head.pack st') rec | e => packOut lp.outs 0 e st'
    let J : Act → World → Nat → Prop := fun a' w' m' => ∃ vs' G', iterN step m' vs' = some (ri, rv) ∧ Rel G' (lp.head.inst n vs') a' w' ∧ Fr G w G' w' ∧ a'.tmps.size = n
    refine wp_loop (fun a' w' => ∃ m', J a' w' m') (fun a' w' => leastN (J a' w')) ⟨m, vs, G0, hr0, hrel0, hfr0, hn⟩ ?_
    rintro a' w' ⟨m', hJ⟩
    obtain ⟨hJ0, _⟩ := leastN_spec hJ
    generalize hm0 : leastN (J a' w') = m0 at hJ0
    obtain ⟨vs', G', hit, hrel, hfr, hn'⟩ := hJ0
    cases m0 with
    | zero => cases hit
    | succ k =>
      refine ih (Nat × List PV) G' w' (lp.head.inst n vs') a' _ (ri, rv) _ (hB.rel h hfr) hrel hn' hit ?_
      have outK : ∀ (e : Ex) (st' : St) (G1 : Gh) (a1 : Act) (w1 : World), packOut lp.outs 0 e st' = some (ri, rv) → Rel G1 st' a1 w1 → Fr G' w' G1 w1 → a1.tmps.size = n → Q e.toExit a1 w1 := by
        intro e st' G1 a1 w1 hk hr hf hn1
        obtain ⟨_, tm, hp, hk2⟩ := packOut_dispatch lp.outs 0 hk hd
        obtain ⟨G2, hr2, hf2⟩ := pack_rel hr hp hn1
        exact hK e _ G2 a1 w1 hk2 hr2 ((hfr.trans hf).trans hf2) hn1
      intro e st' G1 a1 w1 hk hr hf hn1
      cases e with
      | norm =>
        obtain ⟨vs2, hp, hk2⟩ := bindO_some hk
        obtain ⟨G2, hr2, hf2⟩ := pack_rel hr hp hn1
        have hJ2 : J a1 w1 k := ⟨vs2, G2, hk2, hr2, (hfr.trans hf).trans hf2, hn1⟩
        exact ⟨⟨k, hJ2⟩, Nat.lt_of_le_of_lt (leastN_spec hJ2).2 (Nat.lt_succ_self k)⟩
      | exit i => exact outK (.exit i) st' G1 a1 w1 hk hr hf hn1
      | ret => exact outK .ret st' G1 a1 w1 hk hr hf hn1
  | exit id => intro β G w st a K b Q hB h hn he hK; exact wp_exit (hK (.exit id) st G a w he h (Fr.refl G w) hn)
  | ret => intro β G w st a K b Q hB h hn he hK; exact wp_ret (hK .ret st G a w he h (Fr.refl G w) hn)
  | _ => intro β G w st a K b Q hB h hn he hK; simp only [exec] at he; cases he
end
end Go.Vm

/-! ### 20. Functions -/
namespace Go.Vm
set_option linter.unusedSimpArgs false
set_option linter.unusedVariables false
section
variable {P : Program} {E : Env}

theorem params_rel {G : Gh} {w : World} {tmps : Array Value} : ∀ (ps : List (Bool × List RK)) (vs : List PV) (c i : Nat) (rs : List RV) (args : List Value), All2 (RelC G w) (instRes ps vs c) args → (∀ t, RelRV G w (getL .un rs t) (tmps.getD t undef)) → (∀ (j : Nat) (v : Value), args[j]? = some v → tmps.getD (i + j) undef = v) →
    (∀ t, RelRV G w (getL .un (instRegs (paramRegs ps i) vs c rs) t) (tmps.getD t undef)) ∧ cntRegs (paramRegs ps i) c = resCnt ps c
  | [], vs, c, i, rs, args, h, hr, ha => ⟨hr, rfl⟩
  | (ag, ks) :: ps, vs, c, i, rs, args, h, hr, ha => by
    cases h with
    | @cons _ v _ args0 h0 ht =>
    have hv : tmps.getD i undef = v := by have := ha 0 v rfl; simpa using this
    have := params_rel (tmps := tmps) ps vs (cntL ks c) (i + 1) (setL rs i (.v ag (instL ks vs c))) args0 ht (fun t => by
      rw [getL_setL]
      split
      · rename_i e; rw [← e.1, hv]; exact h0
      · exact hr t) (fun j u hu => by have := ha (j + 1) u (by simpa using hu); rw [← this]; congr 1; omega)
    exact this

def offs : List ResultVar → List (Bool × List RK) → Nat → Tmp → Option Nat
  | .cell t _ :: rs, (_, ks) :: r, c, t' => if t = t' then some c else offs rs r (c + ks.length) t'
  | .tmp t :: rs, (_, ks) :: r, c, t' => if plKs ks = false ∧ t = t' then some c else offs rs r (c + ks.length) t'
  | _, _, _, _ => none
theorem offs_none : ∀ (rs : List ResultVar) (r : List (Bool × List RK)) (c : Nat) (t : Tmp), t ∉ resBx rs r → offs rs r c t = none
  | [], _, _, _, _ => by unfold offs; rfl
  | .cell _ _ :: _, [], _, _, _ => rfl
  | .tmp _ :: _, [], _, _, _ => rfl
  | .cell t ty :: rs, (ag, ks) :: r, c, t', h => by
    simp only [resBx, List.mem_cons, not_or] at h
    simp only [offs]
    rw [if_neg (fun e => h.1 e.symm)]
    exact offs_none rs r _ t' h.2
  | .tmp t :: rs, (ag, ks) :: r, c, t', h => by
    simp only [offs]
    cases hp : plKs ks with
    | true =>
      simp only [resBx, hp, cond_true] at h
      rw [if_neg (fun e => by cases e.1)]
      exact offs_none rs r _ t' h
    | false =>
      simp only [resBx, hp, cond_false, List.mem_cons, not_or] at h
      rw [if_neg (fun e => h.1 e.2.symm)]
      exact offs_none rs r _ t' h.2
def resG (G : Gh) (off : Tmp → Option Nat) : Gh where
  blk := G.blk
  hdr := G.hdr
  own := fun x => match G.own x with
    | some (.loc t, some j) => (off t).map fun o => (.tmp, some (o + j))
    | some (.par i, c) => some (.par i, c)
    | _ => none
  S := G.S
theorem resG_loc {G : Gh} {off : Tmp → Option Nat} {x t j o : Nat} (h : G.own x = some (.loc t, some j)) (ho : off t = some o) : (resG G off).own x = some (.tmp, some (o + j)) := by simp [resG, h, ho]
theorem resG_par {G : Gh} {off : Tmp → Option Nat} {x i : Nat} {c : Option Nat} (h : G.own x = some (.par i, c)) : (resG G off).own x = some (.par i, c) := by simp [resG, h]
theorem resG_none {G : Gh} {off : Tmp → Option Nat} {x : Nat} (h : G.own x = none) : (resG G off).own x = none := by simp [resG, h]

theorem res_tl {G : Gh} {w : World} {off : Tmp → Option Nat} {t j o : Nat} {l : Lf} {v : Value} (ho : off t = some o) (h : RelCell G w (.loc t) j l v) : TL (resG G off) w (o + j) l v := by
  cases l with
  | own e sz d r => exact OwnRow.ren (G' := resG G off) h.2 (fun _ h => h) (fun _ _ => rfl) fun x hx => ⟨resG_loc hx ho, rfl⟩
  | un => exact h
  | pv p => exact h
  | fn f caps => exact h
  | hd _ _ => exact h.elim
  | tk _ _ _ => exact h.elim
  | vw _ _ _ _ _ => exact h.elim
  | ptr _ => exact h.elim

def resOne (tmps : Array Value) : ResultVar → Sem Value
  | .tmp t => pure (tmps.getD t undef)
  | .cell b ty => do loadVar ty (← asAddr (tmps.getD b undef))
theorem not_anyL {t : Tmp} {l : List Tmp} (h : anyL (fun t' => Nat.beq t t') l = false) : t ∉ l := by
  intro hm
  have := any_false h t hm
  rw [Nat.beq_refl] at this; cases this
theorem results_list {T : TypeId → Option TI} (hT : TabOk P T) {G : Gh} {w : World} {st : St} {a : Act} (h : Rel G st a w) (off : Tmp → Option Nat) :
    ∀ (rs : List ResultVar) (ks : List (Bool × List RK)) (y pre post : List PV) (c : Nat), resPack T st rs ks = some y → (∀ t, t ∈ resBx rs ks → off t = offs rs ks c t) →
      resCnt ks pre.length = pre.length + y.length ∧ ∃ us : List Value, Sem.run P (rs.mapM (resOne a.tmps)) w = Result.ok us w ∧ RetAll (resG G off) w (instRes ks (pre ++ y ++ post) pre.length) c us
  | [], [], y, pre, post, c, hr, ho => by
    cases hr
    exact ⟨rfl, [], by simp, trivial⟩
  | [], _ :: _, y, pre, post, c, hr, ho => by cases hr
  | .tmp _ :: _, [], y, pre, post, c, hr, ho => by cases hr
  | .cell _ _ :: _, [], y, pre, post, c, hr, ho => by cases hr
  | .tmp t :: rs, (ag, ks) :: kss, y, pre, post, c, hr, ho => by
    unfold resPack at hr
    cases hpl : plKs ks with
    | true =>
      rw [hpl] at hr
      simp only [cond_true] at hr
      split at hr
      case h_2 => cases hr
      rename_i ag' ls hreg
      cases hxx : xor ag ag' with
      | true => rw [hxx] at hr; cases hr
      | false =>
        rw [hxx] at hr
        obtain ⟨y1, y2, hy1, hy2, rfl⟩ := catO_some hr
        have hag : ag = ag' := by cases ag <;> cases ag' <;> first | rfl | (cases hxx)
        subst hag
        obtain ⟨m1, m2, m3, m4⟩ := matchL_stands (G := G) (w := w) ks ls y1 pre (y2 ++ post) hy1
        have hl : (pre ++ y1).length = cntL ks pre.length := by rw [m2]; simp
        have hrel : RelC G w (ag, ls) (a.tmps.getD t undef) := by
          have := h.regs t
          rw [hreg] at this
          exact this
        have hrel2 := stands_c m3 m4 hrel
        obtain ⟨i2, us, i3, i4⟩ := results_list hT h off rs kss y2 (pre ++ y1) post (c + ks.length) hy2 (fun t' ht' => by
          have := ho t' (by simp only [resBx, hpl, cond_true]; exact ht')
          rw [this]
          simp only [offs]
          rw [if_neg (fun e => by rw [hpl] at e; cases e.1)])
        have hinst : ∀ (ks : List RK) (vs : List PV) (i j : Nat) (l : Lf), plKs ks = true → (instL ks vs i)[j]? = some l → ∃ p, l = .pv p := by
          intro ks
          induction ks with
          | nil => intro vs i j l _ hj; simp [instL] at hj
          | cons k ks ih =>
            intro vs i j l hp hj
            unfold plKs at hp ih
            simp only [allL, Bool.and_eq_true] at hp
            cases j with
            | zero =>
              simp only [instL, List.getElem?_cons_zero, Option.some.injEq] at hj
              subst hj
              cases k <;> first | exact ⟨_, rfl⟩ | (cases hp.1)
            | succ j =>
              simp only [instL, List.getElem?_cons_succ] at hj
              exact ih vs _ j l hp.2 hj
        have hret : RetC (resG G off) w c (ag, instL ks (pre ++ y1 ++ (y2 ++ post)) pre.length) (a.tmps.getD t undef) := by
          have key : ∀ us0 : List Value, All2 (fun l u => RelLf G w l u ∧ u.oneCell' = true) (instL ks (pre ++ y1 ++ (y2 ++ post)) pre.length) us0 → RetLs (resG G off) w (instL ks (pre ++ y1 ++ (y2 ++ post)) pre.length) us0 c := by
            intro us0 ha
            refine ⟨ha.length, fun i l u hl hu => ?_⟩
            obtain ⟨u', hu', hr⟩ := ha.get hl
            rw [hu] at hu'; cases hu'
            obtain ⟨p, rfl⟩ := hinst ks _ _ i l hpl hl
            exact ⟨hr.1, hr.2⟩
          cases ag with
          | true =>
            obtain ⟨us0, hv, ha⟩ := hrel2
            exact ⟨us0, hv, key us0 ha⟩
          | false =>
            obtain ⟨l, h1, h2, h3⟩ := hrel2
            exact key [a.tmps.getD t undef] (by dsimp only at h1; rw [h1]; exact .cons ⟨h2, h3⟩ .nil)
        refine ⟨by simp only [resCnt]; rw [← hl, i2]; simp; omega, a.tmps.getD t undef :: us, ?_, ?_⟩
        · rw [List.mapM_cons]
          simp only [resOne, Sem.run_bind, Sem.run_pure, Result.andThen_ok]
          rw [i3]; rfl
        · simp only [instRes]
          rw [show pre ++ (y1 ++ y2) ++ post = pre ++ y1 ++ (y2 ++ post) from by simp]
          refine ⟨hret, ?_⟩
          dsimp only
          rw [instL_len, ← hl]
          rw [show pre ++ y1 ++ (y2 ++ post) = pre ++ y1 ++ y2 ++ post from by simp]
          exact i4
    | false =>
      rw [hpl] at hr
      simp only [cond_false] at hr
      split at hr
      case h_2 => cases hr
      rename_i b c0 e0 sz0 d0 r0 hreg hbx
      obtain ⟨hc, hr2⟩ := bif_some hr
      clear hr
      simp only [Bool.and_eq_true, Bool.not_eq_true'] at hc
      obtain ⟨⟨hag, hb, hc0⟩, hnd⟩ := hc
      have hb := B.beq_iff.1 hb
      have hc0 := Nat.eq_of_beq_eq_true hc0
      subst hb; subst hc0; subst hag
      obtain ⟨y1, y2, hy1, hy2, rfl⟩ := catO_some hr2
      obtain ⟨l, hl0⟩ : ∃ l, l = Lf.own e0 sz0 d0 r0 := ⟨_, rfl⟩
      rw [← hl0] at hy1 hbx
      obtain ⟨m1, m2, m3, m4⟩ := matchL_stands (G := G) (w := w) ks [l] y1 pre (y2 ++ post) hy1
      have hl : (pre ++ y1).length = cntL ks pre.length := by rw [m2]; simp
      have hmem : t ∈ resBx (.tmp t :: rs) ((false, ks) :: kss) := by simp [resBx, hpl]
      have hoff : off t = some c := by
        rw [ho t hmem]; simp [offs, hpl]
      obtain ⟨i2, us, i3, i4⟩ := results_list hT h off rs kss y2 (pre ++ y1) post (c + ks.length) hy2 (fun t' ht' => by
        have hne : t ≠ t' := by rintro rfl; exact not_anyL hnd ht'
        have := ho t' (by simp only [resBx, hpl, cond_false]; exact List.mem_cons_of_mem _ ht')
        rw [this]
        simp only [offs]
        rw [if_neg (fun e => hne e.2)])
      -- the row that the register names
      have hrel := h.regs t
      rw [hreg] at hrel
      obtain ⟨⟨⟨hv, htmp⟩, _⟩, hone⟩ := one_rel.1 hrel
      have hbox := h.box (.loc t) [l] hbx
      have hcell : l = .un ∨ RelCell G w (.loc t) 0 l (a.tmps.getD t undef) := by
        unfold RelBox at hbox
        split at hbox
        · rename_i k hk
          obtain ⟨_, cs, ty, hh, hs, hcs⟩ := hbox
          obtain ⟨v, hv', hrc⟩ := hcs 0 l rfl
          rw [hl0] at hrc ⊢
          right; rw [hv, ← hrc.1]; exact hrc
        · rcases hbox 0 l rfl with e | e
          · exact .inl e
          · right; rw [hv]; exact e
      have hln : ks.length = 1 := by rw [m1]; rfl
      have hret : RetLs (resG G off) w (instL ks (pre ++ y1 ++ (y2 ++ post)) pre.length) [a.tmps.getD t undef] c := by
        refine ⟨by rw [m3]; rfl, fun i l' u hl' hu => ?_⟩
        have hi : i = 0 := by
          have := (List.getElem?_eq_some_iff.1 hu).1
          simp at this; exact this
        subst hi
        simp only [List.getElem?_cons_zero, Option.some.injEq] at hu
        subst hu
        have hst := m4 0 l l' rfl hl'
        rcases hcell with rfl | hcell
        · have := hst.2.2 rfl
          subst this
          exact ⟨hone, hone⟩
        · have h2 := hst.2.1 _ _ _ hcell
          exact ⟨res_tl hoff h2, hone⟩
      refine ⟨by simp only [resCnt]; rw [← hl, i2]; simp; omega, a.tmps.getD t undef :: us, ?_, ?_⟩
      · rw [List.mapM_cons]
        simp only [resOne, Sem.run_bind, Sem.run_pure, Result.andThen_ok]
        rw [i3]; rfl
      · simp only [instRes]
        rw [show pre ++ (y1 ++ y2) ++ post = pre ++ y1 ++ (y2 ++ post) from by simp]
        refine ⟨hret, ?_⟩
        dsimp only
        rw [instL_len, ← hl]
        rw [show pre ++ y1 ++ (y2 ++ post) = pre ++ y1 ++ y2 ++ post from by simp]
        exact i4
  | .cell t ty :: rs, (ag, ks) :: kss, y, pre, post, c, hr, ho => by
    unfold resPack at hr
    split at hr
    case h_2 => cases hr
    rename_i ti b0 off0 ls hti hreg hls
    obtain ⟨hc, hr2⟩ := bif_some hr
    clear hr
    simp only [Bool.and_eq_true, Bool.not_eq_true'] at hc
    obtain ⟨⟨hag, hlen⟩, ⟨hb0, hoff0⟩, hnd⟩ := hc
    have hb0 := B.beq_iff.1 hb0
    have hoff0 := Nat.eq_of_beq_eq_true hoff0
    subst hb0; subst hoff0
    have hag : ag = ti.agg := by revert hag; cases ag <;> cases ti.agg <;> simp
    have hlen := Nat.eq_of_beq_eq_true hlen
    rw [lenL_eq, lenL_eq] at hlen
    obtain ⟨y1, y2, hy1, hy2, rfl⟩ := catO_some hr2
    have hty := hT ty ti hti
    have hrel := h.regs t
    rw [hreg] at hrel
    obtain ⟨k, hblk, hptr, _⟩ := (one_rel.1 hrel).1
    have hbox := h.box (.loc t) ls hls
    unfold RelBox at hbox
    rw [hblk] at hbox
    obtain ⟨_, cs, ty', hk, hsz, hcell⟩ := hbox
    obtain ⟨m1, m2, m3, m4⟩ := matchL_stands (G := G) (w := w) ks ls y1 pre (y2 ++ post) hy1
    have hcs : cs.toList.length = ti.kinds.length := by rw [Array.length_toList, hsz, ← m1, hlen]
    have hload := loadVar_run (w := w) hty (k := k) (off := 0) (vs := cs.toList) hcs fun j v hj => by
      rw [Nat.zero_add, cell_of hk]; simpa using hj
    have hmem : t ∈ resBx (.cell t ty :: rs) ((ag, ks) :: kss) := by simp [resBx]
    have hoff : off t = some c := by
      rw [ho t hmem]; simp [offs]
    have hret : RetLs (resG G off) w (instL ks (pre ++ y1 ++ (y2 ++ post)) pre.length) cs.toList c := by
      refine ⟨by rw [m3, ← m1, hlen, hcs], fun i l u hl hu => ?_⟩
      have hlt : i < ls.length := by rw [← m3]; exact (List.getElem?_eq_some_iff.1 hl).1
      have hst := m4 i _ l (List.getElem?_eq_getElem hlt) hl
      obtain ⟨v, hv, hrc⟩ := hcell i _ (List.getElem?_eq_getElem hlt)
      have : v = u := by
        have : cs[i]? = some u := by simpa using hu
        rw [hv] at this; cases this; rfl
      subst this
      have h2 := hst.2.1 _ _ _ hrc
      exact ⟨res_tl hoff h2, relCell_one h2⟩
    obtain ⟨i2, us, i3, i4⟩ := results_list hT h off rs kss y2 (pre ++ y1) post (c + ks.length) hy2 (fun t' ht' => by
      have hne : t ≠ t' := by rintro rfl; exact not_anyL hnd ht'
      have := ho t' (by simp only [resBx]; exact List.mem_cons_of_mem _ ht')
      rw [this]
      simp only [offs]
      rw [if_neg hne])
    have hl : (pre ++ y1).length = cntL ks pre.length := by rw [m2]; simp
    refine ⟨?_, ?_⟩
    · simp only [resCnt]; rw [← hl, i2]; simp; omega
    · refine ⟨(bif ti.agg then .agg cs.toList.toArray else cs.toList.headD undef) :: us, ?_, ?_⟩
      · rw [List.mapM_cons]
        simp only [resOne, Sem.run_bind, hptr, asAddr, Sem.run_pure, Result.andThen_ok, hload]
        rw [i3]; rfl
      · simp only [instRes]
        rw [show pre ++ (y1 ++ y2) ++ post = pre ++ y1 ++ (y2 ++ post) from by simp]
        refine ⟨?_, ?_⟩
        · subst hag
          cases hagg : ti.agg with
          | true => exact ⟨cs.toList, rfl, hret⟩
          | false =>
            have h1 := hty.single hagg
            rw [h1] at hcs
            obtain ⟨u, hu⟩ := List.length_eq_one_iff.1 hcs
            show RetLs _ _ _ [cs.toList.headD undef] c
            rw [hu] at hret ⊢
            exact hret
        · dsimp only
          rw [instL_len, ← hl]
          rw [show pre ++ y1 ++ (y2 ++ post) = pre ++ y1 ++ y2 ++ post from by simp]
          exact i4
end
end Go.Vm

/-! ### 21. Every function -/
namespace Go.Vm
set_option linter.unusedSimpArgs false
set_option linter.unusedVariables false

structure EnvOk (P : Program) (W0 : World) (E : Env) : Prop where
  orders : P.follows .mixedOrders = true
  tab : TabOk P E.T
  fn : ∀ f fn, E.F f = some fn → P.funcs[E.real f]? = some fn ∧ (fn.name == "runtime.NumGoroutine") = false
  lib : ∀ f sg vs out, E.F f = none → E.sig f = some sg → E.lib f vs = some out → Sat P W0 sg (E.real f) vs out

section
variable {P : Program} {W0 : World} {E : Env}
theorem callFunc_enter {f : FuncId} {fn : Func} {c : Code} (hf : P.funcs[f]? = some fn) (hname : (fn.name == "runtime.NumGoroutine") = false) (hb : fn.body = some c) (args : Array Value) (w : World) :
    (callFunc f args).run P w = .ok (.enter f args) w := by
  have h1 : fn.name ≠ "runtime.NumGoroutine" := by simpa using hname
  simp [callFunc, hf, h1, hb]

theorem runFn_sound (hM : P.follows .mixedOrders = true) (hT : TabOk P E.T) {C : FuncId → List PV → Option (List PV)} (hC : ∀ f sg vs out, E.sig f = some sg → C f vs = some out → Sat P W0 sg (E.real f) vs out) {f fr : FuncId} {fn : Func} {m : Nat} {vs out : List PV} {sg : Sig} (hsg : E.sig f = some sg)
    (hf : P.funcs[fr]? = some fn) (hname : (fn.name == "runtime.NumGoroutine") = false) (h : runFn E C m f fn vs = some out) : Sat P W0 sg fr vs out := by
  intro G w args hB ha hb hwf hnt
  unfold runFn at h
  rw [hsg] at h
  split at h
  case h_2 => cases h
  rename_i _ _ sg' c hsg' hc
  cases hsg'
  obtain ⟨hle, h⟩ := bif_some h
  have hle := Nat.le_of_ble_eq_true hle
  rw [lenL_eq] at hle
  have hpl : ∀ (ps : List (Bool × List RK)) (vs : List PV) (c : Nat), (instRes ps vs c).length = ps.length := by
    intro ps
    induction ps with
    | nil => intro _ _; rfl
    | cons p ps ih => intro vs c; obtain ⟨ag, ks⟩ := p; simp [instRes, ih]
  have hal : args.length = sg.params.length := by rw [← ha.length, hpl]
  refine .inl ⟨callFunc_enter hf hname hc _ _, calls_of_wp hf hc ?_⟩
  let tmps : Array Value := args.toArray ++ Array.replicate (fn.ntmps - args.toArray.size) undef
  have hts : tmps.size = fn.ntmps := by simp [tmps]; omega
  have hget : ∀ (j : Nat) (v : Value), args[j]? = some v → tmps.getD (0 + j) undef = v := by
    intro j v hj
    have hlt := (List.getElem?_eq_some_iff.1 hj).1
    rw [Nat.zero_add, Array.getD_eq_getD_getElem?]
    have : tmps[j]? = some v := by
      show (args.toArray ++ _)[j]? = _
      rw [Array.getElem?_append_left (by simpa using hlt)]
      simpa using hj
    rw [this]; rfl
  obtain ⟨p1, p2⟩ := params_rel (G := G) (w := w) (tmps := tmps) sg.params vs 0 0 (blank .un fn.ntmps) args ha (fun t => by
    rcases blank_get RV.un RV.un fn.ntmps t with e | e <;> (rw [e]; trivial)) hget
  have hrel : Rel G (Tm.inst ⟨paramRegs sg.params 0, [], sg.pbox⟩ fn.ntmps vs) { tmps := tmps, defers := [] } w := by
    refine ⟨?_, p1, ?_, hwf.lt, hwf.Slt, hwf.Sown, hnt, rfl⟩
    · show (instRegs _ _ _ _).length = _
      rw [instRegs_len, blank_len]; exact hts.symm
    · intro b ls hbx
      cases b with
      | tmp => cases hbx
      | loc t =>
        have hbx' : getL none (blank (none : Option (List Lf)) fn.ntmps) t = some ls := hbx
        rcases blank_get (none : Option (List Lf)) none fn.ntmps t with e | e <;> (rw [e] at hbx'; cases hbx')
      | par i =>
        refine hb i ls ?_
        have hbx' : getL none (instPb sg.pbox vs (cntLb [] (cntRegs (paramRegs sg.params 0) 0))) i = some ls := hbx
        rw [p2] at hbx'
        exact hbx'
  refine exec_sound hM hT hC c (List PV) G w _ { tmps := tmps, defers := [] } _ out _ hB hrel hts h ?_
  intro e st' G' a' w' hk hr hfr hn'
  have fin : (catO (resPack E.T (st'.freezes (resViews st' fn.results.toList sg.res ++ ownsPb 0 sg.rbox st'.pb)) fn.results.toList sg.res) (matchPb sg.rbox (st'.freezes (resViews st' fn.results.toList sg.res ++ ownsPb 0 sg.rbox st'.pb)).pb)) = some out →
      a'.defers = [] ∧ ∃ v, (results fn a'.tmps).run P w' = .ok v w' ∧
      ∃ v', Ending.returned v = .returned v' ∧ ∃ G'', Fr G w G'' w' ∧ (∃ us, v' = retVal us ∧ RetAll G'' w' (instRes sg.res out 0) 0 us) ∧ (∀ i ls, getL none (instPb sg.rbox out (resCnt sg.res 0)) i = some ls → RelBox G'' w' (.par i) ls) ∧ Wf G'' w' := by
    intro hp
    refine ⟨hr.defers, ?_⟩
    obtain ⟨G1, h1, f1⟩ := freezes_rel (resViews st' fn.results.toList sg.res ++ ownsPb 0 sg.rbox st'.pb) hr
    generalize st'.freezes (resViews st' fn.results.toList sg.res ++ ownsPb 0 sg.rbox st'.pb) = st1 at hp h1
    obtain ⟨y, z, hy, hz, rfl⟩ := catO_some hp
    obtain ⟨r2, us, r3, r4⟩ := results_list hT h1 (offs fn.results.toList sg.res 0) fn.results.toList sg.res y [] z 0 hy (fun t _ => rfl)
    have r2' : resCnt sg.res 0 = y.length := by have := r2; simpa using this
    refine ⟨retVal us, ?_, retVal us, rfl, resG G1 (offs fn.results.toList sg.res 0), ?_, ⟨us, rfl, by simpa using r4⟩, fun i ls hi => ?_, ?_⟩
    · unfold results
      rw [Sem.run_bind, Array.mapM_eq_mapM_toList]
      simp only [map_eq_pure_bind, Sem.run_bind]
      change (((Sem.run P (fn.results.toList.mapM (resOne a'.tmps)) w').andThen _).andThen _) = _
      rw [r3]
      simp only [Result.andThen_ok, Sem.run_pure]
      have fin : ∀ us : List Value, (if h : us.toArray.size = 1 then us.toArray[0] else Value.tuple us.toArray) = retVal us := by
        intro us
        match us with
        | [] => rfl
        | [v] => rfl
        | v :: u :: r => simp [retVal]
      rw [← fin us]
    · refine (hfr.trans f1).trans ⟨rfl, rfl, rfl, Nat.le_refl _, fun _ _ _ => rfl, fun x _ hx => resG_none hx, fun _ h => h, fun _ h => .inl h, fun _ => rfl⟩
    · rw [r2'] at hi
      obtain ⟨ls0, g1, g2, g3⟩ := matchPb_sound (G := G1) (w := w') sg.rbox st1.pb z y [] hz i ls (by simpa using hi)
      have := stands_box g2 g3 (h1.box (.par i) ls0 g1)
      exact relBox_keep (G := G1) (G' := resG G1 (offs fn.results.toList sg.res 0)) (fun _ h => h) (fun _ _ => rfl) (fun _ => rfl) rfl (fun x c hx => ⟨resG_par hx, rfl⟩) this
    · refine ⟨fun k q hk => ?_, h1.Slt, fun k hk => resG_none (h1.Sown k hk)⟩
      cases e : G1.own k with
      | none => rw [resG_none e] at hk; cases hk
      | some q' => exact h1.lt k q' e
  cases e with
  | norm => exact fin hk
  | ret => exact fin hk
  | exit i => cases hk

/-- What the plain run of a function gives, the machine gives. -/
theorem callN_sound (hE : EnvOk P W0 E) : ∀ (n : Nat) (f : FuncId) (sg : Sig) (vs out : List PV), E.sig f = some sg → callN E n f vs = some out → Sat P W0 sg (E.real f) vs out
  | 0, f, sg, vs, out, _, h => by cases h
  | n + 1, f, sg, vs, out, hsg, h => by
    unfold callN at h
    split at h
    · rename_i fn hf
      exact runFn_sound hE.orders hE.tab (callN_sound hE n) hsg (hE.fn f fn hf).1 (hE.fn f fn hf).2 h
    · rename_i hf
      exact hE.lib f sg vs out hf hsg h
end
end Go.Vm

/-! ### 30. The least oracle: what a program's functions answer, without a bound -/
namespace Go.Vm
set_option linter.unusedSimpArgs false
set_option linter.unusedVariables false

def Sub (C C' : FuncId → List PV → Option (List PV)) : Prop := ∀ f vs out, C f vs = some out → C' f vs = some out
def Le {α β : Type} (K K' : α → Option β) : Prop := ∀ a b, K a = some b → K' a = some b
theorem bindO_le {α β : Type} {x x' : Option α} {k k' : α → Option β} {b : β} (hx : ∀ a, x = some a → x' = some a) (hk : Le k k') (h : bindO x k = some b) : bindO x' k' = some b := by
  obtain ⟨a, h1, h2⟩ := bindO_some h
  rw [hx a h1]
  exact hk a b h2
theorem chkC_le {β : Type} {p : Cnd} {x x' : Option β} {b : β} (hx : ∀ a, x = some a → x' = some a) (h : chkC p x = some b) : chkC p x' = some b := by
  obtain ⟨h1, h2⟩ := chkC_some h
  have := hx b h2
  cases p with
  | t => exact this
  | p q => exact (chk_pos h1).trans this

section
variable {E : Env} {C C' : FuncId → List PV → Option (List PV)} {β : Type}
theorem callE_le (hC : Sub C C') {sig : FuncId → Option Sig} {f : FuncId} {rvs : List RV} {dst : Option Tmp} {bx : BX} {K K' : Eff → Option β} (hK : Le K K') {b : β} (h : callE sig C f rvs dst bx K = some b) : callE sig C' f rvs dst bx K' = some b := by
  unfold callE at h ⊢
  split at h
  case h_2 => cases h
  rename_i d sg hs
  try rw [hs]
  try dsimp only at h ⊢
  split at h
  · cases h
  rename_i bs hb
  try rw [hb]
  try dsimp only at h ⊢
  revert h
  generalize (anyL (fun b => b.beq (.loc d)) bs || !(sameLens sg.pbox sg.rbox)) = c
  cases c with
  | true => intro h; cases h
  | false =>
    simp only [cond_false]
    intro h
    split at h
    · cases h
    rename_i ls hl
    try rw [hl]
    try dsimp only at h ⊢
    refine bindO_le (fun a h => h) (fun vs b h => bindO_le (fun a h => hC _ _ _ h) (fun out b h => hK _ _ h) h) h
theorem opK_le (hC : Sub C C') {o : Oper} {st : St} {K K' : St → Option β} (hK : Le K K') {b : β} (h : opK E C o st K = some b) : opK E C' o st K' = some b := by
  unfold opK at h ⊢
  split at h
  · rename_i x args tys ho
    try rw [ho]
    unfold callK at h ⊢
    split at h
    · cases h
    · rename_i v f0 rvs hf
      try rw [hf]
      try dsimp only at h ⊢
      split at h
      · rename_i v1 f rvs1 hf1
        try rw [hf1]
        try dsimp only at h ⊢
        obtain ⟨hc, h⟩ := bif_some h
        rw [hc]
        exact callE_le hC (fun e b h => hK _ _ h) h
      · cases h
  · split at h
    · rename_i p e he
      try rw [he]
      exact chkC_le (fun a h => hK _ _ h) h
    · cases h
theorem runOp_le (hC : Sub C C') {ops : List Oper} {sh : Bool} {o : Oper} {st : St} {K K' : St → Option β} (hK : Le K K') {b : β} (h : runOp E C ops sh o st K = some b) : runOp E C' ops sh o st K' = some b := by
  have run : ∀ st : St, (bif sh then opK E C o (st.freezes (viewsOp o.op.operands.toList st.regs)) K else opK E C o st K) = some b → (bif sh then opK E C' o (st.freezes (viewsOp o.op.operands.toList st.regs)) K' else opK E C' o st K') = some b := by
    intro st h
    cases sh with
    | true => exact opK_le hC hK h
    | false => exact opK_le hC hK h
  unfold runOp at h ⊢
  try dsimp only at h ⊢
  split at h
  · rename_i hg; try rw [hg]
    exact run _ h
  · rename_i g want hg
    try rw [hg]
    try dsimp only at h ⊢
    split at h
    · cases h
    · rename_i t ht
      try rw [ht]
      try dsimp only at h ⊢
      split at h
      · rename_i bb hb
        try rw [hb]
        try dsimp only
        cases bb <;> cases want <;> simp only [cond_true, cond_false] at h ⊢ <;> first | exact run _ h | exact hK _ _ h
      · rename_i hb
        try rw [hb]
        exact hK _ _ h
      · cases h
theorem runOps_le (hC : Sub C C') {ops : List Oper} {sh : Nat → Bool} {K K' : St → Option β} (hK : Le K K') {b : β} : ∀ (l : List Oper) (i : Nat) (st : St), runOps E C sh ops i l st K = some b → runOps E C' sh ops i l st K' = some b
  | [], i, st, h => hK _ _ h
  | o :: r, i, st, h => by
    unfold runOps at h ⊢
    refine runOp_le hC ?_ h
    intro st' b' h'
    revert h'
    have : ∀ b', runOps E C sh ops (i + 1) r st' K = some b' → runOps E C' sh ops (i + 1) r st' K' = some b' := by
      intro b'
      exact runOps_le hC hK r (i + 1) st'
    exact this b'
theorem effOf_le (hC : Sub C C') {ops : List Oper} {o : Oper} {st : St} {x : Eff × List B} (h : effOf E C ops o st = some x) : effOf E C' ops o st = some x := by
  unfold effOf at h ⊢
  split at h
  · cases h
  · rename_i hd; try rw [hd]
    exact h
  · rename_i hd; try rw [hd]
    try dsimp only
    obtain ⟨hc, h⟩ := bif_some h
    rw [hc]
    simp only [cond_true]
    refine bindO_le (fun e h => ?_) (fun e b h => h) h
    unfold effK at h ⊢
    split at h
    · rename_i x args tys ho
      try rw [ho]
      try dsimp only at h ⊢
      split at h
      · rename_i v f rvs hf
        try rw [hf]
        try dsimp only at h ⊢
        obtain ⟨hn, h⟩ := bif_some h
        rw [hn]
        simp only [cond_true]
        cases hnl : nilL (callFrz E.sig v rvs) with
        | true =>
          rw [hnl] at h
          exact callE_le hC (fun e b h => h) h
        | false =>
          rw [hnl] at h
          simp only [cond_false] at h ⊢
          split at h
          · rename_i v1 f1 rvs1 hf1
            try rw [hf1]
            try dsimp only at h ⊢
            obtain ⟨hc, h⟩ := bif_some h
            rw [hc]
            exact callE_le hC (fun e b h => h) h
          · cases h
      · cases h
    · split at h
      · rename_i p e' he
        try rw [he]
        exact h
      · cases h
theorem runOpsD_le (hC : Sub C C') {ops : Array Oper} {K K' : St → Option β} (hK : Le K K') {b : β} : ∀ (l : List Nat) (past : List Past) (st : St), runOpsD E C ops l past st K = some b → runOpsD E C' ops l past st K' = some b
  | [], past, st, h => hK _ _ h
  | i :: r, past, st, h => by
    unfold runOpsD at h ⊢
    split at h
    · cases h
    rename_i o ho
    try rw [ho]
    try dsimp only
    rw [runOpD_eff] at h ⊢
    obtain ⟨x, h1, h2⟩ := bindO_some h
    rw [effOf_le hC h1]
    show (bif _ then _ else none) = some b
    obtain ⟨hc, h2⟩ := bif_some h2
    rw [hc]
    exact runOpsD_le hC hK r _ _ h2
theorem dispatch_le {n : Nat} {K K' : Ex → St → Option β} (hK : ∀ e, Le (K e) (K' e)) {b : β} : ∀ (outs : List (Ex × Tm)) (j i : Nat) (vs : List PV), dispatch n outs j i vs K = some b → dispatch n outs j i vs K' = some b
  | [], j, i, vs, h => by cases h
  | [(e, tm)], j, i, vs, h => hK e _ _ h
  | (e, tm) :: y :: r, j, i, vs, h => by
    unfold dispatch at h ⊢
    cases hc : Nat.beq i j with
    | true => rw [hc] at h; exact hK e _ _ h
    | false => rw [hc] at h; exact dispatch_le hK (y :: r) (j + 1) i vs h
theorem iterN_le {step step' : (List PV → Option (Nat × List PV)) → List PV → Option (Nat × List PV)} (hs : ∀ rec rec', Le rec rec' → Le (step rec) (step' rec')) : ∀ (m m' : Nat), m ≤ m' → Le (iterN step m) (iterN step' m')
  | 0, m', _, vs, r, h => by cases h
  | m + 1, 0, hm, vs, r, h => by omega
  | m + 1, m' + 1, hm, vs, r, h => hs _ _ (iterN_le hs m m' (by omega)) vs r h
theorem exec_le (hC : Sub C C') {f : FuncId} {n m m' : Nat} (hm : m ≤ m') : ∀ (c : Code) (β : Type) (st : St) (K K' : Ex → St → Option β) (b : β), (∀ e, Le (K e) (K' e)) → exec E C f n m c β st K = some b → exec E C' f n m' c β st K' = some b := by
  intro c
  induction c with
  | skip => intro β st K K' b hK h; exact hK _ _ _ h
  | region id ops dr =>
    intro β st K K' b hK h
    cases dr with
    | true =>
      simp only [exec] at h ⊢
      obtain ⟨hos, h⟩ := bif_some h
      rw [hos]
      exact runOpsD_le hC (hK .norm) _ _ _ h
    | false => exact runOps_le hC (hK .norm) _ _ _ h
  | seq x y ihx ihy =>
    intro β st K K' b hK h
    simp only [exec] at h ⊢
    split at h
    · rename_i hj; try rw [hj]
      refine ihx β st _ _ b ?_ h
      intro e st' b' h'
      cases e with
      | norm => exact ihy β st' K K' b' hK h'
      | exit i => exact hK _ _ _ h'
      | ret => exact hK _ _ _ h'
    · rename_i outs hj; try rw [hj]
      refine bindO_le (fun r h => ihx _ st _ _ r (fun e st' b h => h) h) (fun r b h => dispatch_le ?_ outs 0 r.1 r.2 h) h
      intro e st' b' h'
      cases e with
      | norm => exact ihy β st' K K' b' hK h'
      | exit i => exact hK _ _ _ h'
      | ret => exact hK _ _ _ h'
  | cond c x y ihx ihy =>
    intro β st K K' b hK h
    simp only [exec] at h ⊢
    split at h
    · rename_i t hv
      try rw [hv]
      try dsimp only
      cases t with
      | true => exact ihx β st K K' b hK h
      | false => exact ihy β st K K' b hK h
    · cases h
  | block id c ih =>
    intro β st K K' b hK h
    simp only [exec] at h ⊢
    refine ih β st _ _ b ?_ h
    intro e st' b' h'
    cases e with
    | norm => exact hK _ _ _ h'
    | ret => exact hK _ _ _ h'
    | exit i =>
      dsimp only at h' ⊢
      cases hb : Nat.beq i id with
      | true => rw [hb] at h'; exact hK _ _ _ h'
      | false => rw [hb] at h'; exact hK _ _ _ h'
  | loop c ih =>
    intro β st K K' b hK h
    simp only [exec] at h ⊢
    split at h
    · cases h
    rename_i lp hl
    try rw [hl]
    try dsimp only
    refine bindO_le (fun a h => h) (fun vs b h => bindO_le (fun r h => iterN_le ?_ m m' hm vs r h) (fun r b h => dispatch_le hK lp.outs 0 r.1 r.2 h) h) h
    intro rec rec' hr vs r h
    refine ih _ _ _ _ r ?_ h
    intro e st' b' h'
    cases e with
    | norm => exact bindO_le (fun a h => h) hr h'
    | exit i => exact h'
    | ret => exact h'
  | exit id => intro β st K K' b hK h; exact hK _ _ _ h
  | ret => intro β st K K' b hK h; exact hK _ _ _ h
  | _ => intro β st K K' b hK h; simp only [exec] at h; cases h
theorem runFn_le (hC : Sub C C') {f : FuncId} {fn : Func} {m m' : Nat} (hm : m ≤ m') {vs out : List PV} (h : runFn E C m f fn vs = some out) : runFn E C' m' f fn vs = some out := by
  unfold runFn at h ⊢
  split at h
  case h_2 => cases h
  rename_i sg c hsg hc
  try rw [hsg, hc]
  try dsimp only at h ⊢
  obtain ⟨hle, h⟩ := bif_some h
  rw [hle]
  simp only [cond_true]
  exact exec_le hC hm c _ _ _ _ out (fun e st b h => h) h
end

/-! #### the least closed relation -/
section
variable (E : Env)
def Closed (R : FuncId → List PV → List PV → Prop) : Prop :=
  (∀ (C : FuncId → List PV → Option (List PV)) (m : Nat) f fn vs out, (∀ f vs out, C f vs = some out → R f vs out) → E.F f = some fn → runFn E C m f fn vs = some out → R f vs out) ∧
  (∀ f vs out, E.F f = none → E.lib f vs = some out → R f vs out)
def Der (f : FuncId) (vs out : List PV) : Prop := ∀ R, Closed E R → R f vs out
theorem der_closed : Closed E (Der E) :=
  ⟨fun C m f fn vs out hC hf h R hR => hR.1 C m f fn vs out (fun f vs out h => hC f vs out h R hR) hf h, fun f vs out hf h R hR => hR.2 f vs out hf h⟩
theorem der_inv {f : FuncId} {vs out : List PV} (h : Der E f vs out) :
    (∃ C m fn, (∀ f vs out, C f vs = some out → Der E f vs out) ∧ E.F f = some fn ∧ runFn E C m f fn vs = some out) ∨ (E.F f = none ∧ E.lib f vs = some out) := by
  refine h (fun f vs out => (∃ C m fn, (∀ f vs out, C f vs = some out → Der E f vs out) ∧ E.F f = some fn ∧ runFn E C m f fn vs = some out) ∨ (E.F f = none ∧ E.lib f vs = some out)) ⟨?_, ?_⟩
  · intro C m f fn vs out hC hf h
    refine .inl ⟨C, m, fn, fun f vs out h => ?_, hf, h⟩
    rcases hC f vs out h with ⟨C', m', fn', h1, h2, h3⟩ | ⟨h1, h2⟩
    · exact (der_closed E).1 C' m' f fn' vs out h1 h2 h3
    · exact (der_closed E).2 f vs out h1 h2
  · intro f vs out hf h
    exact .inr ⟨hf, h⟩
theorem der_unique {f : FuncId} {vs out out' : List PV} (h : Der E f vs out) (h' : Der E f vs out') : out' = out := by
  refine (h (fun f vs out => Der E f vs out ∧ ∀ out', Der E f vs out' → out' = out) ⟨?_, ?_⟩).2 out' h'
  · intro C m f fn vs out hC hf h
    refine ⟨(der_closed E).1 C m f fn vs out (fun f vs out h => (hC f vs out h).1) hf h, fun out' h' => ?_⟩
    rcases der_inv E h' with ⟨C', m', fn', h1, h2, h3⟩ | ⟨h1, _⟩
    · rw [hf] at h2
      cases h2
      let C2 : FuncId → List PV → Option (List PV) := fun f vs => match C f vs with | some o => some o | none => C' f vs
      have e1 : Sub C C2 := fun f vs o h => by simp only [C2, h]
      have e2 : Sub C' C2 := fun f vs o h => by
        cases hc : C f vs with
        | none => simp only [C2, hc]; exact h
        | some o2 =>
          have := (hC f vs o2 hc).2 o (h1 f vs o h)
          simp only [C2, hc]
          rw [this]
      have g1 := runFn_le e1 (Nat.le_max_left m m') h
      have g2 := runFn_le e2 (Nat.le_max_right m m') h3
      rw [g1] at g2
      exact (Option.some.inj g2).symm
    · rw [hf] at h1; cases h1
  · intro f vs out hf h
    refine ⟨(der_closed E).2 f vs out hf h, fun out' h' => ?_⟩
    rcases der_inv E h' with ⟨C', m', fn', h1, h2, h3⟩ | ⟨_, h2⟩
    · rw [hf] at h2; cases h2
    · rw [h] at h2; exact (Option.some.inj h2).symm
/-- What a function answers. -/
noncomputable def W (f : FuncId) (vs : List PV) : Option (List PV) := @dite _ (∃ out, Der E f vs out) (Classical.propDecidable _) (fun h => some h.choose) (fun _ => none)
theorem W_der {f : FuncId} {vs out : List PV} : W E f vs = some out ↔ Der E f vs out := by
  unfold W
  constructor
  · intro h
    split at h
    · rename_i hex; cases h; exact hex.choose_spec
    · cases h
  · intro h
    have hex : ∃ out, Der E f vs out := ⟨out, h⟩
    rw [dif_pos hex]
    exact congrArg some (der_unique E h hex.choose_spec)
theorem W_fn {f : FuncId} {fn : Func} {m : Nat} {vs out : List PV} (hf : E.F f = some fn) (h : runFn E (W E) m f fn vs = some out) : W E f vs = some out :=
  (W_der E).2 ((der_closed E).1 (W E) m f fn vs out (fun f vs out h => (W_der E).1 h) hf h)
theorem W_lib {f : FuncId} {vs out : List PV} (hf : E.F f = none) (h : E.lib f vs = some out) : W E f vs = some out :=
  (W_der E).2 ((der_closed E).2 f vs out hf h)
theorem W_sound {P : Program} {W0 : World} {E : Env} (hE : EnvOk P W0 E) (hs : ∀ f fn, E.F f = some fn → ∃ sg, E.sig f = some sg) {f : FuncId} {sg : Sig} {vs out : List PV} (hsg : E.sig f = some sg) (h : W E f vs = some out) : Sat P W0 sg (E.real f) vs out := by
  refine (W_der E).1 h (fun f vs out => ∀ sg, E.sig f = some sg → Sat P W0 sg (E.real f) vs out) ⟨?_, ?_⟩ sg hsg
  · intro C m f fn vs out hC hf h sg hsg
    exact runFn_sound hE.orders hE.tab (fun f sg vs out hsg h => hC f vs out h sg hsg) hsg (hE.fn f fn hf).1 (hE.fn f fn hf).2 h
  · intro f vs out hf h sg hsg
    exact hE.lib f sg vs out hf hsg h
end
end Go.Vm

/-! ### 31. An environment out of lists -/
namespace Go.Vm
set_option linter.unusedSimpArgs false
set_option linter.unusedVariables false

def findN {α : Type} : List (Nat × α) → Nat → Option α
  | [], _ => none
  | (k, x) :: r, n => bif Nat.beq n k then some x else findN r n
/-- A function's tables. -/
structure FnT where
  sig : Sig
  loops : List (Nat × Loop)
  joins : List (Nat × List (Ex × Tm))
  shares : List (Nat × List Nat)
  ords : List (Nat × List Nat)
structure LibT where
  sig : Sig
  run : List PV → Option (List PV)
/-- Functions that are given functions bear names of their own. -/
structure VidT where
  f : FuncId
  ids : List FuncId
  v : FuncId
def sameIds : List FuncId → List FuncId → Bool
  | [], [] => true
  | a :: r, b :: s => and (Nat.beq a b) (sameIds r s)
  | _, _ => false
def vidL : List VidT → FuncId → List FuncId → FuncId
  | [], f, _ => f
  | x :: r, f, ids => bif and (Nat.beq f x.f) (sameIds ids x.ids) then x.v else vidL r f ids
def realL : List VidT → FuncId → FuncId
  | [], v => v
  | x :: r, v => bif Nat.beq v x.v then x.f else realL r v
def memN (n : Nat) : List Nat → Bool := anyL fun k => Nat.beq n k
def mkEnv (TL : List (TypeId × TI)) (FL : List (FuncId × (Func × FnT))) (LL : List (FuncId × LibT)) (VL : List VidT) : Env where
  T := findN TL
  F := fun f => match findN FL f with | some x => some x.1 | none => none
  sig := fun f => match findN FL f with | some x => some x.2.sig | none => match findN LL f with | some x => some x.sig | none => none
  loop := fun f k => match findN FL f with | some x => findN x.2.loops k | none => none
  join := fun f k => match findN FL f with | some x => findN x.2.joins k | none => none
  share := fun f k i => match findN FL f with | some x => (match findN x.2.shares k with | some l => memN i l | none => false) | none => false
  ord := fun f k => match findN FL f with | some x => findN x.2.ords k | none => none
  vid := vidL VL
  real := realL VL
  lib := fun f vs => match findN LL f with | some x => x.run vs | none => none

inductive AllP {α : Type} (p : α → Prop) : List α → Prop
  | nil : AllP p []
  | cons {x : α} {l : List α} (h : p x) (t : AllP p l) : AllP p (x :: l)
theorem AllP.mem {α : Type} {p : α → Prop} : ∀ {l : List α}, AllP p l → ∀ x, x ∈ l → p x
  | _, .cons h t, x, hx => by
    rcases List.mem_cons.1 hx with rfl | hx
    · exact h
    · exact t.mem x hx
theorem findN_mem {α : Type} : ∀ {l : List (Nat × α)} {n : Nat} {x : α}, findN l n = some x → (n, x) ∈ l
  | (k, y) :: r, n, x, h => by
    unfold findN at h
    cases e : Nat.beq n k with
    | true => rw [e] at h; cases h; rw [Nat.eq_of_beq_eq_true e]; exact List.mem_cons_self ..
    | false => rw [e] at h; exact List.mem_cons_of_mem _ (findN_mem h)
section
variable {P : Program} {W0 : World} {TL : List (TypeId × TI)} {FL : List (FuncId × (Func × FnT))} {LL : List (FuncId × LibT)} {VL : List VidT}
def FnOk (P : Program) (VL : List VidT) (x : FuncId × (Func × FnT)) : Prop := P.funcs[realL VL x.1]? = some x.2.1 ∧ (x.2.1.name == "runtime.NumGoroutine") = false
def LibOk (P : Program) (W0 : World) (VL : List VidT) (x : FuncId × LibT) : Prop := ∀ vs out, x.2.run vs = some out → Sat P W0 x.2.sig (realL VL x.1) vs out
theorem mkEnv_ok (hM : P.follows .mixedOrders = true) (hT : AllP (fun x => TyOk P x.1 x.2) TL) (hF : AllP (FnOk P VL) FL) (hL : AllP (LibOk P W0 VL) LL) : EnvOk P W0 (mkEnv TL FL LL VL) where
  orders := hM
  tab := fun t ti h => hT.mem (t, ti) (findN_mem h)
  fn := fun f fn h => by
    simp only [mkEnv] at h
    split at h
    · rename_i x hx; cases h; exact hF.mem (f, x) (findN_mem hx)
    · cases h
  lib := fun f sg vs out hf hs hl => by
    simp only [mkEnv] at hf hs hl
    split at hf
    · cases hf
    · rename_i hn
      rw [hn] at hs
      dsimp only at hs
      cases hx : findN LL f with
      | none => rw [hx] at hl; cases hl
      | some x =>
        rw [hx] at hs hl
        cases hs
        exact hL.mem (f, x) (findN_mem hx) vs out hl
theorem mkEnv_sig : ∀ f fn, (mkEnv TL FL LL VL).F f = some fn → ∃ sg, (mkEnv TL FL LL VL).sig f = some sg := fun f fn h => by
  simp only [mkEnv] at h ⊢
  split at h
  · rename_i x hx; exact ⟨x.2.sig, rfl⟩
  · cases h
end
abbrev Orc := FuncId → List PV → Option (List PV)
end Go.Vm

/-! ### 32. A type's table, checked -/
namespace Go.Vm
set_option linter.unusedSimpArgs false
set_option linter.unusedVariables false
def zeroV (ti : TI) : Value := bif ti.agg then .agg ti.zero.toArray else match ti.zero with | v :: _ => v | [] => undef
def slcOk : List LK → List Value → Bool
  | .slc _ _ :: ks, v :: vs => and (isNil v) (slcOk ks vs)
  | _ :: ks, _ :: vs => slcOk ks vs
  | _, _ => true
def tiOk (ti : TI) : Bool :=
  and (and (Nat.beq (lenL ti.zero) (lenL ti.kinds)) (!(xor ti.agg ti.desc.isRow))) (and (and (allL (fun v => v.oneCell') ti.zero) (slcOk ti.kinds ti.zero)) (or ti.agg (Nat.beq (lenL ti.kinds) 1)))
theorem slcOk_spec : ∀ {ks : List LK} {vs : List Value}, slcOk ks vs = true → ks.length = vs.length → ∀ (j e sz : Nat), ks[j]? = some (.slc e sz) → vs[j]? = some (.slice none 0 0)
  | [], vs, h, hl, j, e, sz, hj => by simp at hj
  | k :: ks, [], h, hl, j, e, sz, hj => by simp at hl
  | k :: ks, v :: vs, h, hl, j, e, sz, hj => by
    have hl' : ks.length = vs.length := by simpa using hl
    have hrec : slcOk ks vs = true := by
      cases k <;> simp only [slcOk, Bool.and_eq_true] at h <;> first | exact h.2 | exact h
    cases j with
    | zero =>
      simp at hj
      subst hj
      simp only [slcOk, Bool.and_eq_true] at h
      rw [isNil_eq h.1]; rfl
    | succ j => exact slcOk_spec hrec hl' j e sz (by simpa using hj)
theorem tyOk_of {P : Program} {t : TypeId} {ti : TI} (h1 : P.underlying t = some ti.desc) (h2 : (P.info? t).map (fun i => (i.size, i.bytes, i.zero)) = some (lenL ti.kinds, ti.bytes, some (zeroV ti))) (h3 : tiOk ti = true) : TyOk P t ti := by
  unfold tiOk at h3
  simp only [Bool.and_eq_true, Bool.or_eq_true] at h3
  obtain ⟨⟨g1, g2⟩, ⟨g3, g4⟩, g5⟩ := h3
  have g1 := Nat.eq_of_beq_eq_true g1
  rw [lenL_eq, lenL_eq] at g1
  have hone : ∀ v, v ∈ ti.zero → v.oneCell' = true := allL_mem g3
  have hagg : ti.agg = ti.desc.isRow := by revert g2; cases ti.agg <;> cases ti.desc.isRow <;> simp
  have hsingle : ti.agg = false → ti.kinds.length = 1 := fun e => by
    rcases g5 with g5 | g5
    · rw [e] at g5; cases g5
    · have := Nat.eq_of_beq_eq_true g5; rwa [lenL_eq] at this
  refine ⟨h1, ?_, g1, hagg, hone, slcOk_spec g4 g1.symm, hsingle⟩
  cases hi : P.info? t with
  | none => rw [hi] at h2; cases h2
  | some i =>
    rw [hi] at h2
    simp only [Option.map_some, Option.some.injEq, Prod.mk.injEq] at h2
    refine ⟨i, zeroV ti, rfl, by rw [h2.1, lenL_eq], h2.2.1, h2.2.2, ?_⟩
    unfold zeroV
    cases ha : ti.agg with
    | true => rfl
    | false =>
      simp only [cond_false]
      have hl := hsingle ha
      rw [← g1] at hl
      obtain ⟨v, hv⟩ := List.length_eq_one_iff.1 hl
      rw [hv]
      have := hone v (by rw [hv]; exact List.mem_cons_self ..)
      cases v <;> first | rfl | (cases this)
end Go.Vm

/-! ### 33. Library functions by their contracts -/
namespace Go.Vm
open Go.RowKit
set_option linter.unusedSimpArgs false
set_option linter.unusedVariables false

section
variable {P : Program} {W0 : World}
def rdInt (p : Option PV) : Int := match p with | some p => p.int | none => 0
theorem Fr.below {G : Gh} {w w' : World} (h : Below w.heap.size w w') : Fr G w G w' :=
  ⟨h.os, h.tape, h.output, h.size, fun x hx _ => h.block x hx, fun _ _ h => h, fun _ h => h, fun _ h => .inl h, fun _ => rfl⟩
theorem Wf.below {G : Gh} {w w' : World} (hw : Wf G w) (h : Below w.heap.size w w') : Wf G w' :=
  ⟨fun k o hk => Nat.lt_of_lt_of_le (hw.lt k o hk) h.size, fun k hk => Nat.lt_of_lt_of_le (hw.Slt k hk) h.size, hw.Sown⟩
/-- What a function of the library does: it is entered, and returns these plain values; below the heap's end nothing turns. -/
theorem sat_lib {ps rs : List (Bool × List RK)} {f : FuncId} {fn : Func} {vs out : List PV} (hf : P.funcs[f]? = some fn) (hname : (fn.name == "runtime.NumGoroutine") = false) (hb : fn.body.isSome = true)
    (h : ∀ (G : Gh) (w : World) (args : List Value), Base W0 G w → Wf G w → All2 (RelC G w) (instRes ps vs 0) args → ∃ R : Ending → World → Prop, Calls P f args.toArray w R ∧ ∀ e w', R e w' → Below w.heap.size w w' ∧ ∃ us, e = .returned (retVal us) ∧ RetAll G w' (instRes rs out 0) 0 us) :
    Sat P W0 ⟨ps, [], rs, []⟩ f vs out := by
  intro G w args hB ha _ hwf _
  obtain ⟨R, hR, hp⟩ := h G w args hB hwf ha
  obtain ⟨c, hb⟩ := Option.isSome_iff_exists.1 hb
  refine .inl ⟨callFunc_enter hf hname hb _ _, Calls.mono hR fun e w' hr => ?_⟩
  obtain ⟨h1, us, h2, h3⟩ := hp e w' hr
  refine ⟨retVal us, h2, G, Fr.below h1, ⟨us, rfl, h3⟩, fun i ls hi => ?_, hwf.below h1⟩
  cases i <;> cases hi
theorem arg_pl {G : Gh} {w : World} {p : PV} {v : Value} (h : RelC G w (false, [.pv p]) v) : Rep G.S w p v := by
  obtain ⟨l, hl, hr, _⟩ := h
  cases hl
  exact hr
theorem rep_int {S : Nat → Prop} {w : World} {k : IntKind} {n : Int} {v : Value} (h : Rep S w (.val (.int k n)) v) : v = .int k n := by cases h; rfl
theorem rep_str {S : Nat → Prop} {w : World} {s : ByteArray} {v : Value} (h : Rep S w (.val (.string s)) v) : v = .string s := by cases h; rfl
theorem below_grow {w : World} {k : Nat} {os : Array Obj} : Below w.heap.size w (Go.Sort.grow (w.drewN k) os) :=
  ⟨rfl, rfl, rfl, by simp [Go.Sort.grow], fun x hx => by
    show ((w.heap ++ os)[x]?) = _
    rw [Array.getElem?_append_left hx]⟩
theorem var_base {G : Gh} {w : World} {nm : String} {x : Array Value} (hB : Base W0 G w) (h : W0.var? P nm = some x) : w.var? P nm = some x := by
  unfold World.var? at h ⊢
  cases e : P.globalNamed nm with
  | none => rw [e] at h; cases h
  | some g =>
    rw [e] at h
    dsimp only [Option.bind_some] at h ⊢
    cases e2 : W0.heap[g]? with
    | none => rw [e2] at h; cases h
    | some o =>
      rw [e2] at h
      rw [hB.heap g (Array.getElem?_eq_some_iff.1 e2).1, e2]
      exact h
theorem ret_one {G : Gh} {w : World} {p : PV} {v : Value} {c : Nat} (h : Rep G.S w p v) : RetC G w c (false, [.pv p]) v := by
  refine ⟨rfl, fun i l u hl hu => ?_⟩
  cases i with
  | zero => cases hl; cases hu; exact ⟨h, h.one⟩
  | succ i => cases hl

noncomputable def libItoa : List PV → Option (List PV)
  | [.val (.int .i64 n)] => chk (-9223372036854775808 ≤ n ∧ n ≤ 9223372036854775807) (some [.val (.string ⟨(Lib.itoa n).toArray⟩)])
  | _ => none
noncomputable def libAtoi : List PV → Option (List PV)
  | [.val (.string s)] => chk (s.size ≤ 281474976710656) (match Lib.atoiAll s.data.toList with
    | .ok v => some [.val (.int .i64 v), .err false]
    | .range => some [.val (.int .i64 (Lib.atoiSat s.data.toList)), .err true]
    | _ => some [.val (.int .i64 0), .err true])
  | _ => none
def strRows (xs : List ByteArray) : List (List PV) := xs.map fun s => [.val (.string s)]
def rowStrs : List (List PV) → List ByteArray
  | [] => []
  | r :: l => (pvAt r 0).str :: rowStrs l
noncomputable def libJoin : List PV → Option (List PV)
  | [.sl 1 rows, .val (.string sep)] => chk (rows = strRows (rowStrs rows) ∧ rows.length ≤ 140737488355328 ∧ (Lib.join ((rowStrs rows).map (·.data.toList)) sep.data.toList).length ≤ 140737488355328) (some [.val (.string ⟨(Lib.join ((rowStrs rows).map (·.data.toList)) sep.data.toList).toArray⟩)])
  | _ => none

theorem sat_itoa {f : FuncId} {fn : Func} (hf : P.funcs[f]? = some fn) (hname : (fn.name == "runtime.NumGoroutine") = false) (hb : fn.body.isSome = true)
    (H : ∀ (n : Int) (h0 : -9223372036854775808 ≤ n) (h1 : n ≤ 9223372036854775807) (w : World), Lib.TabIs P w "internal/strconv.uint64pow10" .u64 Lib.pow10Tab →
      Calls P f #[.int .i64 n] w fun e w' => e = .returned (.string ⟨(Lib.itoa n).toArray⟩) ∧ ∃ k os, w' = Go.Sort.grow (w.drewN k) os)
    (htab : Lib.TabIs P W0 "internal/strconv.uint64pow10" .u64 Lib.pow10Tab) (vs out : List PV) (h : libItoa vs = some out) :
    Sat P W0 ⟨[(false, [.pl (.int .i64)])], [], [(false, [.pl .str])], []⟩ f vs out := by
  unfold libItoa at h
  split at h
  case h_2 => cases h
  rename_i n
  obtain ⟨hn, h⟩ := chk_some h
  cases h
  refine sat_lib hf hname hb fun G w args hB hwf ha => ?_
  cases ha with
  | cons ha ht =>
    cases ht
    have := rep_int (arg_pl ha)
    subst this
    refine ⟨_, H n hn.1 hn.2 w (var_base hB htab), ?_⟩
    rintro e w' ⟨rfl, k, os, rfl⟩
    exact ⟨below_grow, [_], rfl, ret_one (.val _ rfl), trivial⟩
theorem sat_atoi {f : FuncId} {fn : Func} (hf : P.funcs[f]? = some fn) (hname : (fn.name == "runtime.NumGoroutine") = false) (hb : fn.body.isSome = true)
    (H1 : ∀ (s : ByteArray) (hmax : s.size ≤ 9223372036854775806) (v : Int) (h : Lib.atoiAll s.data.toList = .ok v) (w : World), Calls P f #[.string s] w fun e w' => e = .returned (.tuple #[.int .i64 v, .nilIface]) ∧ (w' = w ∨ ∃ t, w' = Lib.bytesWorld w 5 t))
    (H2 : ∀ (s : ByteArray) (hlim : s.size ≤ 281474976710656) (h1 : ∀ v, Lib.atoiAll s.data.toList ≠ .ok v) (h2 : Lib.atoiAll s.data.toList ≠ .range) (w : World), Base W0 ⟨fun _ => none, fun _ _ => .nilIface, fun _ => none, fun _ => True⟩ w → Calls P f #[.string s] w fun e w' => ∃ t v, e = .returned (.tuple #[.int .i64 0, .iface t v]) ∧ Below w.heap.size w w')
    (H3 : ∀ (s : ByteArray) (hlim : s.size ≤ 281474976710656) (h : Lib.atoiAll s.data.toList = .range) (w : World), Base W0 ⟨fun _ => none, fun _ _ => .nilIface, fun _ => none, fun _ => True⟩ w → Calls P f #[.string s] w fun e w' => ∃ t v, e = .returned (.tuple #[.int .i64 (Lib.atoiSat s.data.toList), .iface t v]) ∧ Below w.heap.size w w')
    (vs out : List PV) (h : libAtoi vs = some out) :
    Sat P W0 ⟨[(false, [.pl .str])], [], [(false, [.pl (.int .i64)]), (false, [.pl .err])], []⟩ f vs out := by
  unfold libAtoi at h
  split at h
  case h_2 => cases h
  rename_i s
  obtain ⟨hn, h⟩ := chk_some h
  refine sat_lib hf hname hb fun G w args hB hwf ha => ?_
  cases ha with
  | cons ha ht =>
    cases ht
    have := rep_str (arg_pl ha)
    subst this
    split at h
    · rename_i v hv
      cases h
      refine ⟨_, H1 s (by omega) v hv w, ?_⟩
      rintro e w' ⟨rfl, hw⟩
      refine ⟨?_, [_, _], rfl, ret_one (.val _ rfl), ret_one .errN, trivial⟩
      rcases hw with rfl | ⟨t, rfl⟩
      · exact Below.refl ..
      · exact Lib.bytesWorld_below ..
    · rename_i hv
      cases h
      refine ⟨_, H3 s hn hv w ⟨fun _ _ => trivial, hB.heap⟩, ?_⟩
      rintro e w' ⟨t, v, rfl, hw⟩
      exact ⟨hw, [_, _], rfl, ret_one (.val _ rfl), ret_one (.errS _ _), trivial⟩
    · rename_i h1 h2
      cases h
      refine ⟨_, H2 s hn h1 h2 w ⟨fun _ _ => trivial, hB.heap⟩, ?_⟩
      rintro e w' ⟨t, v, rfl, hw⟩
      exact ⟨hw, [_, _], rfl, ret_one (.val _ rfl), ret_one (.errS _ _), trivial⟩
theorem rowStrs_len : ∀ {r : List (List PV)}, (rowStrs r).length = r.length
  | [] => rfl
  | x :: r => by simp [rowStrs, rowStrs_len]
theorem sat_join {f : FuncId} {fn : Func} (hf : P.funcs[f]? = some fn) (hname : (fn.name == "runtime.NumGoroutine") = false) (hb : fn.body.isSome = true)
    (H0 : ∀ (a : Option Addr) (c : Nat) (sep : ByteArray) (w : World), Calls P f #[.slice a 0 c, .string sep] w fun e w' => e = .returned (.string ⟨#[]⟩) ∧ w' = w)
    (H1 : ∀ (bk o c : Nat) (xs : List ByteArray) (sep : ByteArray) (w : World) (hcells : ∀ (j : Nat) x, xs[j]? = some x → w.cell? ⟨bk, o + j, none⟩ = some (.string x)) (hbk : bk < w.heap.size) (hN : xs.length ≤ 140737488355328) (hcap : xs.length ≤ c) (hlen : (Lib.join (xs.map (·.data.toList)) sep.data.toList).length ≤ 140737488355328),
      Calls P f #[.slice (some ⟨bk, o, none⟩) xs.length c, .string sep] w fun e w' => e = .returned (.string ⟨(Lib.join (xs.map (·.data.toList)) sep.data.toList).toArray⟩) ∧ Below w.heap.size w w')
    (vs out : List PV) (h : libJoin vs = some out) (e1 : TypeId) :
    Sat P W0 ⟨[(false, [.pl (.slc e1 1)]), (false, [.pl .str])], [], [(false, [.pl .str])], []⟩ f vs out := by
  unfold libJoin at h
  split at h
  case h_2 => cases h
  rename_i rows sep
  obtain ⟨⟨hr, hn, hl⟩, h⟩ := chk_some h
  cases h
  refine sat_lib hf hname hb fun G w args hB hwf ha => ?_
  cases ha with
  | cons ha ht =>
    cases ht with
    | cons hb ht =>
      cases ht
      have e2 := rep_str (arg_pl (p := .val (.string sep)) hb)
      have hx := arg_pl (p := .sl 1 rows) ha
      clear ha hb
      subst e2
      cases hx with
      | nil _ a c =>
        refine ⟨_, H0 a c sep w, ?_⟩
        rintro e w' ⟨rfl, rfl⟩
        exact ⟨Below.refl .., [_], rfl, ret_one (.val _ rfl), trivial⟩
      | sl _ _ k o c cur ty fr fv hne hll hc hS hk hcell hrep =>
        have hcl : ∀ (j : Nat) (x : ByteArray), (rowStrs rows)[j]? = some x → w.cell? ⟨k, o + j, none⟩ = some (.string x) := by
          intro j x hj
          have h1 : rows[j]? = some [.val (.string x)] := by
            rw [hr]; simp [strRows, hj]
          have h2 := hcell j _ 0 _ h1 rfl
          have h3 := rep_str (hrep j _ 0 _ h1 rfl)
          rw [h3] at h2
          unfold World.cell?
          rw [show (⟨k, o + j, none⟩ : Addr).block = k from rfl, hk]
          simpa using h2
        have h9 := H1 k o c (rowStrs rows) sep w hcl (hwf.Slt k hS) (by rw [rowStrs_len]; exact hn) (by rw [rowStrs_len]; exact hc) hl
        rw [rowStrs_len] at h9
        refine ⟨_, h9, ?_⟩
        rintro e w' ⟨rfl, hw⟩
        exact ⟨hw, [_], rfl, ret_one (.val _ rfl), trivial⟩
end
end Go.Vm
