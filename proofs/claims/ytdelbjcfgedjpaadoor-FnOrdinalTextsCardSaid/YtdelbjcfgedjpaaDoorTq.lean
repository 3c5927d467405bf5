import Derived.Test.YtdelbjcfgedjpaaDoorTp
/-! ### A text is read back: the second reader; both parsers -/
namespace Go.Vm
open Go.Vm.D Od
set_option linter.unusedVariables false
set_option linter.unusedSimpArgs false
theorem numS_at {x pre y : List UInt8} {n : Nat} (h : x = pre ++ (Lib.decDigits n ++ y)) (hn : n ≤ 1000000) (hy : NoDig y) : numS x pre.length = n ∧ numE x pre.length = (pre ++ Lib.decDigits n).length := by
  have hd := digs_at h
  rw [digs_app _ _ (dec_all 6 n (by omega)) hy] at hd
  unfold numS numE
  rw [hd]
  exact ⟨sread_dec hn, by simp⟩
theorem starS_text {x pre y : List UInt8} {e : Od} {c : Int} (hc : 1 ≤ c ∧ c ≤ 1000000) (hx : x = pre ++ (tail c ++ y)) (hy : Ends y) : starS x (e, pre.length, false) = (e, c, (pre ++ tail c).length, false) := by
  unfold starS
  simp only
  rw [next_at hx]
  unfold tail at hx ⊢
  by_cases h1 : c = 1
  · rw [if_pos h1] at hx ⊢
    rw [if_neg]
    · simp [h1]
    · simp only [decide_eq_true_eq, List.nil_append]
      exact take_ne (ends_ne hy (by decide) (by decide))
  · rw [if_neg h1] at hx ⊢
    rw [if_pos (by simp)]
    have hx2 : x = (pre ++ [42]) ++ (Lib.decDigits c.toNat ++ y) := by rw [hx]; simp
    have hd := numS_at hx2 (by omega) hy.noDig
    have hl : (pre ++ [42]).length = pre.length + 1 := by simp
    rw [hl] at hd
    rw [hd.1, hd.2, Int.toNat_of_nonneg (by omega)]
    simp only [Bool.false_or]
    rw [decide_eq_false (by omega)]
    simp
theorem take_ne1 {y : List UInt8} {t : UInt8} (h : ∀ b, y.head? = some b → b ≠ t) : ¬ (y.take [t].length = [t]) := take_ne h
theorem termS_text {x pre y : List UInt8} {e : Od} {c : Int} {rd : Nat → Rd} {dz : Bool} (hc : 1 ≤ c ∧ c ≤ 1000000) (hx : x = pre ++ (termT e c ++ y)) (hy : Ends y)
    (hrd : e.isNil = false → dz = false → ∀ p z : List UInt8, x = p ++ (e.text ++ 41 :: z) → rd p.length = (e, (p ++ e.text).length, false)) (hdz : e.isNil = false → dz = false) : termS rd dz x pre.length = (e, c, (pre ++ termT e c).length, false) := by
  unfold termS
  rw [next_at hx]
  unfold termT at hx ⊢
  by_cases hz : e.isNil = true
  · rw [if_pos hz] at hx ⊢
    obtain ⟨b, r, hb, hb1, hb2⟩ := dec_head 6 c.toNat (by omega) (by omega)
    rw [if_neg]
    · have hd := numS_at hx (by omega) hy.noDig
      rw [hd.1, hd.2, Int.toNat_of_nonneg (by omega), (isNil_iff e).1 hz, decide_eq_false (by omega)]
    · simp only [decide_eq_true_eq]
      refine take_ne fun b' hb' e' => ?_
      rw [hb] at hb'
      simp only [List.cons_append, List.head?_cons, Option.some.injEq] at hb'
      subst hb'; subst e'
      simp [isDig] at hb2
  · rw [if_neg hz] at hx ⊢
    have hz' : e.isNil = false := by simpa using hz
    have hd0 := hdz hz'
    rw [if_pos (by simp)]
    have hx2 : x = (pre ++ [119]) ++ (up e (joined e.parts) ++ tail c ++ y) := by rw [hx]; simp
    have hl : (pre ++ [119]).length = pre.length + 1 := by simp
    have hn := next_at hx2 [94]
    rw [hl] at hn
    rw [hn]
    by_cases h1 : e.isOne = true
    · rw [if_neg (by simp only [decide_eq_true_eq]; exact take_ne (tail_up_ne h1 hy))]
      have hx3 : x = (pre ++ [119]) ++ (tail c ++ y) := by rw [hx2]; simp [up, h1]
      have := starS_text (e := Od.one) hc hx3 hy
      rw [hl] at this
      rw [this, ← (isOne_iff e).1 h1]
      simp [up, h1] <;> omega
    · have hup : up e (joined e.parts) = 94 :: 40 :: (e.text ++ [41]) := by simp [up, h1, Od.text]
      rw [hup] at hx2 ⊢
      rw [if_pos (by simp)]
      have hx2b : x = (pre ++ [119, 94]) ++ (40 :: (e.text ++ [41] ++ tail c ++ y)) := by rw [hx2]; simp
      have hl2 : (pre ++ [119, 94]).length = pre.length + 1 + 1 := by simp
      have hn2 := next_at hx2b [40]
      rw [hl2] at hn2
      unfold openS
      rw [hn2, if_pos (by simp), hd0, if_neg (by decide)]
      have hx3 : x = (pre ++ [119, 94, 40]) ++ (e.text ++ 41 :: (tail c ++ y)) := by rw [hx2]; simp
      have hr := hrd hz' hd0 _ _ hx3
      have hl3 : (pre ++ [119, 94, 40]).length = pre.length + 1 + 1 + 1 := by simp
      rw [hl3] at hr
      rw [hr]
      have hx4 : x = (pre ++ [119, 94, 40] ++ e.text) ++ (41 :: (tail c ++ y)) := by rw [hx3]; simp
      have hn4 := next_at hx4 [41]
      unfold shutI
      simp only [Bool.false_eq_true, if_false]
      rw [hn4, if_pos (by simp)]
      have hx5 : x = (pre ++ [119, 94, 40] ++ e.text ++ [41]) ++ (tail c ++ y) := by rw [hx4]; simp
      have hl5 : (pre ++ [119, 94, 40] ++ e.text ++ [41]).length = (pre ++ [119, 94, 40] ++ e.text).length + 1 := by simp <;> omega
      have := starS_text (e := e) hc hx5 hy
      rw [hl5] at this
      rw [this]
      simp <;> omega
theorem put_text {e : Od} {c : Int} {n : Nat} {r : Od} (hc : 1 ≤ c) : putS (e, c, n, false) r = cons e c r := by
  unfold putS
  rw [if_pos (by simp only; omega)]
theorem dz_of {e : Od} {k : Nat} (h0 : 0 ≤ (k : Int) - 1) : e.isNil = false → decide (k = 0) = false := fun _ => decide_eq_false (by omega)
theorem loopS_text {x : List UInt8} : ∀ (r : Od) (e : Od) (c : Int) (p : Option Od) (k n : Nat) (pre y : List UInt8), formT p (.cons e c r) (k : Int) = true → x = pre ++ (Lib.join (Od.cons e c r).parts [43] ++ y) → Stops y → r.len < n →
    (∀ e' : Od, formT none e' ((k : Int) - 1) = true → 0 ≤ (k : Int) - 1 → e'.nodes < (Od.cons e c r).nodes → ∀ p z : List UInt8, x = p ++ (e'.text ++ 41 :: z) → readS x k p.length = (e', (p ++ e'.text).length, false)) →
    loopS (readS x k) (decide (k = 0)) x n pre.length = (.cons e c r, (pre ++ Lib.join (Od.cons e c r).parts [43]).length, false)
  | nil, e, c, p, k, n, pre, y, hf, hx, hy, hn, hrd => by
    obtain ⟨n, rfl⟩ : ∃ k, n = k + 1 := ⟨n - 1, by omega⟩
    simp only [formT, Bool.and_eq_true, decide_eq_true_eq] at hf
    rw [join_eq] at hx ⊢
    have e1 : Lib.joinTail [43] nil.parts = [] := rfl
    rw [e1, List.append_nil] at hx ⊢
    have ht := termS_text (rd := readS x k) (dz := decide (k = 0)) hf.1.1.1 hx hy.ends (fun _ _ p z h => hrd e hf.1.1.2.2 hf.1.1.2.1 (by simp only [nodes]; omega) p z h) (dz_of hf.1.1.2.1)
    simp only [loopS, plusS, ht, put_text hf.1.1.1.1]
    have hx2 : x = (pre ++ termT e c) ++ y := by rw [hx]; simp
    rw [next_at hx2, if_neg]
    simp only [decide_eq_true_eq]
    refine take_ne fun b hb e' => ?_
    rw [hy b hb] at e'
    exact absurd e' (by decide)
  | cons e2 c2 r, e, c, p, k, n, pre, y, hf, hx, hy, hn, hrd => by
    obtain ⟨n, rfl⟩ : ∃ k, n = k + 1 := ⟨n - 1, by omega⟩
    have hf0 := hf
    simp only [formT, Bool.and_eq_true, decide_eq_true_eq] at hf
    have hf2 : formT (some e) (cons e2 c2 r) (k : Int) = true := by
      simp only [formT, Bool.and_eq_true, decide_eq_true_eq]; exact hf.2
    rw [join_eq, tail_eq] at hx ⊢
    have hx1 : x = pre ++ (termT e c ++ (43 :: Lib.join (Od.cons e2 c2 r).parts [43] ++ y)) := by rw [hx]; simp
    have ht := termS_text (rd := readS x k) (dz := decide (k = 0)) hf.1.1.1 hx1 (by rw [← tail_eq]; exact tail_ends hy) (fun _ _ p z h => hrd e hf.1.1.2.2 hf.1.1.2.1 (by simp only [nodes]; omega) p z h) (dz_of hf.1.1.2.1)
    simp only [loopS, plusS, ht, put_text hf.1.1.1.1]
    have hx2 : x = (pre ++ termT e c) ++ (43 :: Lib.join (Od.cons e2 c2 r).parts [43] ++ y) := by rw [hx1]; simp
    rw [next_at hx2, if_pos (by simp)]
    have hx3 : x = (pre ++ termT e c ++ [43]) ++ (Lib.join (Od.cons e2 c2 r).parts [43] ++ y) := by rw [hx2]; simp
    have hl3 : (pre ++ termT e c ++ [43]).length = (pre ++ termT e c).length + 1 := by simp <;> omega
    have ih := loopS_text r e2 c2 (some e) k n _ y hf2 hx3 hy (by simp only [Od.len] at hn; omega) (fun e' h1 h0 h2 => hrd e' h1 h0 (by simp only [nodes] at h2 ⊢; omega))
    rw [hl3] at ih
    simp only [Bool.false_eq_true, if_false]
    rw [ih]
    simp <;> omega
theorem readS_text : ∀ (m : Nat) (a : Od) (k : Nat) (x pre y : List UInt8), a.nodes ≤ m → formT none a (k : Int) = true → x = pre ++ (a.text ++ y) → Stops y → readS x (k + 1) pre.length = (a, (pre ++ a.text).length, false)
  | 0, a, k, x, pre, y, hm, _, _, _ => by have := nodes_pos a; omega
  | m + 1, nil, k, x, pre, y, hm, hf, hx, hy => by
    have hx0 : x = pre ++ (Lib.decDigits 0 ++ y) := by rw [hx, dec_one 0 (by omega)]; rfl
    have hd := numS_at hx0 (by omega) hy.ends.noDig
    have hx1 : x = (pre ++ [48]) ++ y := by rw [hx]; simp [Od.text, parts, joined]
    have hl : (pre ++ [48]).length = pre.length + 1 := by simp
    have hl2 : (pre ++ Lib.decDigits 0).length = pre.length + 1 := by rw [dec_one 0 (by omega)]; simp
    have hn := next_at hx1 [43]
    rw [hl] at hn
    simp only [readS, loopS, termS]
    rw [next_at hx, if_neg (by simp [Od.text, parts, joined])]
    rw [hd.1, hd.2, hl2]
    simp only [plusS]
    rw [hn, if_neg]
    · simp [putS, Od.text, parts, joined]
    · simp only [decide_eq_true_eq]
      refine take_ne fun b hb e' => ?_
      rw [hy b hb] at e'
      exact absurd e' (by decide)
  | m + 1, cons e c r, k, x, pre, y, hm, hf, hx, hy => by
    rw [text_cons] at hx ⊢
    have hf0 := hf
    simp only [formT, Bool.and_eq_true, decide_eq_true_eq] at hf
    have hlen : r.len < x.length + 1 := by
      have h1 := len_join r
      rw [hx, join_eq]; simp; omega
    simp only [readS]
    refine loopS_text r e c none k _ pre y hf0 hx hy hlen ?_
    intro e' h1 h0 h2 p z hz
    cases k with
    | zero => omega
    | succ k =>
      rw [show ((k + 1 : Nat) : Int) - 1 = (k : Int) by omega] at h1
      exact readS_text m e' k x p (41 :: z) (by omega) h1 hz (fun b hb => by simpa using hb.symm)
/-- What both parsers say of a text: the valid ordinal whose text it is, if there is one. -/
noncomputable def parsed (t : List UInt8) : Od × Bool := by
  classical
  exact if h : ∃ a : Od, a.good = true ∧ a.text = t then (h.choose, true) else (nil, false)
theorem parsed_some {a : Od} (ha : a.good = true) (b : Od) (hb : b.good = true) (h : a.text = b.text) : a = b := by
  simp only [good, Bool.and_eq_true, decide_eq_true_eq] at ha hb
  have h1 := readI_text a.nodes a 6 a.text [] [] (Nat.le_refl _) ha.1 (by simp) (fun b hb => by cases hb)
  have h2 := readI_text b.nodes b 6 a.text [] [] (Nat.le_refl _) hb.1 (by simp [h]) (fun b hb => by cases hb)
  rw [h1] at h2
  exact congrArg Prod.fst h2
theorem parsed_yes {a : Od} (ha : a.good = true) : parsed a.text = (a, true) := by
  unfold parsed
  rw [dif_pos ⟨a, ha, rfl⟩]
  have h : ∃ b : Od, b.good = true ∧ b.text = a.text := ⟨a, ha, rfl⟩
  exact congrArg (fun b => (b, true)) (parsed_some ha h.choose h.choose_spec.1 h.choose_spec.2.symm).symm
theorem parsed_no {t : List UInt8} (h : ¬ ∃ a : Od, a.good = true ∧ a.text = t) : parsed t = (nil, false) := by
  unfold parsed
  rw [dif_neg h]
theorem parsed_good (t : List UInt8) : (parsed t).2 = true → (parsed t).1.good = true ∧ (parsed t).1.text = t := by
  intro h
  by_cases hp : ∃ a : Od, a.good = true ∧ a.text = t
  · obtain ⟨a, ha, rfl⟩ := hp
    rw [parsed_yes ha]; exact ⟨ha, rfl⟩
  · rw [parsed_no hp] at h; cases h
theorem W12 {t : List UInt8} (ht : t.length ≤ 10000000) : W E 12 [.val (.string (ba t))] = some [.sl 2 (parsed t).1.enc, .val (.bool (parsed t).2)] := by
  have h29 := W29 (x := t) (by omega) 7 0 (by omega) (by omega)
  have hin := readI_in t 7 0 (by omega)
  simp only [show (7 : Int) - ((7 : Nat) : Int) = 0 by omega, show ((0 : Nat) : Int) = 0 from rfl] at h29
  refine w12 (m := 0) _ ?_
  simp only [g12, mk_ba, h29, bindO_eq, pvAt_zero, pvAt_succ, getL_zero, getL_succ, dropL_one, int_val, bool_val, str_val, rows_sl, errB_err, cond_true, cond_false, chk_pos, beq00, beq10, zne00, zeq00, decide_true, decide_false, true_and, and_true, and_self, Bool.not_true, Bool.not_false, canon61, canon26, canon24, canon3, canon3d, Int.toNat_natCast, List.cons_append, List.nil_append, ba_size]
  by_cases hp : ∃ a : Od, a.good = true ∧ a.text = t
  · obtain ⟨a, ha, rfl⟩ := hp
    have hg := ha
    simp only [good, Bool.and_eq_true, decide_eq_true_eq] at hg
    have hr := readI_text a.nodes a 6 a.text [] [] (Nat.le_refl _) hg.1 (by simp) (fun b hb => by cases hb)
    rw [show ([] : List UInt8).length = 0 from rfl, show 6 + 1 = 7 from rfl, List.nil_append] at hr
    rw [hr, parsed_yes ha]
    have hn : a.nodes ≤ 1073741824 := by omega
    simp only [bindO_eq, pvAt_zero, pvAt_succ, getL_zero, getL_succ, dropL_one, int_val, bool_val, str_val, rows_sl, errB_err, cond_true, cond_false, chk_pos, beq00, beq10, zne00, zeq00, decide_true, decide_false, true_and, and_true, and_self, Bool.not_true, Bool.not_false, canon61, canon26, canon24, canon3, canon3d, Int.toNat_natCast, List.cons_append, List.nil_append, ine_f (rfl : (a.text.length : Int) = a.text.length), W11 hn, ha, W24 (good_pos ha) (cok_mono (by omega) (good_cok ha)) hn, ba_beq]
  · rw [parsed_no hp]
    generalize readI t 7 0 = z at hin ⊢
    obtain ⟨a, i, b⟩ := z
    obtain ⟨_, h2, h3⟩ := hin
    simp only at h2 h3
    have hn : a.nodes ≤ 1073741824 := by omega
    cases b with
    | true => simp only [bindO_eq, pvAt_zero, pvAt_succ, getL_zero, getL_succ, dropL_one, int_val, bool_val, str_val, rows_sl, errB_err, cond_true, cond_false, chk_pos, beq00, beq10, zne00, zeq00, decide_true, decide_false, true_and, and_true, and_self, Bool.not_true, Bool.not_false, canon61, canon26, canon24, canon3, canon3d, Int.toNat_natCast, List.cons_append, List.nil_append, Od.enc]
    | false =>
      simp only [bindO_eq, pvAt_zero, pvAt_succ, getL_zero, getL_succ, dropL_one, int_val, bool_val, str_val, rows_sl, errB_err, cond_true, cond_false, chk_pos, beq00, beq10, zne00, zeq00, decide_true, decide_false, true_and, and_true, and_self, Bool.not_true, Bool.not_false, canon61, canon26, canon24, canon3, canon3d, Int.toNat_natCast, List.cons_append, List.nil_append, W11 hn]
      cases hi : ((i : Int) != (t.length : Int)) with
      | true => simp only [bindO_eq, pvAt_zero, pvAt_succ, getL_zero, getL_succ, dropL_one, int_val, bool_val, str_val, rows_sl, errB_err, cond_true, cond_false, chk_pos, beq00, beq10, zne00, zeq00, decide_true, decide_false, true_and, and_true, and_self, Bool.not_true, Bool.not_false, canon61, canon26, canon24, canon3, canon3d, Int.toNat_natCast, List.cons_append, List.nil_append, Od.enc]
      | false =>
        cases hg : a.good with
        | false => simp only [bindO_eq, pvAt_zero, pvAt_succ, getL_zero, getL_succ, dropL_one, int_val, bool_val, str_val, rows_sl, errB_err, cond_true, cond_false, chk_pos, beq00, beq10, zne00, zeq00, decide_true, decide_false, true_and, and_true, and_self, Bool.not_true, Bool.not_false, canon61, canon26, canon24, canon3, canon3d, Int.toNat_natCast, List.cons_append, List.nil_append, Od.enc]
        | true =>
          have hne : ¬ (a.text = t) := fun e => hp ⟨a, hg, e⟩
          simp only [bindO_eq, pvAt_zero, pvAt_succ, getL_zero, getL_succ, dropL_one, int_val, bool_val, str_val, rows_sl, errB_err, cond_true, cond_false, chk_pos, beq00, beq10, zne00, zeq00, decide_true, decide_false, true_and, and_true, and_self, Bool.not_true, Bool.not_false, canon61, canon26, canon24, canon3, canon3d, Int.toNat_natCast, List.cons_append, List.nil_append, W24 (good_pos hg) (cok_mono (by omega) (good_cok hg)) hn, ba_beq, hne, Od.enc]
theorem W17 {t : List UInt8} (ht : t.length ≤ 10000000) : W E 17 [.val (.string (ba t))] = some [.sl 2 (parsed t).1.enc, .val (.bool (parsed t).2)] := by
  have h61 := W61 (x := t) (by omega) 6 0 (by omega) (by omega)
  have hin := readS_in t 7 0 (by omega)
  simp only [show ((6 : Nat) : Int) = 6 from rfl, show ((0 : Nat) : Int) = 0 from rfl] at h61
  have h38 : W E 38 [.val (.string (ba t))] = some [.sl 2 (parsed t).1.enc, .val (.bool (parsed t).2)] := by
    refine w38 (m := 0) _ ?_
    simp only [g38, h61, bindO_eq, pvAt_zero, pvAt_succ, getL_zero, getL_succ, dropL_one, int_val, bool_val, str_val, rows_sl, errB_err, cond_true, cond_false, chk_pos, beq00, beq10, zne00, zeq00, decide_true, decide_false, true_and, and_true, and_self, Bool.not_true, Bool.not_false, canon61, canon26, canon24, canon3, canon3d, Int.toNat_natCast, List.cons_append, List.nil_append, ba_size]
    by_cases hp : ∃ a : Od, a.good = true ∧ a.text = t
    · obtain ⟨a, ha, rfl⟩ := hp
      have hg := ha
      simp only [good, Bool.and_eq_true, decide_eq_true_eq] at hg
      have hr := readS_text a.nodes a 6 a.text [] [] (Nat.le_refl _) hg.1 (by simp) (fun b hb => by cases hb)
      rw [show ([] : List UInt8).length = 0 from rfl, List.nil_append] at hr
      rw [hr, parsed_yes ha]
      have hn : a.nodes ≤ 1073741824 := by omega
      simp only [bindO_eq, pvAt_zero, pvAt_succ, getL_zero, getL_succ, dropL_one, int_val, bool_val, str_val, rows_sl, errB_err, cond_true, cond_false, chk_pos, beq00, beq10, zne00, zeq00, decide_true, decide_false, true_and, and_true, and_self, Bool.not_true, Bool.not_false, canon61, canon26, canon24, canon3, canon3d, Int.toNat_natCast, List.cons_append, List.nil_append, ine_f (rfl : (a.text.length : Int) = a.text.length), W25 hn, ha, W26 (good_pos ha) (cok_mono (by omega) (good_cok ha)) hn, ba_beq]
    · rw [parsed_no hp]
      rw [show 6 + 1 = 7 from rfl]
      generalize readS t 7 0 = z at hin ⊢
      obtain ⟨a, i, b⟩ := z
      obtain ⟨_, h2, h3⟩ := hin
      simp only at h2 h3
      have hn : a.nodes ≤ 1073741824 := by omega
      cases b with
      | true => simp only [bindO_eq, pvAt_zero, pvAt_succ, getL_zero, getL_succ, dropL_one, int_val, bool_val, str_val, rows_sl, errB_err, cond_true, cond_false, chk_pos, beq00, beq10, zne00, zeq00, decide_true, decide_false, true_and, and_true, and_self, Bool.not_true, Bool.not_false, canon61, canon26, canon24, canon3, canon3d, Int.toNat_natCast, List.cons_append, List.nil_append, Od.enc]
      | false =>
        simp only [bindO_eq, pvAt_zero, pvAt_succ, getL_zero, getL_succ, dropL_one, int_val, bool_val, str_val, rows_sl, errB_err, cond_true, cond_false, chk_pos, beq00, beq10, zne00, zeq00, decide_true, decide_false, true_and, and_true, and_self, Bool.not_true, Bool.not_false, canon61, canon26, canon24, canon3, canon3d, Int.toNat_natCast, List.cons_append, List.nil_append, W25 hn]
        cases hi : ((i : Int) != (t.length : Int)) with
        | true => simp only [bindO_eq, pvAt_zero, pvAt_succ, getL_zero, getL_succ, dropL_one, int_val, bool_val, str_val, rows_sl, errB_err, cond_true, cond_false, chk_pos, beq00, beq10, zne00, zeq00, decide_true, decide_false, true_and, and_true, and_self, Bool.not_true, Bool.not_false, canon61, canon26, canon24, canon3, canon3d, Int.toNat_natCast, List.cons_append, List.nil_append, Od.enc]
        | false =>
          cases hg : a.good with
          | false => simp only [bindO_eq, pvAt_zero, pvAt_succ, getL_zero, getL_succ, dropL_one, int_val, bool_val, str_val, rows_sl, errB_err, cond_true, cond_false, chk_pos, beq00, beq10, zne00, zeq00, decide_true, decide_false, true_and, and_true, and_self, Bool.not_true, Bool.not_false, canon61, canon26, canon24, canon3, canon3d, Int.toNat_natCast, List.cons_append, List.nil_append, Od.enc]
          | true =>
            have hne : ¬ (a.text = t) := fun e => hp ⟨a, hg, e⟩
            simp only [bindO_eq, pvAt_zero, pvAt_succ, getL_zero, getL_succ, dropL_one, int_val, bool_val, str_val, rows_sl, errB_err, cond_true, cond_false, chk_pos, beq00, beq10, zne00, zeq00, decide_true, decide_false, true_and, and_true, and_self, Bool.not_true, Bool.not_false, canon61, canon26, canon24, canon3, canon3d, Int.toNat_natCast, List.cons_append, List.nil_append, W26 (good_pos hg) (cok_mono (by omega) (good_cok hg)) hn, ba_beq, hne, Od.enc]
  refine w17 (m := 0) _ ?_
  simp only [g17, h38, bindO_eq, pvAt_zero, pvAt_succ, getL_zero, getL_succ, dropL_one, int_val, bool_val, str_val, rows_sl, errB_err, cond_true, cond_false, chk_pos, beq00, beq10, zne00, zeq00, decide_true, decide_false, true_and, and_true, and_self, Bool.not_true, Bool.not_false, canon61, canon26, canon24, canon3, canon3d, Int.toNat_natCast, List.cons_append, List.nil_append]
end Go.Vm
