import Derived.Test.YtdelbjcfgedjpaaDoorTd
/-! ### The two tests, run -/
namespace Go.Vm
open Go.Vm.D Od
set_option linter.unusedVariables false
set_option linter.unusedSimpArgs false
theorem W77 (a b c : Int) : W E 77 [.val (.int .i64 a), .val (.int .i64 b), .val (.int .i64 c)] = some [.val (.bool (decide (b ≤ a ∧ a ≤ c)))] := by
  refine w77 (m := 0) _ _ _ ?_
  unfold g77
  by_cases h : b ≤ a
  · simp [h]
  · simp [h]
theorem W59 (a b c : Int) : W E 59 [.val (.int .i64 a), .val (.int .i64 b), .val (.int .i64 c)] = some [.val (.bool (decide (b ≤ a ∧ a ≤ c)))] := by
  refine w59 (m := 0) _ _ _ ?_
  unfold g59
  by_cases h : b ≤ a
  · simp [h]
  · simp [h]
noncomputable def k54 (r4 : Nat × List PV) : Option (List PV) := bif Nat.beq r4.1 0 then (some [.val (.int .i64 ((pvAt r4.2 0).int))]) else (some [.val (.int .i64 ((pvAt r4.2 0).int))])
theorem t54 : ∀ (r : Od) (M m : Nat) (all pre : List (List PV)) (i d l : Int), r.nodes ≤ 1073741824 → -1099511627776 ≤ d + r.nodes → d ≤ 1099511627776 → -1099511627776 ≤ d - r.nodes → -2 ≤ l → l ≤ 1099511627776 → i = (pre.length : Int) → all = pre ++ r.enc → all.length ≤ 1099511627776 → r.len < m →
    bindO (iterN (lp54_3 (W E) M) m [.val (.int .i64 d), .val (.int .i64 l), .sl 2 all, .val (.int .i64 (all.length : Int)), .val (.int .i64 i)]) k54 = some [.val (.int .i64 (leftT r d l))]
  | .nil, M, m, all, pre, i, d, l, hn, hd0, hd, hd2, hl0, hl1, hi, h, hl, hm => by
    obtain ⟨m, rfl⟩ : ∃ k, m = k + 1 := ⟨m - 1, by omega⟩
    subst hi
    have he := at_end h
    rw [iterN_succ]
    simp only [lp54_3, lq54_3, bindO_eq, pvAt_zero, pvAt_succ, getL_zero, getL_succ, dropL_one, int_val, bool_val, str_val, rows_sl, errB_err, cond_true, cond_false, chk_pos, beq00, beq10, zne00, zeq00, decide_true, decide_false, true_and, and_true, and_self, Bool.not_true, Bool.not_false, canon61, canon26, canon24, canon3, canon3d, Int.toNat_natCast, List.cons_append, List.nil_append, he, k54, leftT]
  | .cons e c r, M, m, all, pre, i, d, l, hn, hd0, hd, hd2, hl0, hl1, hi, h, hl, hm => by
    obtain ⟨m, rfl⟩ : ∃ k, m = k + 1 := ⟨m - 1, by omega⟩
    subst hi
    simp only [Od.len] at hm
    simp only [Od.nodes] at hn hd0 hd2
    have := nodes_pos r
    obtain ⟨h2, h3, h4, h5, h6⟩ := at_round [] h hl
    have hee : e.enc.length ≤ 1099511627776 := by rw [e.enc_len]; have := e.len_lt; omega
    rw [iterN_succ]
    simp only [lp54_3, lq54_3, bindO_eq, pvAt_zero, pvAt_succ, getL_zero, getL_succ, dropL_one, int_val, bool_val, str_val, rows_sl, errB_err, cond_true, cond_false, chk_pos, beq00, beq10, zne00, zeq00, decide_true, decide_false, true_and, and_true, and_self, Bool.not_true, Bool.not_false, canon61, canon26, canon24, canon3, canon3d, Int.toNat_natCast, List.cons_append, List.nil_append, h2, h3, h4, leftT]
    by_cases h7 : l < 0
    · simp only [h7, bindO_eq, pvAt_zero, pvAt_succ, getL_zero, getL_succ, dropL_one, int_val, bool_val, str_val, rows_sl, errB_err, cond_true, cond_false, chk_pos, beq00, beq10, zne00, zeq00, decide_true, decide_false, true_and, and_true, and_self, Bool.not_true, Bool.not_false, canon61, canon26, canon24, canon3, canon3d, Int.toNat_natCast, List.cons_append, List.nil_append, k54, if_true]
    · by_cases h8 : d = 0
      · simp only [h7, ieq_t h8, bindO_eq, pvAt_zero, pvAt_succ, getL_zero, getL_succ, dropL_one, int_val, bool_val, str_val, rows_sl, errB_err, cond_true, cond_false, chk_pos, beq00, beq10, zne00, zeq00, decide_true, decide_false, true_and, and_true, and_self, Bool.not_true, Bool.not_false, canon61, canon26, canon24, canon3, canon3d, Int.toNat_natCast, List.cons_append, List.nil_append, k54, if_true, if_false, h8]
      · have hrec : W E 54 [.sl 2 e.enc, .val (.int .i64 (d - 1)), .val (.int .i64 (l - 1))] = some [.val (.int .i64 (leftT e (d - 1) (l - 1 - 1)))] := by
          refine w54 (m := e.len + 1) _ _ _ ?_
          unfold g54
          rw [wrap_id (n := l - 1 - 1) (by omega) (by omega)]
          exact t54 e (e.len + 1) (e.len + 1) e.enc [] 0 _ _ (by omega) (by omega) (by omega) (by omega) (by omega) (by omega) rfl rfl hee (by omega)
        simp only [h7, ieq_f h8, bindO_eq, pvAt_zero, pvAt_succ, getL_zero, getL_succ, dropL_one, int_val, bool_val, str_val, rows_sl, errB_err, cond_true, cond_false, chk_pos, beq00, beq10, zne00, zeq00, decide_true, decide_false, true_and, and_true, and_self, Bool.not_true, Bool.not_false, canon61, canon26, canon24, canon3, canon3d, Int.toNat_natCast, List.cons_append, List.nil_append, if_false, h8, h5]
        rw [wrap_id (n := l - 1) (by omega) (by omega), wrap_id (n := d - 1) (by omega) (by omega), hrec]
        simp only [bindO_eq, pvAt_zero, pvAt_succ, getL_zero, getL_succ, dropL_one, int_val, bool_val, str_val, rows_sl, errB_err, cond_true, cond_false, chk_pos, beq00, beq10, zne00, zeq00, decide_true, decide_false, true_and, and_true, and_self, Bool.not_true, Bool.not_false, canon61, canon26, canon24, canon3, canon3d, Int.toNat_natCast, List.cons_append, List.nil_append]
        have hb := left_le e (d - 1) (l - 1 - 1) (by omega) (by omega)
        exact t54 r M m all _ _ _ _ (by omega) (by omega) hd (by omega) hb.1 hb.2 rfl h6 hl (by omega)
noncomputable def k55 (r7 : Nat × List PV) : Option (List PV) := bif Nat.beq r7.1 0 then (some [.val (.bool true)]) else (some [.val (.bool ((pvAt r7.2 0).bool))])
/-- What stands ahead of a place in the row. -/
def Behind (pre : List (List PV)) : Option Od → Prop
  | none => pre = []
  | some q => ∃ (p0 : List (List PV)) (c0 : Int), pre = p0 ++ [[.sl 2 q.enc, .val (.int .i64 c0)]]
theorem behind_next (pre : List (List PV)) (e : Od) (c : Int) : Behind (pre ++ [[.sl 2 e.enc, .val (.int .i64 c)]]) (some e) := ⟨pre, c, rfl⟩
theorem behind_get {pre rest all : List (List PV)} {q : Od} (h : Behind pre (some q)) (ha : all = pre ++ rest) (hl : all.length ≤ 1099511627776) :
    (0 : Int) < (pre.length : Int) ∧ (0 : Int) ≤ IntKind.wrap .i64 ((pre.length : Int) - 1) ∧ IntKind.wrap .i64 ((pre.length : Int) - 1) < (all.length : Int) ∧ ∃ c0, getL [] all (Int.toNat (IntKind.wrap .i64 ((pre.length : Int) - 1))) = [.sl 2 q.enc, .val (.int .i64 c0)] := by
  obtain ⟨p0, c0, rfl⟩ := h
  subst ha
  simp only [List.length_append, List.length_cons, List.length_nil] at hl ⊢
  rw [wrap_id (by omega) (by omega)]
  refine ⟨by omega, by omega, by omega, c0, ?_⟩
  have : (((p0.length + (0 + 1) : Nat) : Int) - 1).toNat = p0.length := by omega
  rw [this]
  rw [List.append_assoc]
  exact getL_pre _ _ _ _
theorem t55 : ∀ (r : Od) (M m : Nat) (all pre : List (List PV)) (i d : Int) (p : Option Od), Behind pre p → (∀ q, p = some q → q.cok 1099511627776 ∧ q.nodes ≤ 1073741824) → r.nodes ≤ 1073741824 → d ≤ 1099511627776 → 0 ≤ d → i = (pre.length : Int) → all = pre ++ r.enc → all.length ≤ 1099511627776 → r.len < m →
    bindO (iterN (lp55_4 (W E) M) m [.val (.int .i64 d), .sl 2 all, .val (.int .i64 (all.length : Int)), .val (.int .i64 i), .sl 2 all]) k55 = some [.val (.bool (formT p r d))]
  | .nil, M, m, all, pre, i, d, p, hB, hp, hn, hd, hd0, hi, h, hl, hm => by
    obtain ⟨m, rfl⟩ : ∃ k, m = k + 1 := ⟨m - 1, by omega⟩
    subst hi
    have he := at_end h
    rw [iterN_succ]
    simp only [lp55_4, lq55_4, bindO_eq, pvAt_zero, pvAt_succ, getL_zero, getL_succ, dropL_one, int_val, bool_val, str_val, rows_sl, errB_err, cond_true, cond_false, chk_pos, beq00, beq10, zne00, zeq00, decide_true, decide_false, true_and, and_true, and_self, Bool.not_true, Bool.not_false, canon61, canon26, canon24, canon3, canon3d, Int.toNat_natCast, List.cons_append, List.nil_append, he, k55, formT]
  | .cons e c r, M, m, all, pre, i, d, p, hB, hp, hn, hd, hd0, hi, h, hl, hm => by
    obtain ⟨m, rfl⟩ : ∃ k, m = k + 1 := ⟨m - 1, by omega⟩
    subst hi
    simp only [Od.len] at hm
    simp only [Od.nodes] at hn
    obtain ⟨h2, h3, h4, h5, h6⟩ := at_round [] h hl
    have hee : e.enc.length ≤ 1099511627776 := by rw [e.enc_len]; have := e.len_lt; omega
    rw [iterN_succ]
    simp only [lp55_4, lq55_4, bindO_eq, pvAt_zero, pvAt_succ, getL_zero, getL_succ, dropL_one, int_val, bool_val, str_val, rows_sl, errB_err, cond_true, cond_false, chk_pos, beq00, beq10, zne00, zeq00, decide_true, decide_false, true_and, and_true, and_self, Bool.not_true, Bool.not_false, canon61, canon26, canon24, canon3, canon3d, Int.toNat_natCast, List.cons_append, List.nil_append, h2, h3, h4, W77, formT]
    by_cases h7 : 1 ≤ c ∧ c ≤ 1000000
    · have hrec : W E 55 [.sl 2 e.enc, .val (.int .i64 (d - 1))] = some [.val (.bool (decide (0 ≤ d - 1) && formT none e (d - 1)))] := by
        refine w55 (m := e.len + 1) _ _ ?_
        unfold g55
        by_cases h8 : d - 1 < 0
        · simp [h8, show ¬ (0 ≤ d - 1) by omega]; omega
        · simp only [h8, bindO_eq, pvAt_zero, pvAt_succ, getL_zero, getL_succ, dropL_one, int_val, bool_val, str_val, rows_sl, errB_err, cond_true, cond_false, chk_pos, beq00, beq10, zne00, zeq00, decide_true, decide_false, true_and, and_true, and_self, Bool.not_true, Bool.not_false, canon61, canon26, canon24, canon3, canon3d, Int.toNat_natCast, List.cons_append, List.nil_append, show 0 ≤ d - 1 by omega, Bool.true_and]
          exact t55 e (e.len + 1) (e.len + 1) e.enc [] 0 _ none rfl (fun q hq => by cases hq) (by omega) (by omega) (by omega) rfl rfl hee (by omega)
      rw [wrap_id (n := d - 1) (by omega) (by omega)]
      simp only [hrec, h7, bindO_eq, pvAt_zero, pvAt_succ, getL_zero, getL_succ, dropL_one, int_val, bool_val, str_val, rows_sl, errB_err, cond_true, cond_false, chk_pos, beq00, beq10, zne00, zeq00, decide_true, decide_false, true_and, and_true, and_self, Bool.not_true, Bool.not_false, canon61, canon26, canon24, canon3, canon3d, Int.toNat_natCast, List.cons_append, List.nil_append, Bool.true_and]
      cases hf : (decide (0 ≤ d - 1) && formT none e (d - 1)) with
      | false => simp only [bindO_eq, pvAt_zero, pvAt_succ, getL_zero, getL_succ, dropL_one, int_val, bool_val, str_val, rows_sl, errB_err, cond_true, cond_false, chk_pos, beq00, beq10, zne00, zeq00, decide_true, decide_false, true_and, and_true, and_self, Bool.not_true, Bool.not_false, canon61, canon26, canon24, canon3, canon3d, Int.toNat_natCast, List.cons_append, List.nil_append, k55, Bool.false_and]
      | true =>
        have hfe : formT none e (d - 1) = true := by simp only [Bool.and_eq_true] at hf; exact hf.2
        have hec := cok_mono (B' := 1099511627776) (by omega) (form_cok _ _ _ hfe)
        have hnext := t55 r M m all _ _ d (some e) (behind_next pre e c) (fun q hq => by cases hq; exact ⟨hec, by omega⟩) (by omega) hd hd0 rfl h6 hl (by omega)
        simp only [bindO_eq, pvAt_zero, pvAt_succ, getL_zero, getL_succ, dropL_one, int_val, bool_val, str_val, rows_sl, errB_err, cond_true, cond_false, chk_pos, beq00, beq10, zne00, zeq00, decide_true, decide_false, true_and, and_true, and_self, Bool.not_true, Bool.not_false, canon61, canon26, canon24, canon3, canon3d, Int.toNat_natCast, List.cons_append, List.nil_append, Bool.true_and]
        cases p with
        | none =>
          have h10 : ¬ ((0 : Int) < (pre.length : Int)) := by rw [show pre = [] from hB]; simp
          simp only [gt_iff_lt, h10, bindO_eq, pvAt_zero, pvAt_succ, getL_zero, getL_succ, dropL_one, int_val, bool_val, str_val, rows_sl, errB_err, cond_true, cond_false, chk_pos, beq00, beq10, zne00, zeq00, decide_true, decide_false, true_and, and_true, and_self, Bool.not_true, Bool.not_false, canon61, canon26, canon24, canon3, canon3d, Int.toNat_natCast, List.cons_append, List.nil_append, above, Bool.true_and, h5]
          exact hnext
        | some q =>
          obtain ⟨h10, h11, h12, c0, h13⟩ := behind_get hB h hl
          have hq := hp q rfl
          have hcmp := W58 hq.1 hec hq.2 (show e.nodes ≤ 1073741824 by omega)
          simp only [gt_iff_lt, h10, h11, h12, h13, bindO_eq, pvAt_zero, pvAt_succ, getL_zero, getL_succ, dropL_one, int_val, bool_val, str_val, rows_sl, errB_err, cond_true, cond_false, chk_pos, beq00, beq10, zne00, zeq00, decide_true, decide_false, true_and, and_true, and_self, Bool.not_true, Bool.not_false, canon61, canon26, canon24, canon3, canon3d, Int.toNat_natCast, List.cons_append, List.nil_append, hcmp, above]
          by_cases h14 : q.cmp e ≤ 0
          · simp only [h14, bindO_eq, pvAt_zero, pvAt_succ, getL_zero, getL_succ, dropL_one, int_val, bool_val, str_val, rows_sl, errB_err, cond_true, cond_false, chk_pos, beq00, beq10, zne00, zeq00, decide_true, decide_false, true_and, and_true, and_self, Bool.not_true, Bool.not_false, canon61, canon26, canon24, canon3, canon3d, Int.toNat_natCast, List.cons_append, List.nil_append, k55, show ¬ (0 < q.cmp e) by omega, Bool.false_and]
          · simp only [h14, bindO_eq, pvAt_zero, pvAt_succ, getL_zero, getL_succ, dropL_one, int_val, bool_val, str_val, rows_sl, errB_err, cond_true, cond_false, chk_pos, beq00, beq10, zne00, zeq00, decide_true, decide_false, true_and, and_true, and_self, Bool.not_true, Bool.not_false, canon61, canon26, canon24, canon3, canon3d, Int.toNat_natCast, List.cons_append, List.nil_append, show 0 < q.cmp e by omega, Bool.true_and, h5]
            exact hnext
    · simp only [h7, bindO_eq, pvAt_zero, pvAt_succ, getL_zero, getL_succ, dropL_one, int_val, bool_val, str_val, rows_sl, errB_err, cond_true, cond_false, chk_pos, beq00, beq10, zne00, zeq00, decide_true, decide_false, true_and, and_true, and_self, Bool.not_true, Bool.not_false, canon61, canon26, canon24, canon3, canon3d, Int.toNat_natCast, List.cons_append, List.nil_append, k55, Bool.false_and]
theorem W25 {a : Od} (hn : a.nodes ≤ 1073741824) : W E 25 [.sl 2 a.enc] = some [.val (.bool a.good)] := by
  have hlt := a.len_lt
  have hal : a.enc.length ≤ 1099511627776 := by rw [a.enc_len]; omega
  have h54 : W E 54 [.sl 2 a.enc, .val (.int .i64 6), .val (.int .i64 60)] = some [.val (.int .i64 (leftT a 6 59))] := by
    refine w54 (m := a.len + 1) _ _ _ ?_
    unfold g54
    rw [wrap_id (n := 60 - 1) (by omega) (by omega)]
    exact t54 a (a.len + 1) (a.len + 1) a.enc [] 0 6 59 (by omega) (by omega) (by omega) (by omega) (by omega) (by omega) rfl rfl hal (by omega)
  have h55 : W E 55 [.sl 2 a.enc, .val (.int .i64 6)] = some [.val (.bool (formT none a 6))] := by
    refine w55 (m := a.len + 1) _ _ ?_
    unfold g55
    have := t55 a (a.len + 1) (a.len + 1) a.enc [] 0 6 none rfl (fun q hq => by cases hq) (by omega) (by omega) (by omega) rfl rfl hal (by omega)
    simp only [show ¬ ((6 : Int) < 0) by omega, bindO_eq, pvAt_zero, pvAt_succ, getL_zero, getL_succ, dropL_one, int_val, bool_val, str_val, rows_sl, errB_err, cond_true, cond_false, chk_pos, beq00, beq10, zne00, zeq00, decide_true, decide_false, true_and, and_true, and_self, Bool.not_true, Bool.not_false, canon61, canon26, canon24, canon3, canon3d, Int.toNat_natCast, List.cons_append, List.nil_append]
    exact this
  refine w25 (m := 0) _ ?_
  simp only [g25, h54, bindO_eq, pvAt_zero, pvAt_succ, getL_zero, getL_succ, dropL_one, int_val, bool_val, str_val, rows_sl, errB_err, cond_true, cond_false, chk_pos, beq00, beq10, zne00, zeq00, decide_true, decide_false, true_and, and_true, and_self, Bool.not_true, Bool.not_false, canon61, canon26, canon24, canon3, canon3d, Int.toNat_natCast, List.cons_append, List.nil_append, h55]
  have hs := (left_spec a 6 59).1
  by_cases h1 : 0 ≤ leftT a 6 59
  · have h2 : a.nodes ≤ 60 := by have := (hs.1 h1).1; omega
    simp only [ge_iff_le, h1, bindO_eq, pvAt_zero, pvAt_succ, getL_zero, getL_succ, dropL_one, int_val, bool_val, str_val, rows_sl, errB_err, cond_true, cond_false, chk_pos, beq00, beq10, zne00, zeq00, decide_true, decide_false, true_and, and_true, and_self, Bool.not_true, Bool.not_false, canon61, canon26, canon24, canon3, canon3d, Int.toNat_natCast, List.cons_append, List.nil_append, good, h2, Bool.and_true]
  · simp only [ge_iff_le, h1, bindO_eq, pvAt_zero, pvAt_succ, getL_zero, getL_succ, dropL_one, int_val, bool_val, str_val, rows_sl, errB_err, cond_true, cond_false, chk_pos, beq00, beq10, zne00, zeq00, decide_true, decide_false, true_and, and_true, and_self, Bool.not_true, Bool.not_false, canon61, canon26, canon24, canon3, canon3d, Int.toNat_natCast, List.cons_append, List.nil_append]
    cases hg : a.good with
    | false => rfl
    | true =>
      exfalso
      simp only [good, Bool.and_eq_true, decide_eq_true_eq] at hg
      exact h1 (hs.2 ⟨by omega, form_dp _ _ _ hg.1⟩)
noncomputable def k27 (r7 : Nat × List PV) : Option (List PV) := bif Nat.beq r7.1 0 then (some [.val (.bool true), .val (.int .i64 ((pvAt r7.2 0).int))]) else (some [.val (.bool ((pvAt r7.2 0).bool)), .val (.int .i64 ((pvAt r7.2 1).int))])
theorem t27 : ∀ (r : Od) (M m : Nat) (all pre : List (List PV)) (tl : List PV) (i d n : Int) (p : Option Od), Behind pre p → (∀ q, p = some q → q.nodes ≤ 1073741824) → r.nodes ≤ 1073741824 → 0 ≤ d → d ≤ 6 → 0 ≤ n → n ≤ 60 → i = (pre.length : Int) → all = pre ++ r.enc → all.length ≤ 1099511627776 → r.len < m →
    bindO (iterN (lp27_5 (W E) M) m [.sl 1 [.sl 2 all :: tl], .val (.int .i64 d), .val (.int .i64 (all.length : Int)), .val (.int .i64 i), .val (.int .i64 n)]) k27 = some [.val (.bool (atT p r d n).1), .val (.int .i64 (atT p r d n).2)]
  | .nil, M, m, all, pre, tl, i, d, n, p, hB, hp, hn, hd0, hd, hn0, hn1, hi, h, hl, hm => by
    obtain ⟨m, rfl⟩ : ∃ k, m = k + 1 := ⟨m - 1, by omega⟩
    subst hi
    have he := at_end h
    rw [iterN_succ]
    simp only [lp27_5, lq27_5, bindO_eq, pvAt_zero, pvAt_succ, getL_zero, getL_succ, dropL_one, int_val, bool_val, str_val, rows_sl, errB_err, cond_true, cond_false, chk_pos, beq00, beq10, zne00, zeq00, decide_true, decide_false, true_and, and_true, and_self, Bool.not_true, Bool.not_false, canon61, canon26, canon24, canon3, canon3d, Int.toNat_natCast, List.cons_append, List.nil_append, he, k27, atT]
  | .cons e c r, M, m, all, pre, tl, i, d, n, p, hB, hp, hn, hd0, hd, hn0, hn1, hi, h, hl, hm => by
    obtain ⟨m, rfl⟩ : ∃ k, m = k + 1 := ⟨m - 1, by omega⟩
    subst hi
    simp only [Od.len] at hm
    simp only [Od.nodes] at hn
    obtain ⟨h2, h3, h4, h5, h6⟩ := at_round [] h hl
    have hee : e.enc.length ≤ 1099511627776 := by rw [e.enc_len]; have := e.len_lt; omega
    rw [iterN_succ]
    simp only [lp27_5, lq27_5, bindO_eq, pvAt_zero, pvAt_succ, getL_zero, getL_succ, dropL_one, int_val, bool_val, str_val, rows_sl, errB_err, cond_true, cond_false, chk_pos, beq00, beq10, zne00, zeq00, decide_true, decide_false, true_and, and_true, and_self, Bool.not_true, Bool.not_false, canon61, canon26, canon24, canon3, canon3d, Int.toNat_natCast, List.cons_append, List.nil_append, h2, h3, h4, W59, atT]
    simp only [wrap_id (n := n + 1) (by omega) (by omega), wrap_id (n := d + 1) (by omega) (by omega)]
    by_cases h5' : n + 1 > 60
    · simp only [h5', bindO_eq, pvAt_zero, pvAt_succ, getL_zero, getL_succ, dropL_one, int_val, bool_val, str_val, rows_sl, errB_err, cond_true, cond_false, chk_pos, beq00, beq10, zne00, zeq00, decide_true, decide_false, true_and, and_true, and_self, Bool.not_true, Bool.not_false, canon61, canon26, canon24, canon3, canon3d, Int.toNat_natCast, List.cons_append, List.nil_append, k27, if_true]
    by_cases h7 : 1 ≤ c ∧ c ≤ 1000000
    · have hrec : W E 27 [.sl 1 [[.sl 2 e.enc, .val (.int .i64 c)]], .val (.int .i64 (d + 1)), .val (.int .i64 (n + 1))] = some [.val (.bool (if n + 1 + 1 > 60 then (false, n + 1 + 1) else if d + 1 > 6 then (false, n + 1 + 1) else atT none e (d + 1) (n + 1 + 1)).1), .val (.int .i64 (if n + 1 + 1 > 60 then (false, n + 1 + 1) else if d + 1 > 6 then (false, n + 1 + 1) else atT none e (d + 1) (n + 1 + 1)).2)] := by
        refine w27 (m := e.len + 1) _ _ _ ?_
        unfold g27
        simp only [wrap_id (n := n + 1 + 1) (by omega) (by omega)]
        by_cases h8 : n + 1 + 1 > 60
        · simp only [h8, bindO_eq, pvAt_zero, pvAt_succ, getL_zero, getL_succ, dropL_one, int_val, bool_val, str_val, rows_sl, errB_err, cond_true, cond_false, chk_pos, beq00, beq10, zne00, zeq00, decide_true, decide_false, true_and, and_true, and_self, Bool.not_true, Bool.not_false, canon61, canon26, canon24, canon3, canon3d, Int.toNat_natCast, List.cons_append, List.nil_append, if_true]
        by_cases h9 : d + 1 > 6
        · simp only [h8, h9, bindO_eq, pvAt_zero, pvAt_succ, getL_zero, getL_succ, dropL_one, int_val, bool_val, str_val, rows_sl, errB_err, cond_true, cond_false, chk_pos, beq00, beq10, zne00, zeq00, decide_true, decide_false, true_and, and_true, and_self, Bool.not_true, Bool.not_false, canon61, canon26, canon24, canon3, canon3d, Int.toNat_natCast, List.cons_append, List.nil_append, if_true, if_false]
        simp only [h8, h9, bindO_eq, pvAt_zero, pvAt_succ, getL_zero, getL_succ, dropL_one, int_val, bool_val, str_val, rows_sl, errB_err, cond_true, cond_false, chk_pos, beq00, beq10, zne00, zeq00, decide_true, decide_false, true_and, and_true, and_self, Bool.not_true, Bool.not_false, canon61, canon26, canon24, canon3, canon3d, Int.toNat_natCast, List.cons_append, List.nil_append, if_false]
        exact t27 e (e.len + 1) (e.len + 1) e.enc [] _ 0 _ _ none rfl (fun q hq => by cases hq) (by omega) (by omega) (by omega) (by omega) (by omega) rfl rfl hee (by omega)
      simp only [h5', h7, bindO_eq, pvAt_zero, pvAt_succ, getL_zero, getL_succ, dropL_one, int_val, bool_val, str_val, rows_sl, errB_err, cond_true, cond_false, chk_pos, beq00, beq10, zne00, zeq00, decide_true, decide_false, true_and, and_true, and_self, Bool.not_true, Bool.not_false, canon61, canon26, canon24, canon3, canon3d, Int.toNat_natCast, List.cons_append, List.nil_append, hrec, if_false, not_true_eq_false, Bool.true_eq_false]
      generalize hx : (if n + 1 + 1 > 60 then (false, n + 1 + 1) else if d + 1 > 6 then (false, n + 1 + 1) else atT none e (d + 1) (n + 1 + 1)) = x
      have hx0 : x.1 = true → 0 ≤ x.2 ∧ x.2 ≤ 60 := by
        intro hx1
        subst hx
        by_cases h8 : n + 1 + 1 > 60
        · rw [if_pos h8] at hx1; cases hx1
        by_cases h9 : d + 1 > 6
        · rw [if_neg h8, if_pos h9] at hx1; cases hx1
        rw [if_neg h8, if_neg h9] at hx1 ⊢
        have hs := at_spec e none (d + 1) (n + 1 + 1) (by omega) (by omega)
        have := hs.1.1 hx1
        have := hs.2 hx1
        have := nodes_pos e
        omega
      obtain ⟨b, x2⟩ := x
      cases b with
      | false => simp only [bindO_eq, pvAt_zero, pvAt_succ, getL_zero, getL_succ, dropL_one, int_val, bool_val, str_val, rows_sl, errB_err, cond_true, cond_false, chk_pos, beq00, beq10, zne00, zeq00, decide_true, decide_false, true_and, and_true, and_self, Bool.not_true, Bool.not_false, canon61, canon26, canon24, canon3, canon3d, Int.toNat_natCast, List.cons_append, List.nil_append, k27, if_true]
      | true =>
        have hx2 := hx0 rfl
        simp only at hx2
        have hnext := t27 r M m all _ tl _ d x2 (some e) (behind_next pre e c) (fun q hq => by cases hq; omega) (by omega) hd0 hd hx2.1 hx2.2 rfl h6 hl (by omega)
        simp only [bindO_eq, pvAt_zero, pvAt_succ, getL_zero, getL_succ, dropL_one, int_val, bool_val, str_val, rows_sl, errB_err, cond_true, cond_false, chk_pos, beq00, beq10, zne00, zeq00, decide_true, decide_false, true_and, and_true, and_self, Bool.not_true, Bool.not_false, canon61, canon26, canon24, canon3, canon3d, Int.toNat_natCast, List.cons_append, List.nil_append, Bool.true_eq_false, if_false]
        cases p with
        | none =>
          have h10 : ¬ ((0 : Int) < (pre.length : Int)) := by rw [show pre = [] from hB]; simp
          simp only [gt_iff_lt, h10, bindO_eq, pvAt_zero, pvAt_succ, getL_zero, getL_succ, dropL_one, int_val, bool_val, str_val, rows_sl, errB_err, cond_true, cond_false, chk_pos, beq00, beq10, zne00, zeq00, decide_true, decide_false, true_and, and_true, and_self, Bool.not_true, Bool.not_false, canon61, canon26, canon24, canon3, canon3d, Int.toNat_natCast, List.cons_append, List.nil_append, above, Bool.true_eq_false, if_false, h5]
          exact hnext
        | some q =>
          obtain ⟨h10, h11, h12, c0, h13⟩ := behind_get hB h hl
          have hcmp := W52 (hp q rfl) (show e.nodes ≤ 1073741824 by omega)
          simp only [gt_iff_lt, h10, h11, h12, h13, bindO_eq, pvAt_zero, pvAt_succ, getL_zero, getL_succ, dropL_one, int_val, bool_val, str_val, rows_sl, errB_err, cond_true, cond_false, chk_pos, beq00, beq10, zne00, zeq00, decide_true, decide_false, true_and, and_true, and_self, Bool.not_true, Bool.not_false, canon61, canon26, canon24, canon3, canon3d, Int.toNat_natCast, List.cons_append, List.nil_append, hcmp, above]
          by_cases h14 : q.cmp e ≤ 0
          · simp only [h14, bindO_eq, pvAt_zero, pvAt_succ, getL_zero, getL_succ, dropL_one, int_val, bool_val, str_val, rows_sl, errB_err, cond_true, cond_false, chk_pos, beq00, beq10, zne00, zeq00, decide_true, decide_false, true_and, and_true, and_self, Bool.not_true, Bool.not_false, canon61, canon26, canon24, canon3, canon3d, Int.toNat_natCast, List.cons_append, List.nil_append, k27, show ¬ (0 < q.cmp e) by omega, if_true]
          · simp only [h14, bindO_eq, pvAt_zero, pvAt_succ, getL_zero, getL_succ, dropL_one, int_val, bool_val, str_val, rows_sl, errB_err, cond_true, cond_false, chk_pos, beq00, beq10, zne00, zeq00, decide_true, decide_false, true_and, and_true, and_self, Bool.not_true, Bool.not_false, canon61, canon26, canon24, canon3, canon3d, Int.toNat_natCast, List.cons_append, List.nil_append, show 0 < q.cmp e by omega, Bool.true_eq_false, if_false, h5]
            exact hnext
    · simp only [h5', h7, bindO_eq, pvAt_zero, pvAt_succ, getL_zero, getL_succ, dropL_one, int_val, bool_val, str_val, rows_sl, errB_err, cond_true, cond_false, chk_pos, beq00, beq10, zne00, zeq00, decide_true, decide_false, true_and, and_true, and_self, Bool.not_true, Bool.not_false, canon61, canon26, canon24, canon3, canon3d, Int.toNat_natCast, List.cons_append, List.nil_append, k27, if_false, if_true, not_false_eq_true]
theorem W27 {a : Od} (hn : a.nodes ≤ 1073741824) : W E 27 [.sl 1 [[.sl 2 a.enc]], .val (.int .i64 0), .val (.int .i64 0)] = some [.val (.bool a.good), .val (.int .i64 (atT none a 0 1).2)] := by
  have hlt := a.len_lt
  refine w27 (m := a.len + 1) _ _ _ ?_
  unfold g27
  simp only [wrap_id (n := 0 + 1) (by omega) (by omega)]
  have h := t27 a (a.len + 1) (a.len + 1) a.enc [] [] 0 0 1 none rfl (fun q hq => by cases hq) hn (by omega) (by omega) (by omega) (by omega) rfl rfl (by rw [a.enc_len]; omega) (by omega)
  have hg := (at_good a).1
  rw [if_neg (by omega)] at hg
  rw [hg] at h
  simp only [show ¬ ((0 + 1 : Int) > 60) by omega, show ¬ ((0 : Int) > 6) by omega, bindO_eq, pvAt_zero, pvAt_succ, getL_zero, getL_succ, dropL_one, int_val, bool_val, str_val, rows_sl, errB_err, cond_true, cond_false, chk_pos, beq00, beq10, zne00, zeq00, decide_true, decide_false, true_and, and_true, and_self, Bool.not_true, Bool.not_false, canon61, canon26, canon24, canon3, canon3d, Int.toNat_natCast, List.cons_append, List.nil_append]
  exact h
theorem W11 {a : Od} (hn : a.nodes ≤ 1073741824) : W E 11 [.sl 2 a.enc] = some [.val (.bool a.good)] := by
  refine w11 (m := 0) _ ?_
  simp only [g11, W27 hn, bindO_eq, pvAt_zero, pvAt_succ, getL_zero, getL_succ, dropL_one, int_val, bool_val, str_val, rows_sl, errB_err, cond_true, cond_false, chk_pos, beq00, beq10, zne00, zeq00, decide_true, decide_false, true_and, and_true, and_self, Bool.not_true, Bool.not_false, canon61, canon26, canon24, canon3, canon3d, Int.toNat_natCast, List.cons_append, List.nil_append]
theorem W9 {a : Od} (hn : a.nodes ≤ 1073741824) : W E 9 [.sl 2 a.enc] = some [.val (.int .i64 (if a.good then a.nodes else 0)), .val (.bool a.good)] := by
  refine w9 (m := 0) _ ?_
  simp only [g9, W27 hn, bindO_eq, pvAt_zero, pvAt_succ, getL_zero, getL_succ, dropL_one, int_val, bool_val, str_val, rows_sl, errB_err, cond_true, cond_false, chk_pos, beq00, beq10, zne00, zeq00, decide_true, decide_false, true_and, and_true, and_self, Bool.not_true, Bool.not_false, canon61, canon26, canon24, canon3, canon3d, Int.toNat_natCast, List.cons_append, List.nil_append]
  cases hg : a.good with
  | false => simp only [bindO_eq, pvAt_zero, pvAt_succ, getL_zero, getL_succ, dropL_one, int_val, bool_val, str_val, rows_sl, errB_err, cond_true, cond_false, chk_pos, beq00, beq10, zne00, zeq00, decide_true, decide_false, true_and, and_true, and_self, Bool.not_true, Bool.not_false, canon61, canon26, canon24, canon3, canon3d, Int.toNat_natCast, List.cons_append, List.nil_append]; simp
  | true => simp only [bindO_eq, pvAt_zero, pvAt_succ, getL_zero, getL_succ, dropL_one, int_val, bool_val, str_val, rows_sl, errB_err, cond_true, cond_false, chk_pos, beq00, beq10, zne00, zeq00, decide_true, decide_false, true_and, and_true, and_self, Bool.not_true, Bool.not_false, canon61, canon26, canon24, canon3, canon3d, Int.toNat_natCast, List.cons_append, List.nil_append, (at_good a).2 hg]; simp
theorem W10 {a : Od} (hn : a.nodes ≤ 1073741824) : W E 10 [.sl 2 a.enc] = some [.val (.int .i64 (if a.good then a.nodes else 0)), .val (.bool a.good)] := by
  refine w10 (m := 0) _ ?_
  simp only [g10, W25 hn, bindO_eq, pvAt_zero, pvAt_succ, getL_zero, getL_succ, dropL_one, int_val, bool_val, str_val, rows_sl, errB_err, cond_true, cond_false, chk_pos, beq00, beq10, zne00, zeq00, decide_true, decide_false, true_and, and_true, and_self, Bool.not_true, Bool.not_false, canon61, canon26, canon24, canon3, canon3d, Int.toNat_natCast, List.cons_append, List.nil_append]
  cases hg : a.good with
  | false => simp only [bindO_eq, pvAt_zero, pvAt_succ, getL_zero, getL_succ, dropL_one, int_val, bool_val, str_val, rows_sl, errB_err, cond_true, cond_false, chk_pos, beq00, beq10, zne00, zeq00, decide_true, decide_false, true_and, and_true, and_self, Bool.not_true, Bool.not_false, canon61, canon26, canon24, canon3, canon3d, Int.toNat_natCast, List.cons_append, List.nil_append]; simp
  | true => simp only [bindO_eq, pvAt_zero, pvAt_succ, getL_zero, getL_succ, dropL_one, int_val, bool_val, str_val, rows_sl, errB_err, cond_true, cond_false, chk_pos, beq00, beq10, zne00, zeq00, decide_true, decide_false, true_and, and_true, and_self, Bool.not_true, Bool.not_false, canon61, canon26, canon24, canon3, canon3d, Int.toNat_natCast, List.cons_append, List.nil_append, W28 hn]; simp
end Go.Vm
