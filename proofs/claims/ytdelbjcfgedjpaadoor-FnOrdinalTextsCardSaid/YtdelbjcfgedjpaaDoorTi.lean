import Derived.Test.YtdelbjcfgedjpaaDoorTh
/-! ### The other text -/
namespace Go.Vm
open Go.Vm.D Od
set_option linter.unusedVariables false
set_option linter.unusedSimpArgs false
theorem parts_ne {a : Od} {p : List UInt8} {ps : List (List UInt8)} (hq : a.parts = p :: ps) : p ≠ [] := by
  cases a with
  | nil => cases hq
  | cons e1 c1 r1 =>
    simp only [parts, List.cons.injEq] at hq
    rw [← hq.1]
    split
    · have := dec_pos c1.toNat; intro h0; rw [h0] at this; simp at this
    · simp
theorem W26 {a : Od} (hp : a.pos) (hok : a.cok 1099511627776) (hn : a.nodes ≤ 1073741824) : W E 26 [.sl 2 a.enc] = some [.val (.string (ba a.text))] := by
  have hlt := a.len_lt
  refine w26 (m := a.len + 1) _ ?_
  have := W26_text a (a.len + 1) (a.len + 1) a.enc [] [] 0 hp hok hn (by simp; omega) rfl rfl (by rw [a.enc_len]; omega) (by omega)
  simp only [g26, mk_ba, this, bindO_eq, pvAt_zero, pvAt_succ, getL_zero, getL_succ, dropL_one, int_val, bool_val, str_val, rows_sl, errB_err, cond_true, cond_false, chk_pos, beq00, beq10, zne00, zeq00, decide_true, decide_false, true_and, and_true, and_self, Bool.not_true, Bool.not_false, canon61, canon26, canon24, canon3, canon3d, Int.toNat_natCast, List.cons_append, List.nil_append, ba_beq, tailOf, Od.text]
  cases hq : a.parts with
  | nil => simp [joined, Lib.join_nil, bindO_eq, pvAt_zero, str_val]
  | cons p ps =>
    have hne0 := parts_ne hq
    have hj : Lib.join (p :: ps) [43] ≠ [] := by
      rw [Lib.join_cons]; simp [hne0]
    simp [joined, bindO_eq, pvAt_zero, str_val, hj]
theorem text_len {a : Od} (hok : a.cok 1099511627776) : a.text.length ≤ 40 * a.nodes := by
  have := joined_len a.parts
  have := parts_len a hok
  simp only [Od.text]; omega
def linesOf (ps : List (List UInt8)) : List (List PV) := strRows (ps.map ba)
theorem linesOf_cons (p : List UInt8) (ps : List (List UInt8)) : linesOf (p :: ps) = [.val (.string (ba p))] :: linesOf ps := rfl
theorem linesOf_len (ps : List (List UInt8)) : (linesOf ps).length = ps.length := by simp [linesOf, strRows]
theorem parts_len' (a : Od) : a.parts.length = a.len := by
  induction a with
  | nil => rfl
  | cons e c r _ ih => simp [parts, Od.len, ih]
theorem rowStrs_linesOf (ps : List (List UInt8)) : rowStrs (linesOf ps) = ps.map ba := by
  induction ps with
  | nil => rfl
  | cons p ps ih => rw [linesOf_cons, rowStrs, ih]; rfl
theorem W53 {ps : List (List UInt8)} (h1 : ps.length ≤ 140737488355328) (h2 : (Lib.join ps [43]).length ≤ 140737488355328) : W E 53 [.sl 1 (linesOf ps), .val (.string (ba [43]))] = some [.val (.string (ba (Lib.join ps [43])))] := by
  refine W_lib E (by kernel_rfl) ?_
  rw [show E.lib 53 = libJoin by kernel_rfl]
  have e1 : (rowStrs (linesOf ps)).map (fun x => x.data.toList) = ps := by
    rw [rowStrs_linesOf, List.map_map]
    have : ((fun x : ByteArray => x.data.toList) ∘ ba) = id := by funext l; simp [ba]
    rw [this]; simp
  show chk (linesOf ps = strRows (rowStrs (linesOf ps)) ∧ (linesOf ps).length ≤ 140737488355328 ∧ (Lib.join ((rowStrs (linesOf ps)).map (·.data.toList)) (ba [43]).data.toList).length ≤ 140737488355328) (some [PV.val (.string ⟨(Lib.join ((rowStrs (linesOf ps)).map (·.data.toList)) (ba [43]).data.toList).toArray⟩)]) = _
  have e2 : (ba [43]).data.toList = [43] := rfl
  rw [e1, e2, chk_pos ⟨by rw [rowStrs_linesOf]; rfl, by rw [linesOf_len]; exact h1, h2⟩]
  rfl
noncomputable def k24 (C : Orc) (r15 : Nat × List PV) : Option (List PV) :=
  bif (((pvAt r15.2 0).rows).length : Int) == 0 then (some [.val (.string (ByteArray.mk #[48]))]) else (bindO (C 53 [.sl 1 ((pvAt r15.2 0).rows), .val (.string (ByteArray.mk #[43]))]) fun x16 =>
some [.val (.string ((pvAt x16 0).str))])
theorem k24_eq {a : Od} (hok : a.cok 1099511627776) (hn : a.nodes ≤ 1073741824) : k24 (W E) (0, [.sl 1 (linesOf a.parts)]) = some [.val (.string (ba a.text))] := by
  have hl := text_len hok
  have hp := parts_len' a
  have hlt := a.len_lt
  simp only [k24, bindO_eq, pvAt_zero, pvAt_succ, getL_zero, getL_succ, dropL_one, int_val, bool_val, str_val, rows_sl, errB_err, cond_true, cond_false, chk_pos, beq00, beq10, zne00, zeq00, decide_true, decide_false, true_and, and_true, and_self, Bool.not_true, Bool.not_false, canon61, canon26, canon24, canon3, canon3d, Int.toNat_natCast, List.cons_append, List.nil_append, mk_ba, linesOf_len]
  cases hq : a.parts with
  | nil => simp [Od.text, joined, hq]
  | cons p ps =>
    simp only [Od.text, joined, hq] at hl
    rw [hq] at hp
    have h1 : (((p :: ps).length : Int) == 0) = false := by simp; omega
    simp only [h1, bindO_eq, pvAt_zero, pvAt_succ, getL_zero, getL_succ, dropL_one, int_val, bool_val, str_val, rows_sl, errB_err, cond_true, cond_false, chk_pos, beq00, beq10, zne00, zeq00, decide_true, decide_false, true_and, and_true, and_self, Bool.not_true, Bool.not_false, canon61, canon26, canon24, canon3, canon3d, Int.toNat_natCast, List.cons_append, List.nil_append]
    rw [W53 (by omega) (by omega)]
    simp only [bindO_eq, pvAt_zero, pvAt_succ, getL_zero, getL_succ, dropL_one, int_val, bool_val, str_val, rows_sl, errB_err, cond_true, cond_false, chk_pos, beq00, beq10, zne00, zeq00, decide_true, decide_false, true_and, and_true, and_self, Bool.not_true, Bool.not_false, canon61, canon26, canon24, canon3, canon3d, Int.toNat_natCast, List.cons_append, List.nil_append, Od.text, joined, hq]
theorem W24_rows : ∀ (r : Od) (M m : Nat) (all pre : List (List PV)) (acc : List (List PV)) (i : Int), r.pos → r.cok 1099511627776 → r.nodes ≤ 1073741824 → acc.length + r.nodes ≤ 2147483648 → i = (pre.length : Int) → all = pre ++ r.enc → all.length ≤ 1099511627776 → r.len < m →
    iterN (lp24_3 (W E) M) m [.val (.string (ba [119])), .sl 2 all, .val (.int .i64 (all.length : Int)), .val (.int .i64 i), .sl 1 acc] = some (0, [.sl 1 (acc ++ linesOf r.parts)])
  | .nil, M, m, all, pre, acc, i, hpos, hok, hn, hacc, hi, h, hl, hm => by
    obtain ⟨m, rfl⟩ : ∃ k, m = k + 1 := ⟨m - 1, by omega⟩
    subst hi
    have he := at_end h
    rw [iterN_succ]
    simp only [lp24_3, lq24_3, bindO_eq, pvAt_zero, pvAt_succ, getL_zero, getL_succ, dropL_one, int_val, bool_val, str_val, rows_sl, errB_err, cond_true, cond_false, chk_pos, beq00, beq10, zne00, zeq00, decide_true, decide_false, true_and, and_true, and_self, Bool.not_true, Bool.not_false, canon61, canon26, canon24, canon3, canon3d, Int.toNat_natCast, List.cons_append, List.nil_append, he]
    simp [linesOf, parts, strRows]
  | .cons e c r, M, m, all, pre, acc, i, hpos, hok, hn, hacc, hi, h, hl, hm => by
    obtain ⟨m, rfl⟩ : ∃ k, m = k + 1 := ⟨m - 1, by omega⟩
    subst hi
    simp only [Od.len] at hm
    simp only [Od.nodes] at hn hacc
    have hlen := text_len hok.1
    have hp1 := nodes_pos e
    have hp2 := nodes_pos r
    obtain ⟨h2, h3, h4, h5, h6⟩ := at_round [] h hl
    have hee : e.enc.length ≤ 1099511627776 := by rw [e.enc_len]; have := e.len_lt; omega
    have hdl := dec_len 13 c.toNat (by omega) (by have := hok.2.1; omega)
    have h51 := W51 (c := c) (by have := hpos.2.1; omega) (by have := hok.2.1; omega)
    have hrec : W E 24 [.sl 2 e.enc, .val (.string (ba [119]))] = some [.val (.string (ba e.text))] := by
      refine w24 (m := e.len + 1) _ _ ?_
      have := W24_rows e (e.len + 1) (e.len + 1) e.enc [] [] 0 hpos.1 hok.1 (by omega) (by simp; omega) rfl rfl hee (by omega)
      show bindO _ (k24 (W E)) = _
      rw [this]
      simp only [bindO_eq, pvAt_zero, pvAt_succ, getL_zero, getL_succ, dropL_one, int_val, bool_val, str_val, rows_sl, errB_err, cond_true, cond_false, chk_pos, beq00, beq10, zne00, zeq00, decide_true, decide_false, true_and, and_true, and_self, Bool.not_true, Bool.not_false, canon61, canon26, canon24, canon3, canon3d, Int.toNat_natCast, List.cons_append, List.nil_append]
      exact k24_eq hok.1 (by omega)
    have hcmp : W E 52 [.sl 2 e.enc, .sl 2 (Od.nil.term 1).enc] = some [.val (.int .i64 (e.cmp Od.one))] :=
      W52 (b := Od.one) (by omega) (by decide)
    have hfin : ∀ x : List UInt8, x = (if e.isNil then Lib.decDigits c.toNat else 119 :: (up e (joined e.parts) ++ tail c)) →
        iterN (lp24_3 (W E) M) m [.val (.string (ba [119])), .sl 2 all, .val (.int .i64 (all.length : Int)), .val (.int .i64 ((pre ++ [[PV.sl 2 e.enc, .val (.int .i64 c)]]).length : Int)), .sl 1 (acc ++ [[.val (.string (ba x))]])] = some (0, [.sl 1 (acc ++ linesOf (Od.cons e c r).parts)]) := by
      intro x hx
      rw [W24_rows r M m all _ (acc ++ [[PV.val (.string (ba x))]]) _ hpos.2.2 hok.2.2 (by omega) (by simp; omega) rfl h6 hl (by omega)]
      simp only [parts, ← hx, linesOf_cons, List.append_assoc, bindO_eq, pvAt_zero, pvAt_succ, getL_zero, getL_succ, dropL_one, int_val, bool_val, str_val, rows_sl, errB_err, cond_true, cond_false, chk_pos, beq00, beq10, zne00, zeq00, decide_true, decide_false, true_and, and_true, and_self, Bool.not_true, Bool.not_false, canon61, canon26, canon24, canon3, canon3d, Int.toNat_natCast, List.cons_append, List.nil_append]
    rw [iterN_succ]
    simp only [lp24_3, lq24_3, bindO_eq, pvAt_zero, pvAt_succ, getL_zero, getL_succ, dropL_one, int_val, bool_val, str_val, rows_sl, errB_err, cond_true, cond_false, chk_pos, beq00, beq10, zne00, zeq00, decide_true, decide_false, true_and, and_true, and_self, Bool.not_true, Bool.not_false, canon61, canon26, canon24, canon3, canon3d, Int.toNat_natCast, List.cons_append, List.nil_append, h2, h3, h4, mk_ba, W32]
    cases hz : e.isNil with
    | true =>
      simp only [bindO_eq, pvAt_zero, pvAt_succ, getL_zero, getL_succ, dropL_one, int_val, bool_val, str_val, rows_sl, errB_err, cond_true, cond_false, chk_pos, beq00, beq10, zne00, zeq00, decide_true, decide_false, true_and, and_true, and_self, Bool.not_true, Bool.not_false, canon61, canon26, canon24, canon3, canon3d, Int.toNat_natCast, List.cons_append, List.nil_append, h51]
      rw [chk_pos (app_ok16 (l := acc) (by omega))]
      simp only [bindO_eq, pvAt_zero, pvAt_succ, getL_zero, getL_succ, dropL_one, int_val, bool_val, str_val, rows_sl, errB_err, cond_true, cond_false, chk_pos, beq00, beq10, zne00, zeq00, decide_true, decide_false, true_and, and_true, and_self, Bool.not_true, Bool.not_false, canon61, canon26, canon24, canon3, canon3d, Int.toNat_natCast, List.cons_append, List.nil_append, h5]
      exact hfin _ (by simp [hz])
    | false =>
      simp only [bindO_eq, pvAt_zero, pvAt_succ, getL_zero, getL_succ, dropL_one, int_val, bool_val, str_val, rows_sl, errB_err, cond_true, cond_false, chk_pos, beq00, beq10, zne00, zeq00, decide_true, decide_false, true_and, and_true, and_self, Bool.not_true, Bool.not_false, canon61, canon26, canon24, canon3, canon3d, Int.toNat_natCast, List.cons_append, List.nil_append, W41, hcmp]
      -- the tail
      have htail : ∀ (b : List UInt8), b.length ≤ 1099511627776 → 119 :: up e (joined e.parts) = b → ∀ K : Nat × List PV → Option (Nat × List PV),
          bindO (bif c != 1 then (chk ((ba [42]).size + (ba (Lib.decDigits c.toNat)).size ≤ 9223372036854775807) <|
            chk ((ba b).size + ((ba [42]) ++ (ba (Lib.decDigits c.toNat))).size ≤ 9223372036854775807) <|
            some (0, [.val (.string (ba [119])), .val (.string ((ba b) ++ ((ba [42]) ++ (ba (Lib.decDigits c.toNat))))), .sl 2 all, .val (.int .i64 (all.length : Int)), .val (.int .i64 (pre.length : Int)), .sl 1 acc])) else (some (0, [.val (.string (ba [119])), .val (.string (ba b)), .sl 2 all, .val (.int .i64 (all.length : Int)), .val (.int .i64 (pre.length : Int)), .sl 1 acc]))) K =
          K (0, [.val (.string (ba [119])), .val (.string (ba (119 :: (up e (joined e.parts) ++ tail c)))), .sl 2 all, .val (.int .i64 (all.length : Int)), .val (.int .i64 (pre.length : Int)), .sl 1 acc]) := by
        intro b hb hbe K
        by_cases hc : c = 1
        · subst hc
          simp only [ine_f (rfl : (1 : Int) = 1), bindO_eq, pvAt_zero, pvAt_succ, getL_zero, getL_succ, dropL_one, int_val, bool_val, str_val, rows_sl, errB_err, cond_true, cond_false, chk_pos, beq00, beq10, zne00, zeq00, decide_true, decide_false, true_and, and_true, and_self, Bool.not_true, Bool.not_false, canon61, canon26, canon24, canon3, canon3d, Int.toNat_natCast, List.cons_append, List.nil_append, tail, if_true, List.append_nil, hbe]
        · simp only [ine_t hc, bindO_eq, pvAt_zero, pvAt_succ, getL_zero, getL_succ, dropL_one, int_val, bool_val, str_val, rows_sl, errB_err, cond_true, cond_false, chk_pos, beq00, beq10, zne00, zeq00, decide_true, decide_false, true_and, and_true, and_self, Bool.not_true, Bool.not_false, canon61, canon26, canon24, canon3, canon3d, Int.toNat_natCast, List.cons_append, List.nil_append, ba_size, ba_append, tail, hc, if_false]
          rw [chk_pos (by simp; omega), chk_pos (by simp; omega)]
          simp only [bindO_eq, pvAt_zero, pvAt_succ, getL_zero, getL_succ, dropL_one, int_val, bool_val, str_val, rows_sl, errB_err, cond_true, cond_false, chk_pos, beq00, beq10, zne00, zeq00, decide_true, decide_false, true_and, and_true, and_self, Bool.not_true, Bool.not_false, canon61, canon26, canon24, canon3, canon3d, Int.toNat_natCast, List.cons_append, List.nil_append, ← hbe]
      have hul : (up e (joined e.parts)).length ≤ (joined e.parts).length + 3 := by unfold up; split <;> simp
      have htl : (joined e.parts).length ≤ 40 * e.nodes := hlen
      by_cases h1 : e.cmp Od.one = 0
      · have h1' := (cmp_one e).1 h1
        simp only [ine_f h1, bindO_eq, pvAt_zero, pvAt_succ, getL_zero, getL_succ, dropL_one, int_val, bool_val, str_val, rows_sl, errB_err, cond_true, cond_false, chk_pos, beq00, beq10, zne00, zeq00, decide_true, decide_false, true_and, and_true, and_self, Bool.not_true, Bool.not_false, canon61, canon26, canon24, canon3, canon3d, Int.toNat_natCast, List.cons_append, List.nil_append, h51, beq10]
        refine (htail [119] (by simp) (by simp [up, h1']) _).trans ?_
        simp only [bindO_eq, pvAt_zero, pvAt_succ, getL_zero, getL_succ, dropL_one, int_val, bool_val, str_val, rows_sl, errB_err, cond_true, cond_false, chk_pos, beq00, beq10, zne00, zeq00, decide_true, decide_false, true_and, and_true, and_self, Bool.not_true, Bool.not_false, canon61, canon26, canon24, canon3, canon3d, Int.toNat_natCast, List.cons_append, List.nil_append]
        rw [chk_pos (app_ok16 (l := acc) (by omega))]
        simp only [bindO_eq, pvAt_zero, pvAt_succ, getL_zero, getL_succ, dropL_one, int_val, bool_val, str_val, rows_sl, errB_err, cond_true, cond_false, chk_pos, beq00, beq10, zne00, zeq00, decide_true, decide_false, true_and, and_true, and_self, Bool.not_true, Bool.not_false, canon61, canon26, canon24, canon3, canon3d, Int.toNat_natCast, List.cons_append, List.nil_append, h5]
        exact hfin _ (by simp [hz])
      · have h1' : e.isOne = false := by
          cases hq : e.isOne with
          | false => rfl
          | true => exact absurd ((cmp_one e).2 hq) h1
        simp only [ine_t h1, bindO_eq, pvAt_zero, pvAt_succ, getL_zero, getL_succ, dropL_one, int_val, bool_val, str_val, rows_sl, errB_err, cond_true, cond_false, chk_pos, beq00, beq10, zne00, zeq00, decide_true, decide_false, true_and, and_true, and_self, Bool.not_true, Bool.not_false, canon61, canon26, canon24, canon3, canon3d, Int.toNat_natCast, List.cons_append, List.nil_append, hrec, ba_size, ba_append, h51, beq10]
        rw [chk_pos (by simp; omega), chk_pos (by simp; omega), chk_pos (by simp; omega)]
        simp only [bindO_eq, pvAt_zero, pvAt_succ, getL_zero, getL_succ, dropL_one, int_val, bool_val, str_val, rows_sl, errB_err, cond_true, cond_false, chk_pos, beq00, beq10, zne00, zeq00, decide_true, decide_false, true_and, and_true, and_self, Bool.not_true, Bool.not_false, canon61, canon26, canon24, canon3, canon3d, Int.toNat_natCast, List.cons_append, List.nil_append, h51]
        have := htail (119 :: 94 :: 40 :: (e.text ++ [41])) (by simp; omega) (by simp [up, h1', Od.text])
        simp only [ba_size, ba_append] at this
        refine (this _).trans ?_
        simp only [bindO_eq, pvAt_zero, pvAt_succ, getL_zero, getL_succ, dropL_one, int_val, bool_val, str_val, rows_sl, errB_err, cond_true, cond_false, chk_pos, beq00, beq10, zne00, zeq00, decide_true, decide_false, true_and, and_true, and_self, Bool.not_true, Bool.not_false, canon61, canon26, canon24, canon3, canon3d, Int.toNat_natCast, List.cons_append, List.nil_append]
        rw [chk_pos (app_ok16 (l := acc) (by omega))]
        simp only [bindO_eq, pvAt_zero, pvAt_succ, getL_zero, getL_succ, dropL_one, int_val, bool_val, str_val, rows_sl, errB_err, cond_true, cond_false, chk_pos, beq00, beq10, zne00, zeq00, decide_true, decide_false, true_and, and_true, and_self, Bool.not_true, Bool.not_false, canon61, canon26, canon24, canon3, canon3d, Int.toNat_natCast, List.cons_append, List.nil_append, h5]
        exact hfin _ (by simp [hz])
theorem W24 {a : Od} (hp : a.pos) (hok : a.cok 1099511627776) (hn : a.nodes ≤ 1073741824) : W E 24 [.sl 2 a.enc, .val (.string (ba [119]))] = some [.val (.string (ba a.text))] := by
  have hlt := a.len_lt
  refine w24 (m := a.len + 1) _ _ ?_
  have := W24_rows a (a.len + 1) (a.len + 1) a.enc [] [] 0 hp hok hn (by simp; omega) rfl rfl (by rw [a.enc_len]; omega) (by omega)
  show bindO _ (k24 (W E)) = _
  rw [this]
  simp only [bindO_eq, pvAt_zero, pvAt_succ, getL_zero, getL_succ, dropL_one, int_val, bool_val, str_val, rows_sl, errB_err, cond_true, cond_false, chk_pos, beq00, beq10, zne00, zeq00, decide_true, decide_false, true_and, and_true, and_self, Bool.not_true, Bool.not_false, canon61, canon26, canon24, canon3, canon3d, Int.toNat_natCast, List.cons_append, List.nil_append]
  exact k24_eq hok hn
theorem W7 {a : Od} (hn : a.nodes ≤ 1073741824) : W E 7 [.sl 2 a.enc] = some [.val (.string (ba (if a.good then a.text else []))), .val (.bool a.good)] := by
  refine w7 (m := 0) _ ?_
  simp only [g7, W11 hn, bindO_eq, pvAt_zero, pvAt_succ, getL_zero, getL_succ, dropL_one, int_val, bool_val, str_val, rows_sl, errB_err, cond_true, cond_false, chk_pos, beq00, beq10, zne00, zeq00, decide_true, decide_false, true_and, and_true, and_self, Bool.not_true, Bool.not_false, canon61, canon26, canon24, canon3, canon3d, Int.toNat_natCast, List.cons_append, List.nil_append, mk_ba]
  cases hg : a.good with
  | false => rfl
  | true => simp only [bindO_eq, pvAt_zero, pvAt_succ, getL_zero, getL_succ, dropL_one, int_val, bool_val, str_val, rows_sl, errB_err, cond_true, cond_false, chk_pos, beq00, beq10, zne00, zeq00, decide_true, decide_false, true_and, and_true, and_self, Bool.not_true, Bool.not_false, canon61, canon26, canon24, canon3, canon3d, Int.toNat_natCast, List.cons_append, List.nil_append, W24 (good_pos hg) (cok_mono (by omega) (good_cok hg)) hn, if_true]
theorem W8 {a : Od} (hn : a.nodes ≤ 1073741824) : W E 8 [.sl 2 a.enc] = some [.val (.string (ba (if a.good then a.text else []))), .val (.bool a.good)] := by
  refine w8 (m := 0) _ ?_
  simp only [g8, W25 hn, bindO_eq, pvAt_zero, pvAt_succ, getL_zero, getL_succ, dropL_one, int_val, bool_val, str_val, rows_sl, errB_err, cond_true, cond_false, chk_pos, beq00, beq10, zne00, zeq00, decide_true, decide_false, true_and, and_true, and_self, Bool.not_true, Bool.not_false, canon61, canon26, canon24, canon3, canon3d, Int.toNat_natCast, List.cons_append, List.nil_append, mk_ba]
  cases hg : a.good with
  | false => rfl
  | true => simp only [bindO_eq, pvAt_zero, pvAt_succ, getL_zero, getL_succ, dropL_one, int_val, bool_val, str_val, rows_sl, errB_err, cond_true, cond_false, chk_pos, beq00, beq10, zne00, zeq00, decide_true, decide_false, true_and, and_true, and_self, Bool.not_true, Bool.not_false, canon61, canon26, canon24, canon3, canon3d, Int.toNat_natCast, List.cons_append, List.nil_append, W26 (good_pos hg) (cok_mono (by omega) (good_cok hg)) hn, if_true]
end Go.Vm
