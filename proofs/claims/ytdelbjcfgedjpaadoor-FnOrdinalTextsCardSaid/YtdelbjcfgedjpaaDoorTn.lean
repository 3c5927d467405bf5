import Derived.Test.YtdelbjcfgedjpaaDoorTm
/-! ### The first reader -/
namespace Go.Vm
open Go.Vm.D Od
set_option linter.unusedVariables false
set_option linter.unusedSimpArgs false
abbrev Rd := Od × Nat × Bool
abbrev Tr := Od × Int × Nat × Bool
def shutI (x : List UInt8) (z : Rd) : Rd := if z.2.2 then (z.1, z.2.1, true) else if nextIs x [41] z.2.1 then (z.1, z.2.1 + 1, false) else (z.1, z.2.1, true)
def starI (x : List UInt8) (y : Rd) : Tr :=
  if !y.2.2 && nextIs x [42] y.2.1 then (y.1, (atoiP (digs (x.drop (y.2.1 + 1)))).1, y.2.1 + 1 + (digs (x.drop (y.2.1 + 1))).length, (atoiP (digs (x.drop (y.2.1 + 1)))).2) else (y.1, 1, y.2.1, y.2.2)
def termI (rd : Nat → Rd) (x : List UInt8) (i : Nat) : Tr :=
  if nextIs x [119] i then starI x (if nextIs x [94, 40] (i + 1) then shutI x (rd (i + 1 + 2)) else (Od.one, i + 1, false))
  else (nil, (atoiP (digs (x.drop i))).1, i + (digs (x.drop i)).length, (atoiP (digs (x.drop i))).2)
def plusI (lp : Nat → Rd) (x : List UInt8) (t : Tr) : Rd :=
  if !t.2.2.2 && nextIs x [43] t.2.2.1 then (cons t.1 t.2.1 (lp (t.2.2.1 + 1)).1, (lp (t.2.2.1 + 1)).2.1, (lp (t.2.2.1 + 1)).2.2) else (cons t.1 t.2.1 nil, t.2.2.1, t.2.2.2)
def loopI (rd : Nat → Rd) (x : List UInt8) : Nat → Nat → Rd
  | 0, i => (nil, i, true)
  | n + 1, i => plusI (loopI rd x n) x (termI rd x i)
def readI (x : List UInt8) : Nat → Nat → Rd
  | 0, i => (nil, i, true)
  | k + 1, i => if nextIs x [48] i then (nil, i + 1, false) else loopI (readI x k) x (x.length + 1) i
/-- What a reader returns stands within the text, and is not greater than what it has gone over. -/
def InI (x : List UInt8) (i : Nat) (z : Rd) : Prop := i ≤ z.2.1 ∧ z.2.1 ≤ x.length ∧ z.1.nodes ≤ 5 * (z.2.1 - i) + 5
theorem next_le {x t : List UInt8} {i : Nat} (h : nextIs x t i = true) (hi : i ≤ x.length) : i + t.length ≤ x.length := nextIs_le h hi
theorem shutI_in {x : List UInt8} {i j : Nat} {z : Rd} (h : InI x j z) (hij : i ≤ j) : InI x i (shutI x z) := by
  obtain ⟨h1, h2, h3⟩ := h
  unfold shutI
  split
  · exact ⟨by simp only; omega, h2, by simp only; omega⟩
  · split
    · rename_i hn
      have := next_le hn h2
      simp only [List.length_cons, List.length_nil] at this
      exact ⟨by simp only; omega, by simp only; omega, by simp only; omega⟩
    · exact ⟨by simp only; omega, h2, by simp only; omega⟩
theorem digs_in (x : List UInt8) (i : Nat) (hi : i ≤ x.length) : i + (digs (x.drop i)).length ≤ x.length := by
  have := digs_le (x.drop i)
  rw [List.length_drop] at this
  omega
theorem starI_in {x : List UInt8} {i : Nat} {y : Rd} (h : i ≤ y.2.1) (h2 : y.2.1 ≤ x.length) (h3 : y.1.nodes ≤ 5 * (y.2.1 - i) + 3) : i ≤ (starI x y).2.2.1 ∧ (starI x y).2.2.1 ≤ x.length ∧ (starI x y).1.nodes ≤ 5 * ((starI x y).2.2.1 - i) + 3 := by
  unfold starI
  split
  · rename_i hn
    simp only [Bool.and_eq_true] at hn
    have := next_le hn.2 h2
    simp only [List.length_cons, List.length_nil] at this
    have := digs_in x (y.2.1 + 1) (by omega)
    exact ⟨by simp only; omega, by simp only; omega, by simp only; omega⟩
  · exact ⟨h, h2, h3⟩
theorem termI_in {rd : Nat → Rd} {x : List UInt8} (hrd : ∀ j, j ≤ x.length → InI x j (rd j)) {i : Nat} (hi : i ≤ x.length) : i ≤ (termI rd x i).2.2.1 ∧ (termI rd x i).2.2.1 ≤ x.length ∧ (termI rd x i).1.nodes ≤ 5 * ((termI rd x i).2.2.1 - i) + 3 := by
  unfold termI
  split
  · rename_i hn
    have h1 := next_le hn hi
    simp only [List.length_cons, List.length_nil] at h1
    split
    · rename_i hn2
      have h2 := next_le hn2 h1
      simp only [List.length_cons, List.length_nil] at h2
      have h3 := shutI_in (i := i + 1 + 2) (hrd (i + 1 + 2) (by omega)) (Nat.le_refl _)
      obtain ⟨q1, q2, q3⟩ := h3
      exact starI_in (by omega) q2 (by omega)
    · exact starI_in (by simp only; omega) h1 (by simp only [Od.one, nodes]; omega)
  · have := digs_in x i hi
    exact ⟨by simp only; omega, this, by simp only [nodes]; omega⟩
theorem loopI_in {rd : Nat → Rd} {x : List UInt8} (hrd : ∀ j, j ≤ x.length → InI x j (rd j)) : ∀ (n i : Nat), i ≤ x.length → InI x i (loopI rd x n i)
  | 0, i, hi => ⟨Nat.le_refl _, hi, by simp only [loopI, nodes]; omega⟩
  | n + 1, i, hi => by
    obtain ⟨h1, h2, h3⟩ := termI_in hrd hi
    simp only [loopI, plusI]
    split
    · rename_i hn
      simp only [Bool.and_eq_true] at hn
      have h4 := next_le hn.2 h2
      simp only [List.length_cons, List.length_nil] at h4
      obtain ⟨q1, q2, q3⟩ := loopI_in hrd n ((termI rd x i).2.2.1 + 1) (by omega)
      exact ⟨by simp only; omega, q2, by simp only [nodes]; omega⟩
    · exact ⟨h1, h2, by simp only [nodes]; omega⟩
theorem readI_in (x : List UInt8) : ∀ (k i : Nat), i ≤ x.length → InI x i (readI x k i)
  | 0, i, hi => ⟨Nat.le_refl _, hi, by simp only [readI, nodes]; omega⟩
  | k + 1, i, hi => by
    simp only [readI]
    split
    · rename_i hn
      have h4 := next_le hn hi
      simp only [List.length_cons, List.length_nil] at h4
      exact ⟨by simp only; omega, h4, by simp only [nodes]; omega⟩
    · exact loopI_in (readI_in x k) _ _ hi
theorem W41_one : W E 41 [.val (.int .i64 1)] = some [.sl 2 Od.one.enc] := W41 1
theorem t29 {x : List UInt8} (hx : x.length ≤ 1073741824) {d : Int} (hd : 0 ≤ d ∧ d ≤ 100) {rd : Nat → Rd} (hrd : ∀ j, j ≤ x.length → InI x j (rd j))
    (hw : ∀ j : Nat, j ≤ x.length → W E 29 [.val (.int .i64 (d + 1)), .val (.string (ba x)), .val (.int .i64 (j : Int)), .val (.bool false)] = some [.sl 2 (rd j).1.enc, .val (.string (ba x)), .val (.int .i64 ((rd j).2.1 : Int)), .val (.bool (rd j).2.2)]) :
    ∀ (n M m i : Nat) (acc : List (List PV)), i ≤ x.length → x.length < n + i → n < m → acc.length + n ≤ 2147483648 →
    iterN (lp29_6 (W E) M) m [.val (.int .i64 d), .val (.bool true), .sl 2 [], .sl 2 acc, .val (.string (ba x)), .val (.int .i64 (i : Int)), .val (.bool false)] =
      some (0, [.sl 2 [], .sl 2 (acc ++ (loopI rd x n i).1.enc), .val (.string (ba x)), .val (.int .i64 ((loopI rd x n i).2.1 : Int)), .val (.bool (loopI rd x n i).2.2)])
  | 0, M, m, i, acc, hi, hn, hm, ha => by omega
  | n + 1, M, m, i, acc, hi, hn, hm, ha => by
    obtain ⟨m, rfl⟩ : ∃ k, m = k + 1 := ⟨m - 1, by omega⟩
    have hx' : x.length ≤ 1099511627776 := by omega
    have w40 := fun (t : List UInt8) (j : Nat) (b : Bool) (hj : j ≤ x.length) (ht : t.length ≤ 2) => W40 t x j b hj hx' (by omega)
    have hd1 : IntKind.wrap .i64 (d + 1) = d + 1 := wrap_id (by omega) (by omega)
    -- behind a term: its row, a plus
    have fin : ∀ (t : Tr), i ≤ t.2.2.1 → t.2.2.1 ≤ x.length → chk ((acc.length + [[PV.sl 2 t.1.enc, PV.val (.int .i64 t.2.1)]].length) * 32 ≤ LIM ∧ acc.length + [[PV.sl 2 t.1.enc, PV.val (.int .i64 t.2.1)]].length ≤ LIM)
        (bindO (W E 40 [.val (.string (ba [43])), .val (.string (ba x)), .val (.int .i64 (t.2.2.1 : Int)), .val (.bool t.2.2.2)]) fun x6 =>
          iterN (lp29_6 (W E) M) m [.val (.int .i64 d), .val (.bool ((pvAt x6 0).bool)), .sl 2 [], .sl 2 (acc ++ [[PV.sl 2 t.1.enc, PV.val (.int .i64 t.2.1)]]), .val (.string ((pvAt x6 1).str)), .val (.int .i64 ((pvAt x6 2).int)), .val (.bool ((pvAt x6 3).bool))]) =
        some (0, [.sl 2 [], .sl 2 (acc ++ (plusI (loopI rd x n) x t).1.enc), .val (.string (ba x)), .val (.int .i64 ((plusI (loopI rd x n) x t).2.1 : Int)), .val (.bool (plusI (loopI rd x n) x t).2.2)]) := by
      intro t h1 h2
      rw [chk_pos (app_ok (l := acc) (by omega)), w40 [43] _ _ h2 (by simp)]
      simp only [bindO_eq, pvAt_zero, pvAt_succ, getL_zero, getL_succ, dropL_one, int_val, bool_val, str_val, rows_sl, errB_err, cond_true, cond_false, chk_pos, beq00, beq10, zne00, zeq00, decide_true, decide_false, true_and, and_true, and_self, Bool.not_true, Bool.not_false, canon61, canon26, canon24, canon3, canon3d, Int.toNat_natCast, List.cons_append, List.nil_append, plusI]
      cases hp : (!t.2.2.2 && nextIs x [43] t.2.2.1) with
      | true =>
        simp only [Bool.and_eq_true, Bool.not_eq_true'] at hp
        have h4 := next_le hp.2 h2
        simp only [List.length_cons, List.length_nil, Nat.zero_add] at h4
        simp only [hp.1, if_true, List.length_cons, List.length_nil, Nat.zero_add]
        rw [t29 hx hd hrd hw n M m (t.2.2.1 + 1) _ h4 (by omega) (by omega) (by simp; omega)]
        simp [Od.enc]
      | false =>
        obtain ⟨m, rfl⟩ : ∃ k, m = k + 1 := ⟨m - 1, by omega⟩
        rw [iterN_succ]
        simp only [Bool.false_eq_true, if_false, lp29_6, lq29_6, bindO_eq, pvAt_zero, pvAt_succ, getL_zero, getL_succ, dropL_one, int_val, bool_val, str_val, rows_sl, errB_err, cond_true, cond_false, chk_pos, beq00, beq10, zne00, zeq00, decide_true, decide_false, true_and, and_true, and_self, Bool.not_true, Bool.not_false, canon61, canon26, canon24, canon3, canon3d, Int.toNat_natCast, List.cons_append, List.nil_append]
        simp [Od.enc]
    rw [iterN_succ]
    simp only [loopI, termI]
    simp only [lp29_6, lq29_6, bindO_eq, pvAt_zero, pvAt_succ, getL_zero, getL_succ, dropL_one, int_val, bool_val, str_val, rows_sl, errB_err, cond_true, cond_false, chk_pos, beq00, beq10, zne00, zeq00, decide_true, decide_false, true_and, and_true, and_self, Bool.not_true, Bool.not_false, canon61, canon26, canon24, canon3, canon3d, Int.toNat_natCast, List.cons_append, List.nil_append, mk_ba]
    rw [w40 [119] i false hi (by simp)]
    simp only [bindO_eq, pvAt_zero, pvAt_succ, getL_zero, getL_succ, dropL_one, int_val, bool_val, str_val, rows_sl, errB_err, cond_true, cond_false, chk_pos, beq00, beq10, zne00, zeq00, decide_true, decide_false, true_and, and_true, and_self, Bool.not_true, Bool.not_false, canon61, canon26, canon24, canon3, canon3d, Int.toNat_natCast, List.cons_append, List.nil_append, Bool.true_and]
    cases h1 : nextIs x [119] i with
    | false =>
      simp only [bindO_eq, pvAt_zero, pvAt_succ, getL_zero, getL_succ, dropL_one, int_val, bool_val, str_val, rows_sl, errB_err, cond_true, cond_false, chk_pos, beq00, beq10, zne00, zeq00, decide_true, decide_false, true_and, and_true, and_self, Bool.not_true, Bool.not_false, canon61, canon26, canon24, canon3, canon3d, Int.toNat_natCast, List.cons_append, List.nil_append, Bool.false_eq_true, if_false]
      rw [W60 x i false hi hx']
      simp only [bindO_eq, pvAt_zero, pvAt_succ, getL_zero, getL_succ, dropL_one, int_val, bool_val, str_val, rows_sl, errB_err, cond_true, cond_false, chk_pos, beq00, beq10, zne00, zeq00, decide_true, decide_false, true_and, and_true, and_self, Bool.not_true, Bool.not_false, canon61, canon26, canon24, canon3, canon3d, Int.toNat_natCast, List.cons_append, List.nil_append, Bool.false_or]
      exact fin (nil, (atoiP (digs (x.drop i))).1, i + (digs (x.drop i)).length, (atoiP (digs (x.drop i))).2) (by simp only; omega) (digs_in x i hi)
    | true =>
      have q1 := next_le h1 hi
      simp only [List.length_cons, List.length_nil, Nat.zero_add] at q1
      simp only [bindO_eq, pvAt_zero, pvAt_succ, getL_zero, getL_succ, dropL_one, int_val, bool_val, str_val, rows_sl, errB_err, cond_true, cond_false, chk_pos, beq00, beq10, zne00, zeq00, decide_true, decide_false, true_and, and_true, and_self, Bool.not_true, Bool.not_false, canon61, canon26, canon24, canon3, canon3d, Int.toNat_natCast, List.cons_append, List.nil_append, if_true, List.length_cons, List.length_nil, Nat.zero_add]
      rw [W41_one]
      simp only [bindO_eq, pvAt_zero, pvAt_succ, getL_zero, getL_succ, dropL_one, int_val, bool_val, str_val, rows_sl, errB_err, cond_true, cond_false, chk_pos, beq00, beq10, zne00, zeq00, decide_true, decide_false, true_and, and_true, and_self, Bool.not_true, Bool.not_false, canon61, canon26, canon24, canon3, canon3d, Int.toNat_natCast, List.cons_append, List.nil_append]
      rw [w40 [94, 40] (i + 1) false q1 (by simp)]
      simp only [bindO_eq, pvAt_zero, pvAt_succ, getL_zero, getL_succ, dropL_one, int_val, bool_val, str_val, rows_sl, errB_err, cond_true, cond_false, chk_pos, beq00, beq10, zne00, zeq00, decide_true, decide_false, true_and, and_true, and_self, Bool.not_true, Bool.not_false, canon61, canon26, canon24, canon3, canon3d, Int.toNat_natCast, List.cons_append, List.nil_append, Bool.true_and]
      -- a star behind what stands
      have star : ∀ (y : Rd), i ≤ y.2.1 → y.2.1 ≤ x.length → bindO (W E 40 [.val (.string (ba [42])), .val (.string (ba x)), .val (.int .i64 (y.2.1 : Int)), .val (.bool y.2.2)]) (fun x23 =>
          bif (pvAt x23 0).bool then (bindO (W E 60 [.val (.string ((pvAt x23 1).str)), .val (.int .i64 ((pvAt x23 2).int)), .val (.bool ((pvAt x23 3).bool))]) fun x24 =>
            chk ((acc.length + [[PV.sl 2 y.1.enc, PV.val (.int .i64 (pvAt x24 0).int)]].length) * 32 ≤ LIM ∧ acc.length + [[PV.sl 2 y.1.enc, PV.val (.int .i64 (pvAt x24 0).int)]].length ≤ LIM)
            (bindO (W E 40 [.val (.string (ba [43])), .val (.string ((pvAt x24 1).str)), .val (.int .i64 ((pvAt x24 2).int)), .val (.bool ((pvAt x24 3).bool))]) fun x26 =>
              iterN (lp29_6 (W E) M) m [.val (.int .i64 d), .val (.bool ((pvAt x26 0).bool)), .sl 2 [], .sl 2 (acc ++ [[PV.sl 2 y.1.enc, PV.val (.int .i64 (pvAt x24 0).int)]]), .val (.string ((pvAt x26 1).str)), .val (.int .i64 ((pvAt x26 2).int)), .val (.bool ((pvAt x26 3).bool))]))
          else (chk ((acc.length + [[PV.sl 2 y.1.enc, PV.val (.int .i64 1)]].length) * 32 ≤ LIM ∧ acc.length + [[PV.sl 2 y.1.enc, PV.val (.int .i64 1)]].length ≤ LIM)
            (bindO (W E 40 [.val (.string (ba [43])), .val (.string ((pvAt x23 1).str)), .val (.int .i64 ((pvAt x23 2).int)), .val (.bool ((pvAt x23 3).bool))]) fun x28 =>
              iterN (lp29_6 (W E) M) m [.val (.int .i64 d), .val (.bool ((pvAt x28 0).bool)), .sl 2 [], .sl 2 (acc ++ [[PV.sl 2 y.1.enc, PV.val (.int .i64 1)]]), .val (.string ((pvAt x28 1).str)), .val (.int .i64 ((pvAt x28 2).int)), .val (.bool ((pvAt x28 3).bool))]))) =
          some (0, [.sl 2 [], .sl 2 (acc ++ (plusI (loopI rd x n) x (starI x y)).1.enc), .val (.string (ba x)), .val (.int .i64 ((plusI (loopI rd x n) x (starI x y)).2.1 : Int)), .val (.bool (plusI (loopI rd x n) x (starI x y)).2.2)]) := by
        intro y hy1 hy2
        rw [w40 [42] _ _ hy2 (by simp)]
        simp only [bindO_eq, pvAt_zero, pvAt_succ, getL_zero, getL_succ, dropL_one, int_val, bool_val, str_val, rows_sl, errB_err, cond_true, cond_false, chk_pos, beq00, beq10, zne00, zeq00, decide_true, decide_false, true_and, and_true, and_self, Bool.not_true, Bool.not_false, canon61, canon26, canon24, canon3, canon3d, Int.toNat_natCast, List.cons_append, List.nil_append, starI]
        cases hp : (!y.2.2 && nextIs x [42] y.2.1) with
        | true =>
          simp only [Bool.and_eq_true, Bool.not_eq_true'] at hp
          have h4 := next_le hp.2 hy2
          simp only [List.length_cons, List.length_nil, Nat.zero_add] at h4
          simp only [bindO_eq, pvAt_zero, pvAt_succ, getL_zero, getL_succ, dropL_one, int_val, bool_val, str_val, rows_sl, errB_err, cond_true, cond_false, chk_pos, beq00, beq10, zne00, zeq00, decide_true, decide_false, true_and, and_true, and_self, Bool.not_true, Bool.not_false, canon61, canon26, canon24, canon3, canon3d, Int.toNat_natCast, List.cons_append, List.nil_append, if_true, List.length_cons, List.length_nil, Nat.zero_add]
          rw [W60 x (y.2.1 + 1) _ h4 hx']
          simp only [bindO_eq, pvAt_zero, pvAt_succ, getL_zero, getL_succ, dropL_one, int_val, bool_val, str_val, rows_sl, errB_err, cond_true, cond_false, chk_pos, beq00, beq10, zne00, zeq00, decide_true, decide_false, true_and, and_true, and_self, Bool.not_true, Bool.not_false, canon61, canon26, canon24, canon3, canon3d, Int.toNat_natCast, List.cons_append, List.nil_append, hp.1, Bool.false_or]
          exact fin (y.1, (atoiP (digs (x.drop (y.2.1 + 1)))).1, y.2.1 + 1 + (digs (x.drop (y.2.1 + 1))).length, (atoiP (digs (x.drop (y.2.1 + 1)))).2) (by simp only; omega) (digs_in x _ h4)
        | false =>
          simp only [bindO_eq, pvAt_zero, pvAt_succ, getL_zero, getL_succ, dropL_one, int_val, bool_val, str_val, rows_sl, errB_err, cond_true, cond_false, chk_pos, beq00, beq10, zne00, zeq00, decide_true, decide_false, true_and, and_true, and_self, Bool.not_true, Bool.not_false, canon61, canon26, canon24, canon3, canon3d, Int.toNat_natCast, List.cons_append, List.nil_append, Bool.false_eq_true, if_false]
          exact fin (y.1, 1, y.2.1, y.2.2) hy1 hy2
      cases h2 : nextIs x [94, 40] (i + 1) with
      | false =>
        simp only [bindO_eq, pvAt_zero, pvAt_succ, getL_zero, getL_succ, dropL_one, int_val, bool_val, str_val, rows_sl, errB_err, cond_true, cond_false, chk_pos, beq00, beq10, zne00, zeq00, decide_true, decide_false, true_and, and_true, and_self, Bool.not_true, Bool.not_false, canon61, canon26, canon24, canon3, canon3d, Int.toNat_natCast, List.cons_append, List.nil_append, Bool.false_eq_true, if_false]
        exact star (Od.one, i + 1, false) (by simp only; omega) q1
      | true =>
        have q2 := next_le h2 q1
        simp only [List.length_cons, List.length_nil, Nat.zero_add] at q2
        simp only [bindO_eq, pvAt_zero, pvAt_succ, getL_zero, getL_succ, dropL_one, int_val, bool_val, str_val, rows_sl, errB_err, cond_true, cond_false, chk_pos, beq00, beq10, zne00, zeq00, decide_true, decide_false, true_and, and_true, and_self, Bool.not_true, Bool.not_false, canon61, canon26, canon24, canon3, canon3d, Int.toNat_natCast, List.cons_append, List.nil_append, if_true, List.length_cons, List.length_nil, Nat.zero_add, hd1]
        rw [show i + 1 + (1 + 1) = i + 1 + 2 by omega, hw (i + 1 + 2) (by omega)]
        obtain ⟨r1, r2, r3⟩ := hrd (i + 1 + 2) (by omega)
        generalize rd (i + 1 + 2) = z at r1 r2 r3 ⊢
        obtain ⟨e, j, b⟩ := z
        simp only at r1 r2 r3
        cases b with
        | true =>
          simp only [bindO_eq, pvAt_zero, pvAt_succ, getL_zero, getL_succ, dropL_one, int_val, bool_val, str_val, rows_sl, errB_err, cond_true, cond_false, chk_pos, beq00, beq10, zne00, zeq00, decide_true, decide_false, true_and, and_true, and_self, Bool.not_true, Bool.not_false, canon61, canon26, canon24, canon3, canon3d, Int.toNat_natCast, List.cons_append, List.nil_append, shutI, if_true]
          exact star (e, j, true) (by simp only; omega) r2
        | false =>
          simp only [bindO_eq, pvAt_zero, pvAt_succ, getL_zero, getL_succ, dropL_one, int_val, bool_val, str_val, rows_sl, errB_err, cond_true, cond_false, chk_pos, beq00, beq10, zne00, zeq00, decide_true, decide_false, true_and, and_true, and_self, Bool.not_true, Bool.not_false, canon61, canon26, canon24, canon3, canon3d, Int.toNat_natCast, List.cons_append, List.nil_append, shutI, Bool.false_eq_true, if_false]
          rw [w40 [41] j false r2 (by simp)]
          simp only [bindO_eq, pvAt_zero, pvAt_succ, getL_zero, getL_succ, dropL_one, int_val, bool_val, str_val, rows_sl, errB_err, cond_true, cond_false, chk_pos, beq00, beq10, zne00, zeq00, decide_true, decide_false, true_and, and_true, and_self, Bool.not_true, Bool.not_false, canon61, canon26, canon24, canon3, canon3d, Int.toNat_natCast, List.cons_append, List.nil_append, Bool.true_and]
          cases h3 : nextIs x [41] j with
          | true =>
            have q3 := next_le h3 r2
            simp only [List.length_cons, List.length_nil, Nat.zero_add] at q3
            simp only [bindO_eq, pvAt_zero, pvAt_succ, getL_zero, getL_succ, dropL_one, int_val, bool_val, str_val, rows_sl, errB_err, cond_true, cond_false, chk_pos, beq00, beq10, zne00, zeq00, decide_true, decide_false, true_and, and_true, and_self, Bool.not_true, Bool.not_false, canon61, canon26, canon24, canon3, canon3d, Int.toNat_natCast, List.cons_append, List.nil_append, if_true, List.length_cons, List.length_nil, Nat.zero_add]
            exact star (e, j + 1, false) (by simp only; omega) q3
          | false =>
            simp only [bindO_eq, pvAt_zero, pvAt_succ, getL_zero, getL_succ, dropL_one, int_val, bool_val, str_val, rows_sl, errB_err, cond_true, cond_false, chk_pos, beq00, beq10, zne00, zeq00, decide_true, decide_false, true_and, and_true, and_self, Bool.not_true, Bool.not_false, canon61, canon26, canon24, canon3, canon3d, Int.toNat_natCast, List.cons_append, List.nil_append, Bool.false_eq_true, if_false]
            exact star (e, j, true) (by simp only; omega) r2
theorem W29 {x : List UInt8} (hx : x.length ≤ 1073741824) : ∀ (k : Nat) (j : Nat), k ≤ 7 → j ≤ x.length →
    W E 29 [.val (.int .i64 (7 - (k : Int))), .val (.string (ba x)), .val (.int .i64 (j : Int)), .val (.bool false)] = some [.sl 2 (readI x k j).1.enc, .val (.string (ba x)), .val (.int .i64 ((readI x k j).2.1 : Int)), .val (.bool (readI x k j).2.2)]
  | 0, j, hk, hj => by
    refine w29 (m := 1) _ _ _ _ ?_
    simp only [g29, bindO_eq, pvAt_zero, pvAt_succ, getL_zero, getL_succ, dropL_one, int_val, bool_val, str_val, rows_sl, errB_err, cond_true, cond_false, chk_pos, beq00, beq10, zne00, zeq00, decide_true, decide_false, true_and, and_true, and_self, Bool.not_true, Bool.not_false, canon61, canon26, canon24, canon3, canon3d, Int.toNat_natCast, List.cons_append, List.nil_append, show (7 - ((0 : Nat) : Int)) > 6 by omega, mk_ba]
    rw [W40 [48] x j true hj (by omega) (by simp)]
    simp only [bindO_eq, pvAt_zero, pvAt_succ, getL_zero, getL_succ, dropL_one, int_val, bool_val, str_val, rows_sl, errB_err, cond_true, cond_false, chk_pos, beq00, beq10, zne00, zeq00, decide_true, decide_false, true_and, and_true, and_self, Bool.not_true, Bool.not_false, canon61, canon26, canon24, canon3, canon3d, Int.toNat_natCast, List.cons_append, List.nil_append, Bool.false_and, Bool.false_eq_true, if_false]
    rw [iterN_succ]
    simp only [lp29_6, lq29_6, bindO_eq, pvAt_zero, pvAt_succ, getL_zero, getL_succ, dropL_one, int_val, bool_val, str_val, rows_sl, errB_err, cond_true, cond_false, chk_pos, beq00, beq10, zne00, zeq00, decide_true, decide_false, true_and, and_true, and_self, Bool.not_true, Bool.not_false, canon61, canon26, canon24, canon3, canon3d, Int.toNat_natCast, List.cons_append, List.nil_append, readI, Od.enc]
  | k + 1, j, hk, hj => by
    have e1 : 7 - ((k + 1 : Nat) : Int) = 7 - (k : Int) - 1 := by omega
    have hin := readI_in x (k + 1) j hj
    refine w29 (m := x.length + 2) _ _ _ _ ?_
    simp only [g29, bindO_eq, pvAt_zero, pvAt_succ, getL_zero, getL_succ, dropL_one, int_val, bool_val, str_val, rows_sl, errB_err, cond_true, cond_false, chk_pos, beq00, beq10, zne00, zeq00, decide_true, decide_false, true_and, and_true, and_self, Bool.not_true, Bool.not_false, canon61, canon26, canon24, canon3, canon3d, Int.toNat_natCast, List.cons_append, List.nil_append, show ¬ ((7 - ((k + 1 : Nat) : Int)) > 6) by omega, mk_ba]
    rw [W40 [48] x j false hj (by omega) (by simp)]
    simp only [bindO_eq, pvAt_zero, pvAt_succ, getL_zero, getL_succ, dropL_one, int_val, bool_val, str_val, rows_sl, errB_err, cond_true, cond_false, chk_pos, beq00, beq10, zne00, zeq00, decide_true, decide_false, true_and, and_true, and_self, Bool.not_true, Bool.not_false, canon61, canon26, canon24, canon3, canon3d, Int.toNat_natCast, List.cons_append, List.nil_append, Bool.true_and, readI]
    cases h1 : nextIs x [48] j with
    | true => simp only [bindO_eq, pvAt_zero, pvAt_succ, getL_zero, getL_succ, dropL_one, int_val, bool_val, str_val, rows_sl, errB_err, cond_true, cond_false, chk_pos, beq00, beq10, zne00, zeq00, decide_true, decide_false, true_and, and_true, and_self, Bool.not_true, Bool.not_false, canon61, canon26, canon24, canon3, canon3d, Int.toNat_natCast, List.cons_append, List.nil_append, if_true, Od.enc, List.length_cons, List.length_nil, Nat.zero_add]
    | false =>
      simp only [bindO_eq, pvAt_zero, pvAt_succ, getL_zero, getL_succ, dropL_one, int_val, bool_val, str_val, rows_sl, errB_err, cond_true, cond_false, chk_pos, beq00, beq10, zne00, zeq00, decide_true, decide_false, true_and, and_true, and_self, Bool.not_true, Bool.not_false, canon61, canon26, canon24, canon3, canon3d, Int.toNat_natCast, List.cons_append, List.nil_append, Bool.false_eq_true, if_false]
      rw [t29 hx (d := 7 - ((k + 1 : Nat) : Int)) (by omega) (rd := readI x k) (fun j hj => readI_in x k j hj) (fun j hj => by
        have := W29 hx k j (by omega) hj
        rw [show 7 - ((k + 1 : Nat) : Int) + 1 = 7 - (k : Int) by omega]
        exact this) (x.length + 1) _ (x.length + 2) j [] hj (by omega) (by omega) (by simp; omega)]
      simp only [bindO_eq, pvAt_zero, pvAt_succ, getL_zero, getL_succ, dropL_one, int_val, bool_val, str_val, rows_sl, errB_err, cond_true, cond_false, chk_pos, beq00, beq10, zne00, zeq00, decide_true, decide_false, true_and, and_true, and_self, Bool.not_true, Bool.not_false, canon61, canon26, canon24, canon3, canon3d, Int.toNat_natCast, List.cons_append, List.nil_append]
end Go.Vm
