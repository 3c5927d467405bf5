import Derived.Test.YtdelbjcfgedjpaaDoorTn
/-! ### The second reader -/
namespace Go.Vm
open Go.Vm.D Od
set_option linter.unusedVariables false
set_option linter.unusedSimpArgs false
def numS (x : List UInt8) (i : Nat) : Int := sread (digs (x.drop i))
def numE (x : List UInt8) (i : Nat) : Nat := i + (digs (x.drop i)).length
def starS (x : List UInt8) (y : Rd) : Tr :=
  if nextIs x [42] y.2.1 then (y.1, numS x (y.2.1 + 1), numE x (y.2.1 + 1), y.2.2 || decide (numS x (y.2.1 + 1) < 0)) else (y.1, 1, y.2.1, y.2.2)
def openS (rd : Nat → Rd) (dz : Bool) (x : List UInt8) (i : Nat) : Rd :=
  if nextIs x [40] i then (if dz then (nil, i + 1, true) else rd (i + 1)) else (nil, i, true)
def termS (rd : Nat → Rd) (dz : Bool) (x : List UInt8) (i : Nat) : Tr :=
  if nextIs x [119] i then starS x (if nextIs x [94] (i + 1) then shutI x (openS rd dz x (i + 1 + 1)) else (Od.one, i + 1, false))
  else (nil, numS x i, numE x i, decide (numS x i < 0))
def putS (t : Tr) (r : Od) : Od := if t.2.1 > 0 then cons t.1 t.2.1 r else r
def plusS (lp : Nat → Rd) (x : List UInt8) (t : Tr) : Rd :=
  if nextIs x [43] t.2.2.1 then (if t.2.2.2 then (putS t nil, t.2.2.1 + 1, true) else (putS t (lp (t.2.2.1 + 1)).1, (lp (t.2.2.1 + 1)).2.1, (lp (t.2.2.1 + 1)).2.2)) else (putS t nil, t.2.2.1, t.2.2.2)
def loopS (rd : Nat → Rd) (dz : Bool) (x : List UInt8) : Nat → Nat → Rd
  | 0, i => (nil, i, true)
  | n + 1, i => plusS (loopS rd dz x n) x (termS rd dz x i)
def readS (x : List UInt8) : Nat → Nat → Rd
  | 0, i => (nil, i, true)
  | k + 1, i => loopS (readS x k) (decide (k = 0)) x (x.length + 1) i
theorem numE_in (x : List UInt8) (i : Nat) (hi : i ≤ x.length) : i ≤ numE x i ∧ numE x i ≤ x.length := by
  have := digs_in x i hi
  unfold numE
  omega
theorem openS_in {rd : Nat → Rd} {dz : Bool} {x : List UInt8} (hrd : ∀ j, j ≤ x.length → InI x j (rd j)) {i : Nat} (hi : i ≤ x.length) : InI x i (openS rd dz x i) := by
  unfold openS
  split
  · rename_i hn
    have h1 := next_le hn hi
    simp only [List.length_cons, List.length_nil] at h1
    split
    · exact ⟨by simp only; omega, h1, by simp only [nodes]; omega⟩
    · obtain ⟨a, b, c⟩ := hrd (i + 1) h1
      exact ⟨by omega, b, by omega⟩
  · exact ⟨Nat.le_refl _, hi, by simp only [nodes]; omega⟩
theorem starS_in {x : List UInt8} {i : Nat} {y : Rd} (h : i ≤ y.2.1) (h2 : y.2.1 ≤ x.length) (h3 : y.1.nodes ≤ 5 * (y.2.1 - i) + 3) : i ≤ (starS x y).2.2.1 ∧ (starS x y).2.2.1 ≤ x.length ∧ (starS x y).1.nodes ≤ 5 * ((starS x y).2.2.1 - i) + 3 := by
  unfold starS
  split
  · rename_i hn
    have := next_le hn h2
    simp only [List.length_cons, List.length_nil] at this
    have := numE_in x (y.2.1 + 1) (by omega)
    exact ⟨by simp only; omega, by simp only; omega, by simp only; omega⟩
  · exact ⟨h, h2, h3⟩
theorem termS_in {rd : Nat → Rd} {dz : Bool} {x : List UInt8} (hrd : ∀ j, j ≤ x.length → InI x j (rd j)) {i : Nat} (hi : i ≤ x.length) : i ≤ (termS rd dz x i).2.2.1 ∧ (termS rd dz x i).2.2.1 ≤ x.length ∧ (termS rd dz x i).1.nodes ≤ 5 * ((termS rd dz x i).2.2.1 - i) + 3 := by
  unfold termS
  split
  · rename_i hn
    have h1 := next_le hn hi
    simp only [List.length_cons, List.length_nil] at h1
    split
    · rename_i hn2
      have h2 := next_le hn2 h1
      simp only [List.length_cons, List.length_nil] at h2
      have h3 := shutI_in (i := i + 1 + 1) (openS_in (dz := dz) hrd (i := i + 1 + 1) h2) (Nat.le_refl _)
      obtain ⟨q1, q2, q3⟩ := h3
      exact starS_in (by omega) q2 (by omega)
    · exact starS_in (by simp only; omega) h1 (by simp only [Od.one, nodes]; omega)
  · have := numE_in x i hi
    exact ⟨by simp only; omega, by simp only; omega, by simp only [nodes]; omega⟩
theorem putS_nodes (t : Tr) (r : Od) : (putS t r).nodes ≤ 1 + t.1.nodes + r.nodes := by
  unfold putS
  split
  · simp only [nodes]; omega
  · omega
theorem loopS_in {rd : Nat → Rd} {dz : Bool} {x : List UInt8} (hrd : ∀ j, j ≤ x.length → InI x j (rd j)) : ∀ (n i : Nat), i ≤ x.length → InI x i (loopS rd dz x n i)
  | 0, i, hi => ⟨Nat.le_refl _, hi, by simp only [loopS, nodes]; omega⟩
  | n + 1, i, hi => by
    obtain ⟨h1, h2, h3⟩ := termS_in (dz := dz) hrd hi
    have hp := putS_nodes (termS rd dz x i) nil
    simp only [nodes] at hp
    simp only [loopS, plusS]
    split
    · rename_i hn
      have h4 := next_le hn h2
      simp only [List.length_cons, List.length_nil] at h4
      split
      · exact ⟨by simp only; omega, h4, by simp only; omega⟩
      · obtain ⟨q1, q2, q3⟩ := loopS_in (dz := dz) hrd n ((termS rd dz x i).2.2.1 + 1) (by omega)
        have hp2 := putS_nodes (termS rd dz x i) (loopS rd dz x n ((termS rd dz x i).2.2.1 + 1)).1
        exact ⟨by simp only; omega, q2, by simp only; omega⟩
    · exact ⟨h1, h2, by simp only; omega⟩
theorem readS_in (x : List UInt8) : ∀ (k i : Nat), i ≤ x.length → InI x i (readS x k i)
  | 0, i, hi => ⟨Nat.le_refl _, hi, by simp only [readS, nodes]; omega⟩
  | k + 1, i, hi => loopS_in (readS_in x k) _ _ hi
theorem W61_bad (x : List UInt8) (d : Int) (i : Nat) : W E 61 [.val (.int .i64 d), .val (.string (ba x)), .val (.int .i64 (i : Int)), .val (.bool true)] = some [.sl 2 [], .val (.string (ba x)), .val (.int .i64 (i : Int)), .val (.bool true)] := by
  refine w61 (m := 1) _ _ _ _ ?_
  simp only [g61]
  rw [iterN_succ]
  simp only [lp61_2, lq61_2, bindO_eq, pvAt_zero, pvAt_succ, getL_zero, getL_succ, dropL_one, int_val, bool_val, str_val, rows_sl, errB_err, cond_true, cond_false, chk_pos, beq00, beq10, zne00, zeq00, decide_true, decide_false, true_and, and_true, and_self, Bool.not_true, Bool.not_false, canon61, canon26, canon24, canon3, canon3d, Int.toNat_natCast, List.cons_append, List.nil_append]
theorem W48_one : W E 48 [.val (.int .i64 1)] = some [.sl 2 Od.one.enc] := W48 1
theorem W80 {x : List UInt8} (hx : x.length ≤ 1073741824) {d : Int} (hd : -100 ≤ d ∧ d ≤ 100) {rd : Nat → Rd} (hrd : ∀ j, j ≤ x.length → InI x j (rd j))
    (hw : d ≠ 0 → ∀ j : Nat, j ≤ x.length → W E 61 [.val (.int .i64 (d - 1)), .val (.string (ba x)), .val (.int .i64 (j : Int)), .val (.bool false)] = some [.sl 2 (rd j).1.enc, .val (.string (ba x)), .val (.int .i64 ((rd j).2.1 : Int)), .val (.bool (rd j).2.2)]) (i : Nat) (hi : i ≤ x.length) :
    W E 80 [.val (.int .i64 d), .val (.string (ba x)), .val (.int .i64 (i : Int)), .val (.bool false)] = some [.sl 2 (termS rd (d == 0) x i).1.enc, .val (.int .i64 (termS rd (d == 0) x i).2.1), .val (.string (ba x)), .val (.int .i64 ((termS rd (d == 0) x i).2.2.1 : Int)), .val (.bool (termS rd (d == 0) x i).2.2.2)] := by
  have hx' : x.length ≤ 1099511627776 := by omega
  have hd1 : IntKind.wrap .i64 (d - 1) = d - 1 := wrap_id (by omega) (by omega)
  have w62w := fun (j : Nat) (b : Bool) (hj : j ≤ x.length) => W62 119 x j b hj hx'
  have w62u := fun (j : Nat) (b : Bool) (hj : j ≤ x.length) => W62 94 x j b hj hx'
  have w62o := fun (j : Nat) (b : Bool) (hj : j ≤ x.length) => W62 40 x j b hj hx'
  have w62c := fun (j : Nat) (b : Bool) (hj : j ≤ x.length) => W62 41 x j b hj hx'
  have w62s := fun (j : Nat) (b : Bool) (hj : j ≤ x.length) => W62 42 x j b hj hx'
  simp only [show ((119 : UInt8).toNat : Int) = 119 from rfl] at w62w
  simp only [show ((94 : UInt8).toNat : Int) = 94 from rfl] at w62u
  simp only [show ((40 : UInt8).toNat : Int) = 40 from rfl] at w62o
  simp only [show ((41 : UInt8).toNat : Int) = 41 from rfl] at w62c
  simp only [show ((42 : UInt8).toNat : Int) = 42 from rfl] at w62s
  refine w80 (m := 0) _ _ _ _ ?_
  simp only [g80, termS]
  rw [w62w i false hi]
  simp only [bindO_eq, pvAt_zero, pvAt_succ, getL_zero, getL_succ, dropL_one, int_val, bool_val, str_val, rows_sl, errB_err, cond_true, cond_false, chk_pos, beq00, beq10, zne00, zeq00, decide_true, decide_false, true_and, and_true, and_self, Bool.not_true, Bool.not_false, canon61, canon26, canon24, canon3, canon3d, Int.toNat_natCast, List.cons_append, List.nil_append]
  cases h1 : nextIs x [119] i with
  | false =>
    simp only [bindO_eq, pvAt_zero, pvAt_succ, getL_zero, getL_succ, dropL_one, int_val, bool_val, str_val, rows_sl, errB_err, cond_true, cond_false, chk_pos, beq00, beq10, zne00, zeq00, decide_true, decide_false, true_and, and_true, and_self, Bool.not_true, Bool.not_false, canon61, canon26, canon24, canon3, canon3d, Int.toNat_natCast, List.cons_append, List.nil_append, Bool.false_eq_true, if_false]
    rw [W91 x i false hi hx']
    simp only [bindO_eq, pvAt_zero, pvAt_succ, getL_zero, getL_succ, dropL_one, int_val, bool_val, str_val, rows_sl, errB_err, cond_true, cond_false, chk_pos, beq00, beq10, zne00, zeq00, decide_true, decide_false, true_and, and_true, and_self, Bool.not_true, Bool.not_false, canon61, canon26, canon24, canon3, canon3d, Int.toNat_natCast, List.cons_append, List.nil_append, Bool.false_or, numS, numE, Od.enc]
    rfl
  | true =>
    have q1 := next_le h1 hi
    simp only [List.length_cons, List.length_nil, Nat.zero_add] at q1
    simp only [bindO_eq, pvAt_zero, pvAt_succ, getL_zero, getL_succ, dropL_one, int_val, bool_val, str_val, rows_sl, errB_err, cond_true, cond_false, chk_pos, beq00, beq10, zne00, zeq00, decide_true, decide_false, true_and, and_true, and_self, Bool.not_true, Bool.not_false, canon61, canon26, canon24, canon3, canon3d, Int.toNat_natCast, List.cons_append, List.nil_append, if_true, W48_one]
    have star : ∀ (y : Rd), y.2.1 ≤ x.length → bindO (W E 62 [.val (.int .u8 42), .val (.string (ba x)), .val (.int .i64 (y.2.1 : Int)), .val (.bool y.2.2)]) (fun x10 =>
        bif (pvAt x10 0).bool then (bindO (W E 91 [.val (.string ((pvAt x10 1).str)), .val (.int .i64 ((pvAt x10 2).int)), .val (.bool ((pvAt x10 3).bool))]) fun x11 =>
          some [PV.sl 2 y.1.enc, PV.val (.int .i64 ((pvAt x11 0).int)), PV.val (.string ((pvAt x11 1).str)), PV.val (.int .i64 ((pvAt x11 2).int)), PV.val (.bool ((pvAt x11 3).bool))]) else (some [PV.sl 2 y.1.enc, PV.val (.int .i64 1), PV.val (.string ((pvAt x10 1).str)), PV.val (.int .i64 ((pvAt x10 2).int)), PV.val (.bool ((pvAt x10 3).bool))])) =
        some [.sl 2 (starS x y).1.enc, .val (.int .i64 (starS x y).2.1), .val (.string (ba x)), .val (.int .i64 ((starS x y).2.2.1 : Int)), .val (.bool (starS x y).2.2.2)] := by
      intro y hy
      rw [w62s _ _ hy]
      simp only [bindO_eq, pvAt_zero, pvAt_succ, getL_zero, getL_succ, dropL_one, int_val, bool_val, str_val, rows_sl, errB_err, cond_true, cond_false, chk_pos, beq00, beq10, zne00, zeq00, decide_true, decide_false, true_and, and_true, and_self, Bool.not_true, Bool.not_false, canon61, canon26, canon24, canon3, canon3d, Int.toNat_natCast, List.cons_append, List.nil_append, starS]
      cases hp : nextIs x [42] y.2.1 with
      | true =>
        have h4 := next_le hp hy
        simp only [List.length_cons, List.length_nil, Nat.zero_add] at h4
        simp only [bindO_eq, pvAt_zero, pvAt_succ, getL_zero, getL_succ, dropL_one, int_val, bool_val, str_val, rows_sl, errB_err, cond_true, cond_false, chk_pos, beq00, beq10, zne00, zeq00, decide_true, decide_false, true_and, and_true, and_self, Bool.not_true, Bool.not_false, canon61, canon26, canon24, canon3, canon3d, Int.toNat_natCast, List.cons_append, List.nil_append, if_true]
        rw [W91 x (y.2.1 + 1) _ h4 hx']
        simp only [bindO_eq, pvAt_zero, pvAt_succ, getL_zero, getL_succ, dropL_one, int_val, bool_val, str_val, rows_sl, errB_err, cond_true, cond_false, chk_pos, beq00, beq10, zne00, zeq00, decide_true, decide_false, true_and, and_true, and_self, Bool.not_true, Bool.not_false, canon61, canon26, canon24, canon3, canon3d, Int.toNat_natCast, List.cons_append, List.nil_append, numS, numE]
        rfl
      | false => simp only [bindO_eq, pvAt_zero, pvAt_succ, getL_zero, getL_succ, dropL_one, int_val, bool_val, str_val, rows_sl, errB_err, cond_true, cond_false, chk_pos, beq00, beq10, zne00, zeq00, decide_true, decide_false, true_and, and_true, and_self, Bool.not_true, Bool.not_false, canon61, canon26, canon24, canon3, canon3d, Int.toNat_natCast, List.cons_append, List.nil_append, Bool.false_eq_true, if_false]
    rw [w62u (i + 1) false q1]
    simp only [bindO_eq, pvAt_zero, pvAt_succ, getL_zero, getL_succ, dropL_one, int_val, bool_val, str_val, rows_sl, errB_err, cond_true, cond_false, chk_pos, beq00, beq10, zne00, zeq00, decide_true, decide_false, true_and, and_true, and_self, Bool.not_true, Bool.not_false, canon61, canon26, canon24, canon3, canon3d, Int.toNat_natCast, List.cons_append, List.nil_append]
    cases h2 : nextIs x [94] (i + 1) with
    | false =>
      simp only [bindO_eq, pvAt_zero, pvAt_succ, getL_zero, getL_succ, dropL_one, int_val, bool_val, str_val, rows_sl, errB_err, cond_true, cond_false, chk_pos, beq00, beq10, zne00, zeq00, decide_true, decide_false, true_and, and_true, and_self, Bool.not_true, Bool.not_false, canon61, canon26, canon24, canon3, canon3d, Int.toNat_natCast, List.cons_append, List.nil_append, Bool.false_eq_true, if_false]
      exact star (Od.one, i + 1, false) q1
    | true =>
      have q2 := next_le h2 q1
      simp only [List.length_cons, List.length_nil, Nat.zero_add] at q2
      simp only [bindO_eq, pvAt_zero, pvAt_succ, getL_zero, getL_succ, dropL_one, int_val, bool_val, str_val, rows_sl, errB_err, cond_true, cond_false, chk_pos, beq00, beq10, zne00, zeq00, decide_true, decide_false, true_and, and_true, and_self, Bool.not_true, Bool.not_false, canon61, canon26, canon24, canon3, canon3d, Int.toNat_natCast, List.cons_append, List.nil_append, if_true, openS]
      rw [w62o (i + 1 + 1) false q2]
      simp only [bindO_eq, pvAt_zero, pvAt_succ, getL_zero, getL_succ, dropL_one, int_val, bool_val, str_val, rows_sl, errB_err, cond_true, cond_false, chk_pos, beq00, beq10, zne00, zeq00, decide_true, decide_false, true_and, and_true, and_self, Bool.not_true, Bool.not_false, canon61, canon26, canon24, canon3, canon3d, Int.toNat_natCast, List.cons_append, List.nil_append]
      cases h3 : nextIs x [40] (i + 1 + 1) with
      | false =>
        simp only [bindO_eq, pvAt_zero, pvAt_succ, getL_zero, getL_succ, dropL_one, int_val, bool_val, str_val, rows_sl, errB_err, cond_true, cond_false, chk_pos, beq00, beq10, zne00, zeq00, decide_true, decide_false, true_and, and_true, and_self, Bool.not_true, Bool.not_false, canon61, canon26, canon24, canon3, canon3d, Int.toNat_natCast, List.cons_append, List.nil_append, Bool.false_eq_true, if_false, hd1, W61_bad, shutI, if_true]
        exact star (nil, i + 1 + 1, true) q2
      | true =>
        have q3 := next_le h3 q2
        simp only [List.length_cons, List.length_nil, Nat.zero_add] at q3
        simp only [bindO_eq, pvAt_zero, pvAt_succ, getL_zero, getL_succ, dropL_one, int_val, bool_val, str_val, rows_sl, errB_err, cond_true, cond_false, chk_pos, beq00, beq10, zne00, zeq00, decide_true, decide_false, true_and, and_true, and_self, Bool.not_true, Bool.not_false, canon61, canon26, canon24, canon3, canon3d, Int.toNat_natCast, List.cons_append, List.nil_append, if_true, hd1]
        by_cases hz : d = 0
        · simp only [ieq_t hz, W61_bad, bindO_eq, pvAt_zero, pvAt_succ, getL_zero, getL_succ, dropL_one, int_val, bool_val, str_val, rows_sl, errB_err, cond_true, cond_false, chk_pos, beq00, beq10, zne00, zeq00, decide_true, decide_false, true_and, and_true, and_self, Bool.not_true, Bool.not_false, canon61, canon26, canon24, canon3, canon3d, Int.toNat_natCast, List.cons_append, List.nil_append, if_true, shutI]
          exact star (nil, i + 1 + 1 + 1, true) q3
        · simp only [ieq_f hz, Bool.false_eq_true, if_false]
          rw [hw hz (i + 1 + 1 + 1) q3]
          obtain ⟨r1, r2, r3⟩ := hrd (i + 1 + 1 + 1) q3
          generalize rd (i + 1 + 1 + 1) = z at r1 r2 r3 ⊢
          obtain ⟨e, j, b⟩ := z
          simp only at r1 r2 r3
          cases b with
          | true =>
            simp only [bindO_eq, pvAt_zero, pvAt_succ, getL_zero, getL_succ, dropL_one, int_val, bool_val, str_val, rows_sl, errB_err, cond_true, cond_false, chk_pos, beq00, beq10, zne00, zeq00, decide_true, decide_false, true_and, and_true, and_self, Bool.not_true, Bool.not_false, canon61, canon26, canon24, canon3, canon3d, Int.toNat_natCast, List.cons_append, List.nil_append, shutI, if_true]
            exact star (e, j, true) r2
          | false =>
            simp only [bindO_eq, pvAt_zero, pvAt_succ, getL_zero, getL_succ, dropL_one, int_val, bool_val, str_val, rows_sl, errB_err, cond_true, cond_false, chk_pos, beq00, beq10, zne00, zeq00, decide_true, decide_false, true_and, and_true, and_self, Bool.not_true, Bool.not_false, canon61, canon26, canon24, canon3, canon3d, Int.toNat_natCast, List.cons_append, List.nil_append, shutI, Bool.false_eq_true, if_false]
            rw [w62c j false r2]
            simp only [bindO_eq, pvAt_zero, pvAt_succ, getL_zero, getL_succ, dropL_one, int_val, bool_val, str_val, rows_sl, errB_err, cond_true, cond_false, chk_pos, beq00, beq10, zne00, zeq00, decide_true, decide_false, true_and, and_true, and_self, Bool.not_true, Bool.not_false, canon61, canon26, canon24, canon3, canon3d, Int.toNat_natCast, List.cons_append, List.nil_append]
            cases h5 : nextIs x [41] j with
            | true =>
              have q5 := next_le h5 r2
              simp only [List.length_cons, List.length_nil, Nat.zero_add] at q5
              simp only [bindO_eq, pvAt_zero, pvAt_succ, getL_zero, getL_succ, dropL_one, int_val, bool_val, str_val, rows_sl, errB_err, cond_true, cond_false, chk_pos, beq00, beq10, zne00, zeq00, decide_true, decide_false, true_and, and_true, and_self, Bool.not_true, Bool.not_false, canon61, canon26, canon24, canon3, canon3d, Int.toNat_natCast, List.cons_append, List.nil_append, if_true]
              exact star (e, j + 1, false) q5
            | false =>
              simp only [bindO_eq, pvAt_zero, pvAt_succ, getL_zero, getL_succ, dropL_one, int_val, bool_val, str_val, rows_sl, errB_err, cond_true, cond_false, chk_pos, beq00, beq10, zne00, zeq00, decide_true, decide_false, true_and, and_true, and_self, Bool.not_true, Bool.not_false, canon61, canon26, canon24, canon3, canon3d, Int.toNat_natCast, List.cons_append, List.nil_append, Bool.false_eq_true, if_false]
              exact star (e, j, true) r2
theorem t61 {x : List UInt8} (hx : x.length ≤ 1073741824) {d : Int} {rd : Nat → Rd} {dz : Bool} (hrd : ∀ j, j ≤ x.length → InI x j (rd j))
    (hw : ∀ i : Nat, i ≤ x.length → W E 80 [.val (.int .i64 d), .val (.string (ba x)), .val (.int .i64 (i : Int)), .val (.bool false)] = some [.sl 2 (termS rd dz x i).1.enc, .val (.int .i64 (termS rd dz x i).2.1), .val (.string (ba x)), .val (.int .i64 ((termS rd dz x i).2.2.1 : Int)), .val (.bool (termS rd dz x i).2.2.2)]) :
    ∀ (n M m i : Nat) (acc : List (List PV)), i ≤ x.length → x.length < n + i → n < m → acc.length + n ≤ 2147483648 →
    iterN (lp61_2 (W E) M) m [.val (.int .i64 d), .sl 2 [], .sl 2 acc, .val (.string (ba x)), .val (.int .i64 (i : Int)), .val (.bool false)] =
      some (0, [.sl 2 [], .sl 2 (acc ++ (loopS rd dz x n i).1.enc), .val (.string (ba x)), .val (.int .i64 ((loopS rd dz x n i).2.1 : Int)), .val (.bool (loopS rd dz x n i).2.2)])
  | 0, M, m, i, acc, hi, hn, hm, ha => by omega
  | n + 1, M, m, i, acc, hi, hn, hm, ha => by
    obtain ⟨m, rfl⟩ : ∃ k, m = k + 1 := ⟨m - 1, by omega⟩
    have w62p := fun (j : Nat) (b : Bool) (hj : j ≤ x.length) => W62 43 x j b hj (by omega)
    simp only [show ((43 : UInt8).toNat : Int) = 43 from rfl] at w62p
    obtain ⟨h1, h2, h3⟩ := termS_in (dz := dz) hrd hi
    rw [iterN_succ]
    simp only [loopS]
    simp only [lp61_2, lq61_2, bindO_eq, pvAt_zero, pvAt_succ, getL_zero, getL_succ, dropL_one, int_val, bool_val, str_val, rows_sl, errB_err, cond_true, cond_false, chk_pos, beq00, beq10, zne00, zeq00, decide_true, decide_false, true_and, and_true, and_self, Bool.not_true, Bool.not_false, canon61, canon26, canon24, canon3, canon3d, Int.toNat_natCast, List.cons_append, List.nil_append, hw i hi]
    generalize termS rd dz x i = t at h1 h2 h3 ⊢
    -- the row is put, or not
    have put : ∀ K : Nat × List PV → Option (Nat × List PV), bindO (bif decide (t.2.1 > 0) then (chk ((acc.length + [[PV.sl 2 t.1.enc, PV.val (.int .i64 t.2.1)]].length) * 32 ≤ LIM ∧ acc.length + [[PV.sl 2 t.1.enc, PV.val (.int .i64 t.2.1)]].length ≤ LIM) (some (0, [.val (.int .i64 d), .sl 2 [], .sl 2 (acc ++ [[PV.sl 2 t.1.enc, PV.val (.int .i64 t.2.1)]]), .val (.string (ba x)), .val (.int .i64 (t.2.2.1 : Int)), .val (.bool t.2.2.2)]))) else (some (0, [.val (.int .i64 d), .sl 2 [], .sl 2 acc, .val (.string (ba x)), .val (.int .i64 (t.2.2.1 : Int)), .val (.bool t.2.2.2)]))) K =
        K (0, [.val (.int .i64 d), .sl 2 [], .sl 2 (acc ++ (putS t nil).enc), .val (.string (ba x)), .val (.int .i64 (t.2.2.1 : Int)), .val (.bool t.2.2.2)]) := by
      intro K
      by_cases hc : t.2.1 > 0
      · simp only [hc, bindO_eq, pvAt_zero, pvAt_succ, getL_zero, getL_succ, dropL_one, int_val, bool_val, str_val, rows_sl, errB_err, cond_true, cond_false, chk_pos, beq00, beq10, zne00, zeq00, decide_true, decide_false, true_and, and_true, and_self, Bool.not_true, Bool.not_false, canon61, canon26, canon24, canon3, canon3d, Int.toNat_natCast, List.cons_append, List.nil_append, putS, if_true, Od.enc]
        rw [chk_pos (app_ok (l := acc) (by omega))]
        simp only [bindO_eq, pvAt_zero, pvAt_succ, getL_zero, getL_succ, dropL_one, int_val, bool_val, str_val, rows_sl, errB_err, cond_true, cond_false, chk_pos, beq00, beq10, zne00, zeq00, decide_true, decide_false, true_and, and_true, and_self, Bool.not_true, Bool.not_false, canon61, canon26, canon24, canon3, canon3d, Int.toNat_natCast, List.cons_append, List.nil_append]
      · simp only [hc, bindO_eq, pvAt_zero, pvAt_succ, getL_zero, getL_succ, dropL_one, int_val, bool_val, str_val, rows_sl, errB_err, cond_true, cond_false, chk_pos, beq00, beq10, zne00, zeq00, decide_true, decide_false, true_and, and_true, and_self, Bool.not_true, Bool.not_false, canon61, canon26, canon24, canon3, canon3d, Int.toNat_natCast, List.cons_append, List.nil_append, putS, if_false, Od.enc, List.append_nil]
    refine (put _).trans ?_
    have hput : ∀ r : Od, (putS t r).enc = (putS t nil).enc ++ r.enc := by
      intro r
      unfold putS
      split <;> simp [Od.enc]
    have hputl : (putS t nil).enc.length ≤ 1 := by
      unfold putS
      split <;> simp [Od.enc]
    simp only [bindO_eq, pvAt_zero, pvAt_succ, getL_zero, getL_succ, dropL_one, int_val, bool_val, str_val, rows_sl, errB_err, cond_true, cond_false, chk_pos, beq00, beq10, zne00, zeq00, decide_true, decide_false, true_and, and_true, and_self, Bool.not_true, Bool.not_false, canon61, canon26, canon24, canon3, canon3d, Int.toNat_natCast, List.cons_append, List.nil_append]
    rw [w62p _ _ h2]
    simp only [bindO_eq, pvAt_zero, pvAt_succ, getL_zero, getL_succ, dropL_one, int_val, bool_val, str_val, rows_sl, errB_err, cond_true, cond_false, chk_pos, beq00, beq10, zne00, zeq00, decide_true, decide_false, true_and, and_true, and_self, Bool.not_true, Bool.not_false, canon61, canon26, canon24, canon3, canon3d, Int.toNat_natCast, List.cons_append, List.nil_append, plusS]
    cases hp : nextIs x [43] t.2.2.1 with
    | false => simp only [bindO_eq, pvAt_zero, pvAt_succ, getL_zero, getL_succ, dropL_one, int_val, bool_val, str_val, rows_sl, errB_err, cond_true, cond_false, chk_pos, beq00, beq10, zne00, zeq00, decide_true, decide_false, true_and, and_true, and_self, Bool.not_true, Bool.not_false, canon61, canon26, canon24, canon3, canon3d, Int.toNat_natCast, List.cons_append, List.nil_append, Bool.false_eq_true, if_false]
    | true =>
      have h4 := next_le hp h2
      simp only [List.length_cons, List.length_nil, Nat.zero_add] at h4
      simp only [bindO_eq, pvAt_zero, pvAt_succ, getL_zero, getL_succ, dropL_one, int_val, bool_val, str_val, rows_sl, errB_err, cond_true, cond_false, chk_pos, beq00, beq10, zne00, zeq00, decide_true, decide_false, true_and, and_true, and_self, Bool.not_true, Bool.not_false, canon61, canon26, canon24, canon3, canon3d, Int.toNat_natCast, List.cons_append, List.nil_append, if_true]
      cases hb : t.2.2.2 with
      | true =>
        obtain ⟨m, rfl⟩ : ∃ k, m = k + 1 := ⟨m - 1, by omega⟩
        rw [iterN_succ]
        simp only [lp61_2, lq61_2, bindO_eq, pvAt_zero, pvAt_succ, getL_zero, getL_succ, dropL_one, int_val, bool_val, str_val, rows_sl, errB_err, cond_true, cond_false, chk_pos, beq00, beq10, zne00, zeq00, decide_true, decide_false, true_and, and_true, and_self, Bool.not_true, Bool.not_false, canon61, canon26, canon24, canon3, canon3d, Int.toNat_natCast, List.cons_append, List.nil_append, if_true]
      | false =>
        simp only [Bool.false_eq_true, if_false]
        rw [t61 hx hrd hw n M m (t.2.2.1 + 1) _ h4 (by omega) (by omega) (by simp; omega)]
        rw [hput (loopS rd dz x n (t.2.2.1 + 1)).1, List.append_assoc]
theorem W61 {x : List UInt8} (hx : x.length ≤ 1073741824) : ∀ (k : Nat) (j : Nat), k ≤ 6 → j ≤ x.length →
    W E 61 [.val (.int .i64 (k : Int)), .val (.string (ba x)), .val (.int .i64 (j : Int)), .val (.bool false)] = some [.sl 2 (readS x (k + 1) j).1.enc, .val (.string (ba x)), .val (.int .i64 ((readS x (k + 1) j).2.1 : Int)), .val (.bool (readS x (k + 1) j).2.2)]
  | k, j, hk, hj => by
    have h80 : ∀ i : Nat, i ≤ x.length → _ := fun i hi => W80 hx (d := (k : Int)) (by omega) (rd := readS x k) (fun j hj => readS_in x k j hj) (fun hz j hj => by
      cases k with
      | zero => exact absurd rfl hz
      | succ k =>
        have := W61 hx k j (by omega) hj
        rw [show ((k + 1 : Nat) : Int) - 1 = (k : Int) by omega]
        exact this) i hi
    have hdz : ((k : Int) == 0) = decide (k = 0) := by
      by_cases hz : k = 0
      · simp [hz]
      · simp [hz]
    rw [hdz] at h80
    refine w61 (m := x.length + 2) _ _ _ _ ?_
    simp only [g61]
    rw [t61 hx (rd := readS x k) (dz := decide (k = 0)) (fun j hj => readS_in x k j hj) h80 (x.length + 1) _ (x.length + 2) j [] hj (by omega) (by omega) (by simp; omega)]
    simp only [bindO_eq, pvAt_zero, pvAt_succ, getL_zero, getL_succ, dropL_one, int_val, bool_val, str_val, rows_sl, errB_err, cond_true, cond_false, chk_pos, beq00, beq10, zne00, zeq00, decide_true, decide_false, true_and, and_true, and_self, Bool.not_true, Bool.not_false, canon61, canon26, canon24, canon3, canon3d, Int.toNat_natCast, List.cons_append, List.nil_append, readS]
end Go.Vm
