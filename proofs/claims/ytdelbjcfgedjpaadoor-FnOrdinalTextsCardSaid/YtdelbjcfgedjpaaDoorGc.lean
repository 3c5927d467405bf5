import Derived.Test.YtdelbjcfgedjpaaDoorE
namespace Go.Vm.D
open Go Go.Vm Go.Proofs
set_option linter.unusedVariables false
/-- loop.example/g01096/spec.DrawNodesOf -/
noncomputable def g6 (C : Orc) (m : Nat) (a0 : List (List PV)) : Option (List PV) :=
bindO (C 23 [.sl 1 a0, .val (.int .i64 0), .val (.int .u64 0)]) fun x1 =>
some [.sl 2 ((pvAt x1 0).rows)]
theorem g6_eq (C : Orc) (m : Nat) (a0 : List (List PV)) : runFn E C m 6 Tryd.f6 [.sl 1 a0] = g6 C m a0 := by kernel_rfl
theorem w6 {m : Nat} {out : List PV} (a0 : List (List PV)) (h : g6 (W E) m a0 = some out) : W E 6 [.sl 1 a0] = some out := W_fn E (m := m) (fn := Tryd.f6) (by kernel_rfl) ((g6_eq ..).trans h)
/-- (*loop.example/g01096/spec.l1Cur).among -/
noncomputable def g46 (C : Orc) (m : Nat) (a0 : List (List PV)) (a1 : List (List PV)) (a2 : Int) (a3 : Int) : Option (List PV) :=
bindO (C 47 [.val (.int .i64 (a0.length : Int)), .sl 1 a1, .val (.int .i64 a2), .val (.int .u64 a3)]) fun x1 =>
chk ((0 : Int) ≤ ((pvAt x1 0).int) ∧ ((pvAt x1 0).int) < (a0.length : Int)) <|
chk (canonP k3 (getL [] a0 (Int.toNat ((pvAt x1 0).int))) 0) <|
let y2 : Int := (getL .dft (getL [] a0 (Int.toNat ((pvAt x1 0).int))) 0).int; some [.val (.int .i64 y2), .sl 1 ((pvAt x1 1).rows), .val (.int .i64 ((pvAt x1 2).int)), .val (.int .u64 ((pvAt x1 3).int))]
theorem g46_eq (C : Orc) (m : Nat) (a0 : List (List PV)) (a1 : List (List PV)) (a2 : Int) (a3 : Int) : runFn E C m 46 Tryd.f46 [.sl 1 a0, .sl 1 a1, .val (.int .i64 a2), .val (.int .u64 a3)] = g46 C m a0 a1 a2 a3 := by kernel_rfl
theorem w46 {m : Nat} {out : List PV} (a0 : List (List PV)) (a1 : List (List PV)) (a2 : Int) (a3 : Int) (h : g46 (W E) m a0 a1 a2 a3 = some out) : W E 46 [.sl 1 a0, .sl 1 a1, .val (.int .i64 a2), .val (.int .u64 a3)] = some out := W_fn E (m := m) (fn := Tryd.f46) (by kernel_rfl) ((g46_eq ..).trans h)
/-- (*loop.example/g01096/spec.l1Cur).next -/
noncomputable def g70 (C : Orc) (m : Nat) (a0 : List (List PV)) (a1 : Int) (a2 : Int) : Option (List PV) :=
bindO (bif decide (a1 < (a0.length : Int)) then (chk ((0 : Int) ≤ a1 ∧ a1 < (a0.length : Int)) <|
chk (canonP k5 (getL [] a0 (Int.toNat a1)) 0) <|
let y1 : Int := (getL .dft (getL [] a0 (Int.toNat a1)) 0).int; some (0, [.val (.int .i64 (IntKind.wrap .i64 y1)), .sl 1 a0, .val (.int .i64 a1), .val (.int .u64 a2)])) else (some (0, [.val (.int .i64 0), .sl 1 a0, .val (.int .i64 a1), .val (.int .u64 a2)]))) fun r2 =>
let y3 : Int := IntKind.wrap .u64 (((pvAt r2.2 3).int) * 6364136223846793005); let y4 : Int := IntKind.wrap .u64 (y3 + (IntKind.wrap .u64 ((pvAt r2.2 0).int))); let y5 : Bool := decide ((IntKind.wrap .i64 (((pvAt r2.2 2).int) + 1)) ≤ (((pvAt r2.2 1).rows).length : Int)); bif y5 then (some [.val (.int .i64 ((pvAt r2.2 0).int)), .sl 1 ((pvAt r2.2 1).rows), .val (.int .i64 (IntKind.wrap .i64 (((pvAt r2.2 2).int) + 1))), .val (.int .u64 (IntKind.wrap .u64 (y4 + 1442695040888963407)))]) else (chk ((0 : Int) ≤ 40) <|
let y6 : Int := (IntKind.wrap .u64 (y4 + 1442695040888963407)).fdiv (2 ^ (min (Int.toNat 40) (IntKind.bits .u64))); let y7 : Int := IntKind.wrap .u64 ((BitVec.ofInt (IntKind.bits .u64) y6 &&& BitVec.ofInt (IntKind.bits .u64) 255).toNat : Int); some [.val (.int .i64 (IntKind.wrap .i64 y7)), .sl 1 ((pvAt r2.2 1).rows), .val (.int .i64 (IntKind.wrap .i64 (((pvAt r2.2 2).int) + 1))), .val (.int .u64 (IntKind.wrap .u64 (y4 + 1442695040888963407)))])
theorem g70_eq (C : Orc) (m : Nat) (a0 : List (List PV)) (a1 : Int) (a2 : Int) : runFn E C m 70 Tryd.f70 [.sl 1 a0, .val (.int .i64 a1), .val (.int .u64 a2)] = g70 C m a0 a1 a2 := by kernel_rfl
theorem w70 {m : Nat} {out : List PV} (a0 : List (List PV)) (a1 : Int) (a2 : Int) (h : g70 (W E) m a0 a1 a2 = some out) : W E 70 [.sl 1 a0, .val (.int .i64 a1), .val (.int .u64 a2)] = some out := W_fn E (m := m) (fn := Tryd.f70) (by kernel_rfl) ((g70_eq ..).trans h)
/-- (*loop.example/g01096/spec.l1Cur).one -/
noncomputable def g36 (C : Orc) (m : Nat) (a0 : Int) (a1 : List (List PV)) (a2 : Int) (a3 : Int) : Option (List PV) :=
bindO (C 47 [.val (.int .i64 a0), .sl 1 a1, .val (.int .i64 a2), .val (.int .u64 a3)]) fun x1 =>
some [.val (.bool (((pvAt x1 0).int) == 0)), .sl 1 ((pvAt x1 1).rows), .val (.int .i64 ((pvAt x1 2).int)), .val (.int .u64 ((pvAt x1 3).int))]
theorem g36_eq (C : Orc) (m : Nat) (a0 : Int) (a1 : List (List PV)) (a2 : Int) (a3 : Int) : runFn E C m 36 Tryd.f36 [.val (.int .i64 a0), .sl 1 a1, .val (.int .i64 a2), .val (.int .u64 a3)] = g36 C m a0 a1 a2 a3 := by kernel_rfl
theorem w36 {m : Nat} {out : List PV} (a0 : Int) (a1 : List (List PV)) (a2 : Int) (a3 : Int) (h : g36 (W E) m a0 a1 a2 a3 = some out) : W E 36 [.val (.int .i64 a0), .sl 1 a1, .val (.int .i64 a2), .val (.int .u64 a3)] = some out := W_fn E (m := m) (fn := Tryd.f36) (by kernel_rfl) ((g36_eq ..).trans h)
/-- loop.example/g01096/impl.OrdinalText -/
noncomputable def g7 (C : Orc) (m : Nat) (a0 : List (List PV)) : Option (List PV) :=
bindO (C 11 [.sl 2 a0]) fun x1 =>
bif !((pvAt x1 0).bool) then (some [.val (.string (ByteArray.mk #[])), .val (.bool false)]) else (bindO (C 24 [.sl 2 a0, .val (.string (ByteArray.mk #[119]))]) fun x2 =>
some [.val (.string ((pvAt x2 0).str)), .val (.bool true)])
theorem g7_eq (C : Orc) (m : Nat) (a0 : List (List PV)) : runFn E C m 7 Tryd.f7 [.sl 2 a0] = g7 C m a0 := by kernel_rfl
theorem w7 {m : Nat} {out : List PV} (a0 : List (List PV)) (h : g7 (W E) m a0 = some out) : W E 7 [.sl 2 a0] = some out := W_fn E (m := m) (fn := Tryd.f7) (by kernel_rfl) ((g7_eq ..).trans h)
/-- loop.example/g01096/impl.IsOrdinal -/
noncomputable def g11 (C : Orc) (m : Nat) (a0 : List (List PV)) : Option (List PV) :=
bindO (C 27 [.sl 1 [[.sl 2 a0]], .val (.int .i64 0), .val (.int .i64 0)]) fun x1 =>
some [.val (.bool ((pvAt x1 0).bool))]
theorem g11_eq (C : Orc) (m : Nat) (a0 : List (List PV)) : runFn E C m 11 Tryd.f11 [.sl 2 a0] = g11 C m a0 := by kernel_rfl
theorem w11 {m : Nat} {out : List PV} (a0 : List (List PV)) (h : g11 (W E) m a0 = some out) : W E 11 [.sl 2 a0] = some out := W_fn E (m := m) (fn := Tryd.f11) (by kernel_rfl) ((g11_eq ..).trans h)
noncomputable def lq27_5 (C : Orc) (m : Nat) (rec : List PV → Option (Nat × List PV)) (v0 : List (List PV)) (v1 : Int) (v2 : Int) (v3 : Int) (v4 : Int) : Option (Nat × List PV) :=
bif decide (v3 < v2) then (chk (canonP k24 (getL [] v0 0) 0) <|
chk ((0 : Int) ≤ v3 ∧ v3 < (((getL .dft (getL [] v0 0) 0).rows).length : Int)) <|
let y2 : List PV := getL [] ((getL .dft (getL [] v0 0) 0).rows) (Int.toNat v3); bif decide ((IntKind.wrap .i64 (v4 + 1)) > 60) then (some (1, [.val (.bool false), .val (.int .i64 (IntKind.wrap .i64 (v4 + 1)))])) else (chk (canonP k3 (dropL 1 y2) 0) <|
bindO (C 59 [.val (.int .i64 ((getL .dft (dropL 1 y2) 0).int)), .val (.int .i64 1), .val (.int .i64 1000000)]) fun x3 =>
bif !((pvAt x3 0).bool) then (some (1, [.val (.bool false), .val (.int .i64 (IntKind.wrap .i64 (v4 + 1)))])) else (bindO (C 27 [.sl 1 [y2], .val (.int .i64 (IntKind.wrap .i64 (v1 + 1))), .val (.int .i64 (IntKind.wrap .i64 (v4 + 1)))]) fun x4 =>
bif !((pvAt x4 0).bool) then (some (1, [.val (.bool false), .val (.int .i64 ((pvAt x4 1).int))])) else (bif decide (v3 > 0) then (chk (canonP k24 (getL [] v0 0) 0) <|
chk ((0 : Int) ≤ (IntKind.wrap .i64 (v3 - 1)) ∧ (IntKind.wrap .i64 (v3 - 1)) < (((getL .dft (getL [] v0 0) 0).rows).length : Int)) <|
let y5 : List PV := getL [] ((getL .dft (getL [] v0 0) 0).rows) (Int.toNat (IntKind.wrap .i64 (v3 - 1))); chk (canonP k26 y5 0) <|
chk (canonP k26 y2 0) <|
bindO (C 52 [.sl 2 ((getL .dft y5 0).rows), .sl 2 ((getL .dft y2 0).rows)]) fun x6 =>
bif decide (((pvAt x6 0).int) ≤ 0) then (some (1, [.val (.bool false), .val (.int .i64 ((pvAt x4 1).int))])) else (rec [.sl 1 [getL [] v0 0], .val (.int .i64 v1), .val (.int .i64 v2), .val (.int .i64 (IntKind.wrap .i64 (v3 + 1))), .val (.int .i64 ((pvAt x4 1).int))])) else (rec [.sl 1 [getL [] v0 0], .val (.int .i64 v1), .val (.int .i64 v2), .val (.int .i64 (IntKind.wrap .i64 (v3 + 1))), .val (.int .i64 ((pvAt x4 1).int))]))))) else (some (0, [.val (.int .i64 v4)]))
noncomputable def lp27_5 (C : Orc) (m : Nat) (rec : List PV → Option (Nat × List PV)) (v : List PV) : Option (Nat × List PV) := lq27_5 C m rec ((pvAt v 0).rows) ((pvAt v 1).int) ((pvAt v 2).int) ((pvAt v 3).int) ((pvAt v 4).int)
/-- loop.example/g01096/impl.ordinalAt -/
noncomputable def g27 (C : Orc) (m : Nat) (a0 : List (List PV)) (a1 : Int) (a2 : Int) : Option (List PV) :=
bif decide ((IntKind.wrap .i64 (a2 + 1)) > 60) then (some [.val (.bool false), .val (.int .i64 (IntKind.wrap .i64 (a2 + 1)))]) else (bif decide (a1 > 6) then (some [.val (.bool false), .val (.int .i64 (IntKind.wrap .i64 (a2 + 1)))]) else (chk (canonP k24 (getL [] a0 0) 0) <|
let y1 : Int := (((getL .dft (getL [] a0 0) 0).rows).length : Int); bindO (iterN (lp27_5 C m) m [.sl 1 [getL [] a0 0], .val (.int .i64 a1), .val (.int .i64 y1), .val (.int .i64 0), .val (.int .i64 (IntKind.wrap .i64 (a2 + 1)))]) fun r7 =>
bif Nat.beq r7.1 0 then (some [.val (.bool true), .val (.int .i64 ((pvAt r7.2 0).int))]) else (some [.val (.bool ((pvAt r7.2 0).bool)), .val (.int .i64 ((pvAt r7.2 1).int))])))
theorem g27_eq (C : Orc) (m : Nat) (a0 : List (List PV)) (a1 : Int) (a2 : Int) : runFn E C m 27 Tryd.f27 [.sl 1 a0, .val (.int .i64 a1), .val (.int .i64 a2)] = g27 C m a0 a1 a2 := by kernel_rfl
theorem w27 {m : Nat} {out : List PV} (a0 : List (List PV)) (a1 : Int) (a2 : Int) (h : g27 (W E) m a0 a1 a2 = some out) : W E 27 [.sl 1 a0, .val (.int .i64 a1), .val (.int .i64 a2)] = some out := W_fn E (m := m) (fn := Tryd.f27) (by kernel_rfl) ((g27_eq ..).trans h)
/-- loop.example/g01096/impl.compare -/
noncomputable def g86 (C : Orc) (m : Nat) (a0 : Int) (a1 : Int) : Option (List PV) :=
bif decide (a0 < a1) then (some [.val (.int .i64 (-1))]) else (bif decide (a0 > a1) then (some [.val (.int .i64 1)]) else (some [.val (.int .i64 0)]))
theorem g86_eq (C : Orc) (m : Nat) (a0 : Int) (a1 : Int) : runFn E C m 86 Tryd.f86 [.val (.int .i64 a0), .val (.int .i64 a1)] = g86 C m a0 a1 := by kernel_rfl
theorem w86 {m : Nat} {out : List PV} (a0 : Int) (a1 : Int) (h : g86 (W E) m a0 a1 = some out) : W E 86 [.val (.int .i64 a0), .val (.int .i64 a1)] = some out := W_fn E (m := m) (fn := Tryd.f86) (by kernel_rfl) ((g86_eq ..).trans h)
/-- loop.example/g01096/spec.odGood -/
noncomputable def g25 (C : Orc) (m : Nat) (a0 : List (List PV)) : Option (List PV) :=
bindO (C 54 [.sl 2 a0, .val (.int .i64 6), .val (.int .i64 60)]) fun x1 =>
bif decide (((pvAt x1 0).int) ≥ 0) then (bindO (C 55 [.sl 2 a0, .val (.int .i64 6)]) fun x2 =>
some [.val (.bool ((pvAt x2 0).bool))]) else (some [.val (.bool false)])
theorem g25_eq (C : Orc) (m : Nat) (a0 : List (List PV)) : runFn E C m 25 Tryd.f25 [.sl 2 a0] = g25 C m a0 := by kernel_rfl
theorem w25 {m : Nat} {out : List PV} (a0 : List (List PV)) (h : g25 (W E) m a0 = some out) : W E 25 [.sl 2 a0] = some out := W_fn E (m := m) (fn := Tryd.f25) (by kernel_rfl) ((g25_eq ..).trans h)
/-- loop.example/g01096/spec.l1In -/
noncomputable def g77 (C : Orc) (m : Nat) (a0 : Int) (a1 : Int) (a2 : Int) : Option (List PV) :=
bif decide (a0 ≥ a1) then (some [.val (.bool (decide (a0 ≤ a2)))]) else (some [.val (.bool false)])
theorem g77_eq (C : Orc) (m : Nat) (a0 : Int) (a1 : Int) (a2 : Int) : runFn E C m 77 Tryd.f77 [.val (.int .i64 a0), .val (.int .i64 a1), .val (.int .i64 a2)] = g77 C m a0 a1 a2 := by kernel_rfl
theorem w77 {m : Nat} {out : List PV} (a0 : Int) (a1 : Int) (a2 : Int) (h : g77 (W E) m a0 a1 a2 = some out) : W E 77 [.val (.int .i64 a0), .val (.int .i64 a1), .val (.int .i64 a2)] = some out := W_fn E (m := m) (fn := Tryd.f77) (by kernel_rfl) ((g77_eq ..).trans h)
/-- loop.example/g01096/spec.odZero -/
noncomputable def g56 (C : Orc) (m : Nat) (a0 : List (List PV)) : Option (List PV) :=
some [.val (.bool ((a0.length : Int) == 0))]
theorem g56_eq (C : Orc) (m : Nat) (a0 : List (List PV)) : runFn E C m 56 Tryd.f56 [.sl 2 a0] = g56 C m a0 := by kernel_rfl
theorem w56 {m : Nat} {out : List PV} (a0 : List (List PV)) (h : g56 (W E) m a0 = some out) : W E 56 [.sl 2 a0] = some out := W_fn E (m := m) (fn := Tryd.f56) (by kernel_rfl) ((g56_eq ..).trans h)
/-- loop.example/g01096/impl.NodesOf -/
noncomputable def g9 (C : Orc) (m : Nat) (a0 : List (List PV)) : Option (List PV) :=
bindO (C 27 [.sl 1 [[.sl 2 a0]], .val (.int .i64 0), .val (.int .i64 0)]) fun x1 =>
bif !((pvAt x1 0).bool) then (some [.val (.int .i64 0), .val (.bool false)]) else (some [.val (.int .i64 ((pvAt x1 1).int)), .val (.bool true)])
theorem g9_eq (C : Orc) (m : Nat) (a0 : List (List PV)) : runFn E C m 9 Tryd.f9 [.sl 2 a0] = g9 C m a0 := by kernel_rfl
theorem w9 {m : Nat} {out : List PV} (a0 : List (List PV)) (h : g9 (W E) m a0 = some out) : W E 9 [.sl 2 a0] = some out := W_fn E (m := m) (fn := Tryd.f9) (by kernel_rfl) ((g9_eq ..).trans h)
noncomputable def lq28_3 (C : Orc) (m : Nat) (rec : List PV → Option (Nat × List PV)) (v0 : Int) (v1 : List (List PV)) (v2 : Int) (v3 : Int) : Option (Nat × List PV) :=
bif decide (v3 < v2) then (chk ((0 : Int) ≤ v3 ∧ v3 < (v1.length : Int)) <|
chk (canonP k61 (getL [] v1 (Int.toNat v3)) 0) <|
let y1 : List (List PV) := (getL .dft (getL [] v1 (Int.toNat v3)) 0).rows; let y2 : Int := (getL .dft (getL [] v1 (Int.toNat v3)) 1).int; bindO (C 28 [.sl 2 y1]) fun x3 =>
let y4 : Int := IntKind.wrap .i64 (v0 + (IntKind.wrap .i64 (1 + ((pvAt x3 0).int)))); rec [.val (.int .i64 y4), .sl 2 v1, .val (.int .i64 v2), .val (.int .i64 (IntKind.wrap .i64 (v3 + 1)))]) else (some (0, [.val (.int .i64 v0)]))
noncomputable def lp28_3 (C : Orc) (m : Nat) (rec : List PV → Option (Nat × List PV)) (v : List PV) : Option (Nat × List PV) := lq28_3 C m rec ((pvAt v 0).int) ((pvAt v 1).rows) ((pvAt v 2).int) ((pvAt v 3).int)
/-- loop.example/g01096/spec.odSize -/
noncomputable def g28 (C : Orc) (m : Nat) (a0 : List (List PV)) : Option (List PV) :=
bindO (iterN (lp28_3 C m) m [.val (.int .i64 1), .sl 2 a0, .val (.int .i64 (a0.length : Int)), .val (.int .i64 0)]) fun r5 =>
some [.val (.int .i64 ((pvAt r5.2 0).int))]
theorem g28_eq (C : Orc) (m : Nat) (a0 : List (List PV)) : runFn E C m 28 Tryd.f28 [.sl 2 a0] = g28 C m a0 := by kernel_rfl
theorem w28 {m : Nat} {out : List PV} (a0 : List (List PV)) (h : g28 (W E) m a0 = some out) : W E 28 [.sl 2 a0] = some out := W_fn E (m := m) (fn := Tryd.f28) (by kernel_rfl) ((g28_eq ..).trans h)
noncomputable def lq29_6 (C : Orc) (m : Nat) (rec : List PV → Option (Nat × List PV)) (v0 : Int) (v1 : Bool) (v2 : List (List PV)) (v3 : List (List PV)) (v4 : ByteArray) (v5 : Int) (v6 : Bool) : Option (Nat × List PV) :=
bif v1 then (bif !v6 then (bindO (C 40 [.val (.string (ByteArray.mk #[119])), .val (.string v4), .val (.int .i64 v5), .val (.bool v6)]) fun x3 =>
bif !((pvAt x3 0).bool) then (bindO (C 60 [.val (.string ((pvAt x3 1).str)), .val (.int .i64 ((pvAt x3 2).int)), .val (.bool ((pvAt x3 3).bool))]) fun x4 =>
let y5 : List (List PV) := ([[.sl 2 [], .val (.int .i64 ((pvAt x4 0).int))]] : List (List PV)); chk (True ∧ (v3.length + y5.length) * 32 ≤ LIM ∧ v3.length + y5.length ≤ LIM) <|
bindO (C 40 [.val (.string (ByteArray.mk #[43])), .val (.string ((pvAt x4 1).str)), .val (.int .i64 ((pvAt x4 2).int)), .val (.bool ((pvAt x4 3).bool))]) fun x6 =>
rec [.val (.int .i64 v0), .val (.bool ((pvAt x6 0).bool)), .sl 2 v2, .sl 2 (v3 ++ y5), .val (.string ((pvAt x6 1).str)), .val (.int .i64 ((pvAt x6 2).int)), .val (.bool ((pvAt x6 3).bool))]) else (bindO (C 41 [.val (.int .i64 1)]) fun x7 =>
bindO (C 40 [.val (.string (ByteArray.mk #[94, 40])), .val (.string ((pvAt x3 1).str)), .val (.int .i64 ((pvAt x3 2).int)), .val (.bool ((pvAt x3 3).bool))]) fun x8 =>
bif (pvAt x8 0).bool then (bindO (C 29 [.val (.int .i64 (IntKind.wrap .i64 (v0 + 1))), .val (.string ((pvAt x8 1).str)), .val (.int .i64 ((pvAt x8 2).int)), .val (.bool ((pvAt x8 3).bool))]) fun x9 =>
bif (pvAt x9 3).bool then (bindO (C 40 [.val (.string (ByteArray.mk #[42])), .val (.string ((pvAt x9 1).str)), .val (.int .i64 ((pvAt x9 2).int)), .val (.bool true)]) fun x10 =>
bif (pvAt x10 0).bool then (bindO (C 60 [.val (.string ((pvAt x10 1).str)), .val (.int .i64 ((pvAt x10 2).int)), .val (.bool ((pvAt x10 3).bool))]) fun x11 =>
let y12 : List (List PV) := ([[.sl 2 ((pvAt x9 0).rows), .val (.int .i64 ((pvAt x11 0).int))]] : List (List PV)); chk (True ∧ (v3.length + y12.length) * 32 ≤ LIM ∧ v3.length + y12.length ≤ LIM) <|
bindO (C 40 [.val (.string (ByteArray.mk #[43])), .val (.string ((pvAt x11 1).str)), .val (.int .i64 ((pvAt x11 2).int)), .val (.bool ((pvAt x11 3).bool))]) fun x13 =>
rec [.val (.int .i64 v0), .val (.bool ((pvAt x13 0).bool)), .sl 2 v2, .sl 2 (v3 ++ y12), .val (.string ((pvAt x13 1).str)), .val (.int .i64 ((pvAt x13 2).int)), .val (.bool ((pvAt x13 3).bool))]) else (let y14 : List (List PV) := ([[.sl 2 ((pvAt x9 0).rows), .val (.int .i64 1)]] : List (List PV)); chk (True ∧ (v3.length + y14.length) * 32 ≤ LIM ∧ v3.length + y14.length ≤ LIM) <|
bindO (C 40 [.val (.string (ByteArray.mk #[43])), .val (.string ((pvAt x10 1).str)), .val (.int .i64 ((pvAt x10 2).int)), .val (.bool ((pvAt x10 3).bool))]) fun x15 =>
rec [.val (.int .i64 v0), .val (.bool ((pvAt x15 0).bool)), .sl 2 v2, .sl 2 (v3 ++ y14), .val (.string ((pvAt x15 1).str)), .val (.int .i64 ((pvAt x15 2).int)), .val (.bool ((pvAt x15 3).bool))])) else (bindO (C 40 [.val (.string (ByteArray.mk #[41])), .val (.string ((pvAt x9 1).str)), .val (.int .i64 ((pvAt x9 2).int)), .val (.bool ((pvAt x9 3).bool))]) fun x16 =>
bindO (C 40 [.val (.string (ByteArray.mk #[42])), .val (.string ((pvAt x16 1).str)), .val (.int .i64 ((pvAt x16 2).int)), .val (.bool (!((pvAt x16 0).bool)))]) fun x17 =>
bif (pvAt x17 0).bool then (bindO (C 60 [.val (.string ((pvAt x17 1).str)), .val (.int .i64 ((pvAt x17 2).int)), .val (.bool ((pvAt x17 3).bool))]) fun x18 =>
let y19 : List (List PV) := ([[.sl 2 ((pvAt x9 0).rows), .val (.int .i64 ((pvAt x18 0).int))]] : List (List PV)); chk (True ∧ (v3.length + y19.length) * 32 ≤ LIM ∧ v3.length + y19.length ≤ LIM) <|
bindO (C 40 [.val (.string (ByteArray.mk #[43])), .val (.string ((pvAt x18 1).str)), .val (.int .i64 ((pvAt x18 2).int)), .val (.bool ((pvAt x18 3).bool))]) fun x20 =>
rec [.val (.int .i64 v0), .val (.bool ((pvAt x20 0).bool)), .sl 2 v2, .sl 2 (v3 ++ y19), .val (.string ((pvAt x20 1).str)), .val (.int .i64 ((pvAt x20 2).int)), .val (.bool ((pvAt x20 3).bool))]) else (let y21 : List (List PV) := ([[.sl 2 ((pvAt x9 0).rows), .val (.int .i64 1)]] : List (List PV)); chk (True ∧ (v3.length + y21.length) * 32 ≤ LIM ∧ v3.length + y21.length ≤ LIM) <|
bindO (C 40 [.val (.string (ByteArray.mk #[43])), .val (.string ((pvAt x17 1).str)), .val (.int .i64 ((pvAt x17 2).int)), .val (.bool ((pvAt x17 3).bool))]) fun x22 =>
rec [.val (.int .i64 v0), .val (.bool ((pvAt x22 0).bool)), .sl 2 v2, .sl 2 (v3 ++ y21), .val (.string ((pvAt x22 1).str)), .val (.int .i64 ((pvAt x22 2).int)), .val (.bool ((pvAt x22 3).bool))]))) else (bindO (C 40 [.val (.string (ByteArray.mk #[42])), .val (.string ((pvAt x8 1).str)), .val (.int .i64 ((pvAt x8 2).int)), .val (.bool ((pvAt x8 3).bool))]) fun x23 =>
bif (pvAt x23 0).bool then (bindO (C 60 [.val (.string ((pvAt x23 1).str)), .val (.int .i64 ((pvAt x23 2).int)), .val (.bool ((pvAt x23 3).bool))]) fun x24 =>
let y25 : List (List PV) := ([[.sl 2 ((pvAt x7 0).rows), .val (.int .i64 ((pvAt x24 0).int))]] : List (List PV)); chk (True ∧ (v3.length + y25.length) * 32 ≤ LIM ∧ v3.length + y25.length ≤ LIM) <|
bindO (C 40 [.val (.string (ByteArray.mk #[43])), .val (.string ((pvAt x24 1).str)), .val (.int .i64 ((pvAt x24 2).int)), .val (.bool ((pvAt x24 3).bool))]) fun x26 =>
rec [.val (.int .i64 v0), .val (.bool ((pvAt x26 0).bool)), .sl 2 v2, .sl 2 (v3 ++ y25), .val (.string ((pvAt x26 1).str)), .val (.int .i64 ((pvAt x26 2).int)), .val (.bool ((pvAt x26 3).bool))]) else (let y27 : List (List PV) := ([[.sl 2 ((pvAt x7 0).rows), .val (.int .i64 1)]] : List (List PV)); chk (True ∧ (v3.length + y27.length) * 32 ≤ LIM ∧ v3.length + y27.length ≤ LIM) <|
bindO (C 40 [.val (.string (ByteArray.mk #[43])), .val (.string ((pvAt x23 1).str)), .val (.int .i64 ((pvAt x23 2).int)), .val (.bool ((pvAt x23 3).bool))]) fun x28 =>
rec [.val (.int .i64 v0), .val (.bool ((pvAt x28 0).bool)), .sl 2 v2, .sl 2 (v3 ++ y27), .val (.string ((pvAt x28 1).str)), .val (.int .i64 ((pvAt x28 2).int)), .val (.bool ((pvAt x28 3).bool))])))) else (some (0, [.sl 2 v2, .sl 2 v3, .val (.string v4), .val (.int .i64 v5), .val (.bool v6)]))) else (some (0, [.sl 2 v2, .sl 2 v3, .val (.string v4), .val (.int .i64 v5), .val (.bool v6)]))
noncomputable def lp29_6 (C : Orc) (m : Nat) (rec : List PV → Option (Nat × List PV)) (v : List PV) : Option (Nat × List PV) := lq29_6 C m rec ((pvAt v 0).int) ((pvAt v 1).bool) ((pvAt v 2).rows) ((pvAt v 3).rows) ((pvAt v 4).str) ((pvAt v 5).int) ((pvAt v 6).bool)
/-- (*loop.example/g01096/impl.reader).ordinal -/
noncomputable def g29 (C : Orc) (m : Nat) (a0 : Int) (a1 : ByteArray) (a2 : Int) (a3 : Bool) : Option (List PV) :=
bindO (bif a3 then (some (0, [.val (.int .i64 a0), .sl 2 [], .sl 2 [], .val (.string a1), .val (.int .i64 a2), .val (.bool true)])) else (some (0, [.val (.int .i64 a0), .sl 2 [], .sl 2 [], .val (.string a1), .val (.int .i64 a2), .val (.bool (decide (a0 > 6)))]))) fun r1 =>
bindO (C 40 [.val (.string (ByteArray.mk #[48])), .val (.string ((pvAt r1.2 3).str)), .val (.int .i64 ((pvAt r1.2 4).int)), .val (.bool ((pvAt r1.2 5).bool))]) fun x2 =>
bif (pvAt x2 0).bool then (some [.sl 2 ((pvAt r1.2 2).rows), .val (.string ((pvAt x2 1).str)), .val (.int .i64 ((pvAt x2 2).int)), .val (.bool ((pvAt x2 3).bool))]) else (bindO (iterN (lp29_6 C m) m [.val (.int .i64 ((pvAt r1.2 0).int)), .val (.bool true), .sl 2 ((pvAt r1.2 1).rows), .sl 2 ((pvAt r1.2 2).rows), .val (.string ((pvAt x2 1).str)), .val (.int .i64 ((pvAt x2 2).int)), .val (.bool ((pvAt x2 3).bool))]) fun r29 =>
some [.sl 2 ((pvAt r29.2 1).rows), .val (.string ((pvAt r29.2 2).str)), .val (.int .i64 ((pvAt r29.2 3).int)), .val (.bool ((pvAt r29.2 4).bool))])
theorem g29_eq (C : Orc) (m : Nat) (a0 : Int) (a1 : ByteArray) (a2 : Int) (a3 : Bool) : runFn E C m 29 Tryd.f29 [.val (.int .i64 a0), .val (.string a1), .val (.int .i64 a2), .val (.bool a3)] = g29 C m a0 a1 a2 a3 := by kernel_rfl
theorem w29 {m : Nat} {out : List PV} (a0 : Int) (a1 : ByteArray) (a2 : Int) (a3 : Bool) (h : g29 (W E) m a0 a1 a2 a3 = some out) : W E 29 [.val (.int .i64 a0), .val (.string a1), .val (.int .i64 a2), .val (.bool a3)] = some out := W_fn E (m := m) (fn := Tryd.f29) (by kernel_rfl) ((g29_eq ..).trans h)
noncomputable def lq114_5 (C : Orc) (m : Nat) (rec : List PV → Option (Nat × List PV)) (v0 : ByteArray) (v1 : Int) (v2 : Int) : Option (Nat × List PV) :=
bif decide (v2 < (v0.size : Int)) then (chk ((0 : Int) ≤ v2 ∧ v2 < (v0.size : Int)) <|
bif decide ((byteAt v0 (Int.toNat v2)) < 48) then (some (1, [.val (.int .i64 (-1))])) else (chk ((0 : Int) ≤ v2 ∧ v2 < (v0.size : Int)) <|
bif decide ((byteAt v0 (Int.toNat v2)) > 57) then (some (1, [.val (.int .i64 (-1))])) else (chk ((0 : Int) ≤ v2 ∧ v2 < (v0.size : Int)) <|
let y3 : Int := IntKind.wrap .u8 ((byteAt v0 (Int.toNat v2)) - 48); let y4 : Int := IntKind.wrap .i64 ((IntKind.wrap .i64 (10 * v1)) + (IntKind.wrap .i64 y3)); rec [.val (.string v0), .val (.int .i64 y4), .val (.int .i64 (IntKind.wrap .i64 (v2 + 1)))]))) else (some (0, [.val (.int .i64 v1)]))
noncomputable def lp114_5 (C : Orc) (m : Nat) (rec : List PV → Option (Nat × List PV)) (v : List PV) : Option (Nat × List PV) := lq114_5 C m rec ((pvAt v 0).str) ((pvAt v 1).int) ((pvAt v 2).int)
/-- loop.example/g01096/spec.l1Read -/
noncomputable def g114 (C : Orc) (m : Nat) (a0 : ByteArray) : Option (List PV) :=
bindO (bindO (C 77 [.val (.int .i64 (a0.size : Int)), .val (.int .i64 1), .val (.int .i64 6)]) fun x1 =>
bif !((pvAt x1 0).bool) then (some (1, [.val (.int .i64 (-1))])) else (chk ((0 : Int) ≤ 0 ∧ 0 < (a0.size : Int)) <|
bif (byteAt a0 (Int.toNat 0)) == 48 then (bif decide ((a0.size : Int) > 1) then (some (1, [.val (.int .i64 (-1))])) else (some (0, [.val (.string a0)]))) else (some (0, [.val (.string a0)])))) fun r2 =>
bif Nat.beq r2.1 0 then (bindO (iterN (lp114_5 C m) m [.val (.string ((pvAt r2.2 0).str)), .val (.int .i64 0), .val (.int .i64 0)]) fun r5 =>
bif Nat.beq r5.1 0 then (some [.val (.int .i64 ((pvAt r5.2 0).int))]) else (some [.val (.int .i64 ((pvAt r5.2 0).int))])) else (some [.val (.int .i64 ((pvAt r2.2 0).int))])
theorem g114_eq (C : Orc) (m : Nat) (a0 : ByteArray) : runFn E C m 114 Tryd.f114 [.val (.string a0)] = g114 C m a0 := by kernel_rfl
theorem w114 {m : Nat} {out : List PV} (a0 : ByteArray) (h : g114 (W E) m a0 = some out) : W E 114 [.val (.string a0)] = some out := W_fn E (m := m) (fn := Tryd.f114) (by kernel_rfl) ((g114_eq ..).trans h)
/-- loop.example/g01096/impl.degree -/
noncomputable def g34 (C : Orc) (m : Nat) (a0 : List (List PV)) : Option (List PV) :=
bindO (C 32 [.sl 2 a0]) fun x1 =>
bif (pvAt x1 0).bool then (some [.sl 2 []]) else (chk ((0 : Int) ≤ 0 ∧ 0 < (a0.length : Int)) <|
chk (canonP k26 (getL [] a0 (Int.toNat 0)) 0) <|
let y2 : List (List PV) := (getL .dft (getL [] a0 (Int.toNat 0)) 0).rows; some [.sl 2 y2])
theorem g34_eq (C : Orc) (m : Nat) (a0 : List (List PV)) : runFn E C m 34 Tryd.f34 [.sl 2 a0] = g34 C m a0 := by kernel_rfl
theorem w34 {m : Nat} {out : List PV} (a0 : List (List PV)) (h : g34 (W E) m a0 = some out) : W E 34 [.sl 2 a0] = some out := W_fn E (m := m) (fn := Tryd.f34) (by kernel_rfl) ((g34_eq ..).trans h)
end Go.Vm.D
