import Derived.Test.YtdelbjcfgedjpaaDoorE
namespace Go.Vm.D
open Go Go.Vm Go.Proofs
set_option linter.unusedVariables false
noncomputable def lq23_15 (C : Orc) (m : Nat) (rec : List PV → Option (Nat × List PV)) (v0 : Int) (v1 : List (List PV)) (v2 : List (List PV)) (v3 : List (List PV)) (v4 : Int) (v5 : Int) : Option (Nat × List PV) :=
bif decide (v0 > 0) then (bindO (C 49 [.sl 2 v2, .val (.int .i64 1)]) fun x12 =>
rec [.val (.int .i64 (IntKind.wrap .i64 (v0 - 1))), .sl 2 v1, .sl 2 ((pvAt x12 0).rows), .sl 1 v3, .val (.int .i64 v4), .val (.int .u64 v5)]) else (some (0, [.sl 2 v1, .sl 2 v2, .sl 1 v3, .val (.int .i64 v4), .val (.int .u64 v5)]))
noncomputable def lp23_15 (C : Orc) (m : Nat) (rec : List PV → Option (Nat × List PV)) (v : List PV) : Option (Nat × List PV) := lq23_15 C m rec ((pvAt v 0).int) ((pvAt v 1).rows) ((pvAt v 2).rows) ((pvAt v 3).rows) ((pvAt v 4).int) ((pvAt v 5).int)
noncomputable def lq23_6 (C : Orc) (m : Nat) (rec : List PV → Option (Nat × List PV)) (v0 : Int) (v1 : List (List PV)) (v2 : List (List PV)) (v3 : List (List PV)) (v4 : Int) (v5 : Int) : Option (Nat × List PV) :=
bif decide (v0 > 0) then (bindO (C 48 [.val (.int .i64 v0)]) fun x15 =>
bindO (C 50 [.sl 2 v2, .sl 2 ((pvAt x15 0).rows), .val (.int .i64 1000000)]) fun x16 =>
rec [.val (.int .i64 (IntKind.wrap .i64 (v0 - 1))), .sl 2 v1, .sl 2 ((pvAt x16 0).rows), .sl 1 v3, .val (.int .i64 v4), .val (.int .u64 v5)]) else (some (0, [.sl 2 v1, .sl 2 v2, .sl 1 v3, .val (.int .i64 v4), .val (.int .u64 v5)]))
noncomputable def lp23_6 (C : Orc) (m : Nat) (rec : List PV → Option (Nat × List PV)) (v : List PV) : Option (Nat × List PV) := lq23_6 C m rec ((pvAt v 0).int) ((pvAt v 1).rows) ((pvAt v 2).rows) ((pvAt v 3).rows) ((pvAt v 4).int) ((pvAt v 5).int)
/-- (*loop.example/g01096/spec.l1Cur).anyOrdinal -/
noncomputable def g23 (C : Orc) (m : Nat) (a0 : List (List PV)) (a1 : Int) (a2 : Int) : Option (List PV) :=
let y1 : List (List PV) := ([[.val (.int .i64 0)], [.val (.int .i64 1)], [.val (.int .i64 2)], [.val (.int .i64 3)]] : List (List PV)); bindO (C 46 [.sl 1 y1, .sl 1 a0, .val (.int .i64 a1), .val (.int .u64 a2)]) fun x2 =>
bindO (C 35 [.val (.int .i64 ((pvAt x2 0).int)), .sl 1 ((pvAt x2 1).rows), .val (.int .i64 ((pvAt x2 2).int)), .val (.int .u64 ((pvAt x2 3).int))]) fun x3 =>
bindO (C 36 [.val (.int .i64 20), .sl 1 ((pvAt x3 1).rows), .val (.int .i64 ((pvAt x3 2).int)), .val (.int .u64 ((pvAt x3 3).int))]) fun x4 =>
bif !((pvAt x4 0).bool) then (some [.sl 2 ((pvAt x3 0).rows), .sl 1 ((pvAt x4 1).rows), .val (.int .i64 ((pvAt x4 2).int)), .val (.int .u64 ((pvAt x4 3).int))]) else (bindO (C 47 [.val (.int .i64 4), .sl 1 ((pvAt x4 1).rows), .val (.int .i64 ((pvAt x4 2).int)), .val (.int .u64 ((pvAt x4 3).int))]) fun x5 =>
bif ((pvAt x5 0).int) == 0 then (bindO (C 48 [.val (.int .i64 7)]) fun x6 =>
let y7 : List (List PV) := ([[.sl 2 ((pvAt x6 0).rows), .val (.int .i64 1)]] : List (List PV)); chk (True ∧ (((pvAt x3 0).rows).length + y7.length) * 32 ≤ LIM ∧ ((pvAt x3 0).rows).length + y7.length ≤ LIM) <|
some [.sl 2 (((pvAt x3 0).rows) ++ y7), .sl 1 ((pvAt x5 1).rows), .val (.int .i64 ((pvAt x5 2).int)), .val (.int .u64 ((pvAt x5 3).int))]) else (bif ((pvAt x5 0).int) == 1 then (let y8 : List (List PV) := ([[.val (.int .i64 0)], [.val (.int .i64 (-1))], [.val (.int .i64 1000001)], [.val (.int .i64 1000000)]] : List (List PV)); bindO (C 46 [.sl 1 y8, .sl 1 ((pvAt x5 1).rows), .val (.int .i64 ((pvAt x5 2).int)), .val (.int .u64 ((pvAt x5 3).int))]) fun x9 =>
let y10 : List (List PV) := ([[.sl 2 [], .val (.int .i64 ((pvAt x9 0).int))]] : List (List PV)); chk (True ∧ (((pvAt x3 0).rows).length + y10.length) * 32 ≤ LIM ∧ ((pvAt x3 0).rows).length + y10.length ≤ LIM) <|
some [.sl 2 (((pvAt x3 0).rows) ++ y10), .sl 1 ((pvAt x9 1).rows), .val (.int .i64 ((pvAt x9 2).int)), .val (.int .u64 ((pvAt x9 3).int))]) else (bif ((pvAt x5 0).int) == 2 then (bindO (C 47 [.val (.int .i64 9), .sl 1 ((pvAt x5 1).rows), .val (.int .i64 ((pvAt x5 2).int)), .val (.int .u64 ((pvAt x5 3).int))]) fun x11 =>
bindO (iterN (lp23_15 C m) m [.val (.int .i64 ((pvAt x11 0).int)), .sl 2 [], .sl 2 ((pvAt x3 0).rows), .sl 1 ((pvAt x11 1).rows), .val (.int .i64 ((pvAt x11 2).int)), .val (.int .u64 ((pvAt x11 3).int))]) fun r13 =>
some [.sl 2 ((pvAt r13.2 1).rows), .sl 1 ((pvAt r13.2 2).rows), .val (.int .i64 ((pvAt r13.2 3).int)), .val (.int .u64 ((pvAt r13.2 4).int))]) else (bindO (C 47 [.val (.int .i64 40), .sl 1 ((pvAt x5 1).rows), .val (.int .i64 ((pvAt x5 2).int)), .val (.int .u64 ((pvAt x5 3).int))]) fun x14 =>
bindO (iterN (lp23_6 C m) m [.val (.int .i64 ((pvAt x14 0).int)), .sl 2 [], .sl 2 ((pvAt x3 0).rows), .sl 1 ((pvAt x14 1).rows), .val (.int .i64 ((pvAt x14 2).int)), .val (.int .u64 ((pvAt x14 3).int))]) fun r17 =>
some [.sl 2 ((pvAt r17.2 1).rows), .sl 1 ((pvAt r17.2 2).rows), .val (.int .i64 ((pvAt r17.2 3).int)), .val (.int .u64 ((pvAt r17.2 4).int))]))))
theorem g23_eq (C : Orc) (m : Nat) (a0 : List (List PV)) (a1 : Int) (a2 : Int) : runFn E C m 23 Tryd.f23 [.sl 1 a0, .val (.int .i64 a1), .val (.int .u64 a2)] = g23 C m a0 a1 a2 := by kernel_rfl
theorem w23 {m : Nat} {out : List PV} (a0 : List (List PV)) (a1 : Int) (a2 : Int) (h : g23 (W E) m a0 a1 a2 = some out) : W E 23 [.sl 1 a0, .val (.int .i64 a1), .val (.int .u64 a2)] = some out := W_fn E (m := m) (fn := Tryd.f23) (by kernel_rfl) ((g23_eq ..).trans h)
noncomputable def lq58_2 (C : Orc) (m : Nat) (rec : List PV → Option (Nat × List PV)) (v0 : List (List PV)) (v1 : Int) (v2 : Int) (v3 : List (List PV)) (v4 : List (List PV)) : Option (Nat × List PV) :=
bif decide (v2 < v1) then (chk ((0 : Int) ≤ v2 ∧ v2 < (v0.length : Int)) <|
chk (canonP k61 (getL [] v0 (Int.toNat v2)) 0) <|
let y1 : List (List PV) := (getL .dft (getL [] v0 (Int.toNat v2)) 0).rows; let y2 : Int := (getL .dft (getL [] v0 (Int.toNat v2)) 1).int; bif v2 == (v4.length : Int) then (some (1, [.val (.int .i64 1)])) else (chk ((0 : Int) ≤ v2 ∧ v2 < (v4.length : Int)) <|
chk (canonP k26 (getL [] v4 (Int.toNat v2)) 0) <|
let y3 : List (List PV) := (getL .dft (getL [] v4 (Int.toNat v2)) 0).rows; bindO (C 58 [.sl 2 y1, .sl 2 y3]) fun x4 =>
bif ((pvAt x4 0).int) != 0 then (some (1, [.val (.int .i64 ((pvAt x4 0).int))])) else (chk ((0 : Int) ≤ v2 ∧ v2 < (v4.length : Int)) <|
chk (canonP k3 (dropL 1 (getL [] v4 (Int.toNat v2))) 0) <|
let y5 : Int := (getL .dft (dropL 1 (getL [] v4 (Int.toNat v2))) 0).int; bif y2 != y5 then (chk ((0 : Int) ≤ v2 ∧ v2 < (v4.length : Int)) <|
chk (canonP k3 (dropL 1 (getL [] v4 (Int.toNat v2))) 0) <|
let y6 : Int := (getL .dft (dropL 1 (getL [] v4 (Int.toNat v2))) 0).int; bindO (C 78 [.val (.int .i64 (IntKind.wrap .i64 (y2 - y6)))]) fun x7 =>
some (1, [.val (.int .i64 ((pvAt x7 0).int))])) else (rec [.sl 2 v0, .val (.int .i64 v1), .val (.int .i64 (IntKind.wrap .i64 (v2 + 1))), .sl 2 v3, .sl 2 v4])))) else (some (0, [.sl 2 v3, .sl 2 v4]))
noncomputable def lp58_2 (C : Orc) (m : Nat) (rec : List PV → Option (Nat × List PV)) (v : List PV) : Option (Nat × List PV) := lq58_2 C m rec ((pvAt v 0).rows) ((pvAt v 1).int) ((pvAt v 2).int) ((pvAt v 3).rows) ((pvAt v 4).rows)
/-- loop.example/g01096/spec.odCmp -/
noncomputable def g58 (C : Orc) (m : Nat) (a0 : List (List PV)) (a1 : List (List PV)) : Option (List PV) :=
bindO (iterN (lp58_2 C m) m [.sl 2 a0, .val (.int .i64 (a0.length : Int)), .val (.int .i64 0), .sl 2 a0, .sl 2 a1]) fun r8 =>
bif Nat.beq r8.1 0 then (let y9 : Bool := decide ((((pvAt r8.2 1).rows).length : Int) > (((pvAt r8.2 0).rows).length : Int)); bif y9 then (some [.val (.int .i64 (-1))]) else (some [.val (.int .i64 0)])) else (some [.val (.int .i64 ((pvAt r8.2 0).int))])
theorem g58_eq (C : Orc) (m : Nat) (a0 : List (List PV)) (a1 : List (List PV)) : runFn E C m 58 Tryd.f58 [.sl 2 a0, .sl 2 a1] = g58 C m a0 a1 := by kernel_rfl
theorem w58 {m : Nat} {out : List PV} (a0 : List (List PV)) (a1 : List (List PV)) (h : g58 (W E) m a0 a1 = some out) : W E 58 [.sl 2 a0, .sl 2 a1] = some out := W_fn E (m := m) (fn := Tryd.f58) (by kernel_rfl) ((g58_eq ..).trans h)
noncomputable def lq100000_2 (C : Orc) (m : Nat) (rec : List PV → Option (Nat × List PV)) (v0 : List (List PV)) (v1 : List (List PV)) (v2 : List (List PV)) (v3 : Int) (v4 : Int) : Option (Nat × List PV) :=
bif decide (v4 < v3) then (chk ((0 : Int) ≤ v4 ∧ v4 < (v2.length : Int)) <|
chk (canonP k61 (getL [] v2 (Int.toNat v4)) 0) <|
let y1 : List (List PV) := (getL .dft (getL [] v2 (Int.toNat v4)) 0).rows; let y2 : Int := (getL .dft (getL [] v2 (Int.toNat v4)) 1).int; bif decide (v4 ≥ (v1.length : Int)) then (some (1, [.val (.int .i64 1)])) else (chk ((0 : Int) ≤ v4 ∧ v4 < (v1.length : Int)) <|
chk (canonP k61 (getL [] v1 (Int.toNat v4)) 0) <|
let y3 : List (List PV) := (getL .dft (getL [] v1 (Int.toNat v4)) 0).rows; let y4 : Int := (getL .dft (getL [] v1 (Int.toNat v4)) 1).int; bindO (C 73 [.sl 2 y1, .val (.int .i64 y2), .sl 2 y3, .val (.int .i64 y4)]) fun x5 =>
bif ((pvAt x5 0).int) != 0 then (some (1, [.val (.int .i64 ((pvAt x5 0).int))])) else (rec [.sl 2 v0, .sl 2 v1, .sl 2 v2, .val (.int .i64 v3), .val (.int .i64 (IntKind.wrap .i64 (v4 + 1)))]))) else (some (0, [.sl 2 v0, .sl 2 v1]))
noncomputable def lp100000_2 (C : Orc) (m : Nat) (rec : List PV → Option (Nat × List PV)) (v : List PV) : Option (Nat × List PV) := lq100000_2 C m rec ((pvAt v 0).rows) ((pvAt v 1).rows) ((pvAt v 2).rows) ((pvAt v 3).int) ((pvAt v 4).int)
/-- slices.CompareFunc[[]loop.example/g01096/impl.OrdinalTerm,[]loop.example/g01096/impl.OrdinalTerm,loop.example/g01096/impl.OrdinalTerm,loop.example/g01096/impl.OrdinalTerm] -/
noncomputable def g100000 (C : Orc) (m : Nat) (a0 : List (List PV)) (a1 : List (List PV)) : Option (List PV) :=
bindO (iterN (lp100000_2 C m) m [.sl 2 a0, .sl 2 a1, .sl 2 a0, .val (.int .i64 (a0.length : Int)), .val (.int .i64 0)]) fun r6 =>
bif Nat.beq r6.1 0 then (let y7 : Bool := decide ((((pvAt r6.2 0).rows).length : Int) < (((pvAt r6.2 1).rows).length : Int)); bif y7 then (some [.val (.int .i64 (-1))]) else (some [.val (.int .i64 0)])) else (some [.val (.int .i64 ((pvAt r6.2 0).int))])
theorem g100000_eq (C : Orc) (m : Nat) (a0 : List (List PV)) (a1 : List (List PV)) : runFn E C m 100000 Tryd.f72 [.sl 2 a0, .sl 2 a1] = g100000 C m a0 a1 := by kernel_rfl
theorem w100000 {m : Nat} {out : List PV} (a0 : List (List PV)) (a1 : List (List PV)) (h : g100000 (W E) m a0 a1 = some out) : W E 100000 [.sl 2 a0, .sl 2 a1] = some out := W_fn E (m := m) (fn := Tryd.f72) (by kernel_rfl) ((g100000_eq ..).trans h)
/-- loop.example/g01096/spec.l1Sign -/
noncomputable def g78 (C : Orc) (m : Nat) (a0 : Int) : Option (List PV) :=
bif decide (a0 > 0) then (some [.val (.int .i64 1)]) else (bif decide (a0 < 0) then (some [.val (.int .i64 (-1))]) else (some [.val (.int .i64 0)]))
theorem g78_eq (C : Orc) (m : Nat) (a0 : Int) : runFn E C m 78 Tryd.f78 [.val (.int .i64 a0)] = g78 C m a0 := by kernel_rfl
theorem w78 {m : Nat} {out : List PV} (a0 : Int) (h : g78 (W E) m a0 = some out) : W E 78 [.val (.int .i64 a0)] = some out := W_fn E (m := m) (fn := Tryd.f78) (by kernel_rfl) ((g78_eq ..).trans h)
noncomputable def lq54_3 (C : Orc) (m : Nat) (rec : List PV → Option (Nat × List PV)) (v0 : Int) (v1 : Int) (v2 : List (List PV)) (v3 : Int) (v4 : Int) : Option (Nat × List PV) :=
bif decide (v4 < v3) then (chk ((0 : Int) ≤ v4 ∧ v4 < (v2.length : Int)) <|
chk (canonP k61 (getL [] v2 (Int.toNat v4)) 0) <|
let y1 : List (List PV) := (getL .dft (getL [] v2 (Int.toNat v4)) 0).rows; let y2 : Int := (getL .dft (getL [] v2 (Int.toNat v4)) 1).int; bif decide (v1 < 0) then (some (1, [.val (.int .i64 (-1))])) else (bif v0 == 0 then (some (1, [.val (.int .i64 (-1))])) else (bindO (C 54 [.sl 2 y1, .val (.int .i64 (IntKind.wrap .i64 (v0 - 1))), .val (.int .i64 (IntKind.wrap .i64 (v1 - 1)))]) fun x3 =>
rec [.val (.int .i64 v0), .val (.int .i64 ((pvAt x3 0).int)), .sl 2 v2, .val (.int .i64 v3), .val (.int .i64 (IntKind.wrap .i64 (v4 + 1)))]))) else (some (0, [.val (.int .i64 v1)]))
noncomputable def lp54_3 (C : Orc) (m : Nat) (rec : List PV → Option (Nat × List PV)) (v : List PV) : Option (Nat × List PV) := lq54_3 C m rec ((pvAt v 0).int) ((pvAt v 1).int) ((pvAt v 2).rows) ((pvAt v 3).int) ((pvAt v 4).int)
/-- loop.example/g01096/spec.odLeft -/
noncomputable def g54 (C : Orc) (m : Nat) (a0 : List (List PV)) (a1 : Int) (a2 : Int) : Option (List PV) :=
bindO (iterN (lp54_3 C m) m [.val (.int .i64 a1), .val (.int .i64 (IntKind.wrap .i64 (a2 - 1))), .sl 2 a0, .val (.int .i64 (a0.length : Int)), .val (.int .i64 0)]) fun r4 =>
bif Nat.beq r4.1 0 then (some [.val (.int .i64 ((pvAt r4.2 0).int))]) else (some [.val (.int .i64 ((pvAt r4.2 0).int))])
theorem g54_eq (C : Orc) (m : Nat) (a0 : List (List PV)) (a1 : Int) (a2 : Int) : runFn E C m 54 Tryd.f54 [.sl 2 a0, .val (.int .i64 a1), .val (.int .i64 a2)] = g54 C m a0 a1 a2 := by kernel_rfl
theorem w54 {m : Nat} {out : List PV} (a0 : List (List PV)) (a1 : Int) (a2 : Int) (h : g54 (W E) m a0 a1 a2 = some out) : W E 54 [.sl 2 a0, .val (.int .i64 a1), .val (.int .i64 a2)] = some out := W_fn E (m := m) (fn := Tryd.f54) (by kernel_rfl) ((g54_eq ..).trans h)
/-- loop.example/g01096/spec.l1Num -/
noncomputable def g57 (C : Orc) (m : Nat) (a0 : Int) : Option (List PV) :=
bif decide (a0 < 10) then (let y1 : Int := IntKind.wrap .u8 (IntKind.wrap .i64 (48 + a0)); chk (ByteRows ([[.val (.int .u8 y1)]] : List (List PV))) <|
let y2 : ByteArray := strOf ([[.val (.int .u8 y1)]] : List (List PV)); some [.val (.string y2)]) else (chk (10 ≠ (0 : Int)) <|
bindO (C 57 [.val (.int .i64 (IntKind.wrap .i64 (a0.tdiv 10)))]) fun x3 =>
chk (10 ≠ (0 : Int)) <|
let y4 : Int := IntKind.wrap .u8 (IntKind.wrap .i64 (48 + (a0.tmod 10))); chk (ByteRows ([[.val (.int .u8 y4)]] : List (List PV))) <|
let y5 : ByteArray := strOf ([[.val (.int .u8 y4)]] : List (List PV)); chk (((pvAt x3 0).str).size + y5.size ≤ 9223372036854775807) <|
some [.val (.string (((pvAt x3 0).str) ++ y5))])
theorem g57_eq (C : Orc) (m : Nat) (a0 : Int) : runFn E C m 57 Tryd.f57 [.val (.int .i64 a0)] = g57 C m a0 := by kernel_rfl
theorem w57 {m : Nat} {out : List PV} (a0 : Int) (h : g57 (W E) m a0 = some out) : W E 57 [.val (.int .i64 a0)] = some out := W_fn E (m := m) (fn := Tryd.f57) (by kernel_rfl) ((g57_eq ..).trans h)
/-- loop.example/g01096/impl.ParseOrdinal -/
noncomputable def g12 (C : Orc) (m : Nat) (a0 : ByteArray) : Option (List PV) :=
bindO (C 29 [.val (.int .i64 0), .val (.string a0), .val (.int .i64 0), .val (.bool false)]) fun x1 =>
bif (pvAt x1 3).bool then (some [.sl 2 [], .val (.bool false)]) else (bif ((pvAt x1 2).int) != (a0.size : Int) then (some [.sl 2 [], .val (.bool false)]) else (bindO (C 11 [.sl 2 ((pvAt x1 0).rows)]) fun x2 =>
bif !((pvAt x2 0).bool) then (some [.sl 2 [], .val (.bool false)]) else (bindO (C 24 [.sl 2 ((pvAt x1 0).rows), .val (.string (ByteArray.mk #[119]))]) fun x3 =>
bif !(((pvAt x3 0).str).toList == a0.toList) then (some [.sl 2 [], .val (.bool false)]) else (some [.sl 2 ((pvAt x1 0).rows), .val (.bool true)]))))
theorem g12_eq (C : Orc) (m : Nat) (a0 : ByteArray) : runFn E C m 12 Tryd.f12 [.val (.string a0)] = g12 C m a0 := by kernel_rfl
theorem w12 {m : Nat} {out : List PV} (a0 : ByteArray) (h : g12 (W E) m a0 = some out) : W E 12 [.val (.string a0)] = some out := W_fn E (m := m) (fn := Tryd.f12) (by kernel_rfl) ((g12_eq ..).trans h)
noncomputable def lq37_2 (C : Orc) (m : Nat) (rec : List PV → Option (Nat × List PV)) (v0 : ByteArray) (v1 : ByteArray) (v2 : Int) (v3 : List (List PV)) (v4 : Int) (v5 : Int) : Option (Nat × List PV) :=
bif decide (v2 > 0) then (bif decide ((v0.size : Int) > 0) then (bindO (C 47 [.val (.int .i64 (v0.size : Int)), .sl 1 v3, .val (.int .i64 v4), .val (.int .u64 v5)]) fun x2 =>
bindO (C 47 [.val (.int .i64 (v1.size : Int)), .sl 1 ((pvAt x2 1).rows), .val (.int .i64 ((pvAt x2 2).int)), .val (.int .u64 ((pvAt x2 3).int))]) fun x3 =>
chk ((0 : Int) ≤ ((pvAt x3 0).int) ∧ ((pvAt x3 0).int) < (v1.size : Int)) <|
let y4 : List (List PV) := ([[.val (.int .u8 (byteAt v1 (Int.toNat ((pvAt x3 0).int))))]] : List (List PV)); chk (ByteRows y4) <|
bindO (C 47 [.val (.int .i64 3), .sl 1 ((pvAt x3 1).rows), .val (.int .i64 ((pvAt x3 2).int)), .val (.int .u64 ((pvAt x3 3).int))]) fun x5 =>
bif ((pvAt x5 0).int) == 0 then (chk (True ∧ (0 : Int) ≤ ((pvAt x2 0).int) ∧ 0 ≤ (Int.toNat ((pvAt x2 0).int)) ∧ (Int.toNat ((pvAt x2 0).int)) ≤ v0.size) <|
chk ((v0.extract 0 (Int.toNat ((pvAt x2 0).int))).size + (strOf y4).size ≤ 9223372036854775807) <|
let y6 : ByteArray := (v0.extract 0 (Int.toNat ((pvAt x2 0).int))) ++ (strOf y4); chk ((0 : Int) ≤ ((pvAt x2 0).int) ∧ True ∧ (Int.toNat ((pvAt x2 0).int)) ≤ v0.size ∧ v0.size ≤ v0.size) <|
let y7 : ByteArray := v0.extract (Int.toNat ((pvAt x2 0).int)) v0.size; chk (y6.size + y7.size ≤ 9223372036854775807) <|
rec [.val (.string (y6 ++ y7)), .val (.string v1), .val (.int .i64 (IntKind.wrap .i64 (v2 - 1))), .sl 1 ((pvAt x5 1).rows), .val (.int .i64 ((pvAt x5 2).int)), .val (.int .u64 ((pvAt x5 3).int))]) else (bif ((pvAt x5 0).int) == 1 then (chk (True ∧ (0 : Int) ≤ ((pvAt x2 0).int) ∧ 0 ≤ (Int.toNat ((pvAt x2 0).int)) ∧ (Int.toNat ((pvAt x2 0).int)) ≤ v0.size) <|
chk ((v0.extract 0 (Int.toNat ((pvAt x2 0).int))).size + (strOf y4).size ≤ 9223372036854775807) <|
let y8 : ByteArray := (v0.extract 0 (Int.toNat ((pvAt x2 0).int))) ++ (strOf y4); chk ((0 : Int) ≤ (IntKind.wrap .i64 (((pvAt x2 0).int) + 1)) ∧ True ∧ (Int.toNat (IntKind.wrap .i64 (((pvAt x2 0).int) + 1))) ≤ v0.size ∧ v0.size ≤ v0.size) <|
let y9 : ByteArray := v0.extract (Int.toNat (IntKind.wrap .i64 (((pvAt x2 0).int) + 1))) v0.size; chk (y8.size + y9.size ≤ 9223372036854775807) <|
rec [.val (.string (y8 ++ y9)), .val (.string v1), .val (.int .i64 (IntKind.wrap .i64 (v2 - 1))), .sl 1 ((pvAt x5 1).rows), .val (.int .i64 ((pvAt x5 2).int)), .val (.int .u64 ((pvAt x5 3).int))]) else (chk (True ∧ (0 : Int) ≤ ((pvAt x2 0).int) ∧ 0 ≤ (Int.toNat ((pvAt x2 0).int)) ∧ (Int.toNat ((pvAt x2 0).int)) ≤ v0.size) <|
chk ((0 : Int) ≤ (IntKind.wrap .i64 (((pvAt x2 0).int) + 1)) ∧ True ∧ (Int.toNat (IntKind.wrap .i64 (((pvAt x2 0).int) + 1))) ≤ v0.size ∧ v0.size ≤ v0.size) <|
let y10 : ByteArray := v0.extract (Int.toNat (IntKind.wrap .i64 (((pvAt x2 0).int) + 1))) v0.size; chk ((v0.extract 0 (Int.toNat ((pvAt x2 0).int))).size + y10.size ≤ 9223372036854775807) <|
let y11 : ByteArray := (v0.extract 0 (Int.toNat ((pvAt x2 0).int))) ++ y10; rec [.val (.string y11), .val (.string v1), .val (.int .i64 (IntKind.wrap .i64 (v2 - 1))), .sl 1 ((pvAt x5 1).rows), .val (.int .i64 ((pvAt x5 2).int)), .val (.int .u64 ((pvAt x5 3).int))]))) else (some (0, [.val (.string v0), .sl 1 v3, .val (.int .i64 v4), .val (.int .u64 v5)]))) else (some (0, [.val (.string v0), .sl 1 v3, .val (.int .i64 v4), .val (.int .u64 v5)]))
noncomputable def lp37_2 (C : Orc) (m : Nat) (rec : List PV → Option (Nat × List PV)) (v : List PV) : Option (Nat × List PV) := lq37_2 C m rec ((pvAt v 0).str) ((pvAt v 1).str) ((pvAt v 2).int) ((pvAt v 3).rows) ((pvAt v 4).int) ((pvAt v 5).int)
/-- (*loop.example/g01096/spec.l1Cur).spoilt -/
noncomputable def g37 (C : Orc) (m : Nat) (a0 : ByteArray) (a1 : ByteArray) (a2 : List (List PV)) (a3 : Int) (a4 : Int) : Option (List PV) :=
bindO (C 47 [.val (.int .i64 2), .sl 1 a2, .val (.int .i64 a3), .val (.int .u64 a4)]) fun x1 =>
bindO (iterN (lp37_2 C m) m [.val (.string a0), .val (.string a1), .val (.int .i64 (IntKind.wrap .i64 (1 + ((pvAt x1 0).int)))), .sl 1 ((pvAt x1 1).rows), .val (.int .i64 ((pvAt x1 2).int)), .val (.int .u64 ((pvAt x1 3).int))]) fun r12 =>
some [.val (.string ((pvAt r12.2 0).str)), .sl 1 ((pvAt r12.2 1).rows), .val (.int .i64 ((pvAt r12.2 2).int)), .val (.int .u64 ((pvAt r12.2 3).int))]
theorem g37_eq (C : Orc) (m : Nat) (a0 : ByteArray) (a1 : ByteArray) (a2 : List (List PV)) (a3 : Int) (a4 : Int) : runFn E C m 37 Tryd.f37 [.val (.string a0), .val (.string a1), .sl 1 a2, .val (.int .i64 a3), .val (.int .u64 a4)] = g37 C m a0 a1 a2 a3 a4 := by kernel_rfl
theorem w37 {m : Nat} {out : List PV} (a0 : ByteArray) (a1 : ByteArray) (a2 : List (List PV)) (a3 : Int) (a4 : Int) (h : g37 (W E) m a0 a1 a2 a3 a4 = some out) : W E 37 [.val (.string a0), .val (.string a1), .sl 1 a2, .val (.int .i64 a3), .val (.int .u64 a4)] = some out := W_fn E (m := m) (fn := Tryd.f37) (by kernel_rfl) ((g37_eq ..).trans h)
/-- loop.example/g01096/spec.odParse -/
noncomputable def g38 (C : Orc) (m : Nat) (a0 : ByteArray) : Option (List PV) :=
bindO (C 61 [.val (.int .i64 6), .val (.string a0), .val (.int .i64 0), .val (.bool false)]) fun x1 =>
bif (pvAt x1 3).bool then (some [.sl 2 [], .val (.bool false)]) else (bif ((pvAt x1 2).int) != (a0.size : Int) then (some [.sl 2 [], .val (.bool false)]) else (bindO (C 25 [.sl 2 ((pvAt x1 0).rows)]) fun x2 =>
bif !((pvAt x2 0).bool) then (some [.sl 2 [], .val (.bool false)]) else (bindO (C 26 [.sl 2 ((pvAt x1 0).rows)]) fun x3 =>
bif !(((pvAt x3 0).str).toList == a0.toList) then (some [.sl 2 [], .val (.bool false)]) else (some [.sl 2 ((pvAt x1 0).rows), .val (.bool true)]))))
theorem g38_eq (C : Orc) (m : Nat) (a0 : ByteArray) : runFn E C m 38 Tryd.f38 [.val (.string a0)] = g38 C m a0 := by kernel_rfl
theorem w38 {m : Nat} {out : List PV} (a0 : ByteArray) (h : g38 (W E) m a0 = some out) : W E 38 [.val (.string a0)] = some out := W_fn E (m := m) (fn := Tryd.f38) (by kernel_rfl) ((g38_eq ..).trans h)
/-- (*loop.example/g01096/spec.odReader).has -/
noncomputable def g62 (C : Orc) (m : Nat) (a0 : Int) (a1 : ByteArray) (a2 : Int) (a3 : Bool) : Option (List PV) :=
bif decide (a2 < (a1.size : Int)) then (chk ((0 : Int) ≤ a2 ∧ a2 < (a1.size : Int)) <|
bif (byteAt a1 (Int.toNat a2)) == a0 then (some [.val (.bool true), .val (.string a1), .val (.int .i64 (IntKind.wrap .i64 (a2 + 1))), .val (.bool a3)]) else (some [.val (.bool false), .val (.string a1), .val (.int .i64 a2), .val (.bool a3)])) else (some [.val (.bool false), .val (.string a1), .val (.int .i64 a2), .val (.bool a3)])
theorem g62_eq (C : Orc) (m : Nat) (a0 : Int) (a1 : ByteArray) (a2 : Int) (a3 : Bool) : runFn E C m 62 Tryd.f62 [.val (.int .u8 a0), .val (.string a1), .val (.int .i64 a2), .val (.bool a3)] = g62 C m a0 a1 a2 a3 := by kernel_rfl
theorem w62 {m : Nat} {out : List PV} (a0 : Int) (a1 : ByteArray) (a2 : Int) (a3 : Bool) (h : g62 (W E) m a0 a1 a2 a3 = some out) : W E 62 [.val (.int .u8 a0), .val (.string a1), .val (.int .i64 a2), .val (.bool a3)] = some out := W_fn E (m := m) (fn := Tryd.f62) (by kernel_rfl) ((g62_eq ..).trans h)
noncomputable def lq91_2 (C : Orc) (m : Nat) (rec : List PV → Option (Nat × List PV)) (v0 : Int) (v1 : ByteArray) (v2 : Int) (v3 : Bool) : Option (Nat × List PV) :=
bif decide (v2 < (v1.size : Int)) then (chk ((0 : Int) ≤ v2 ∧ v2 < (v1.size : Int)) <|
bif decide ((byteAt v1 (Int.toNat v2)) ≥ 48) then (chk ((0 : Int) ≤ v2 ∧ v2 < (v1.size : Int)) <|
bif decide ((byteAt v1 (Int.toNat v2)) ≤ 57) then (rec [.val (.int .i64 v0), .val (.string v1), .val (.int .i64 (IntKind.wrap .i64 (v2 + 1))), .val (.bool v3)]) else (some (0, [.val (.int .i64 v0), .val (.string v1), .val (.int .i64 v2), .val (.bool v3)]))) else (some (0, [.val (.int .i64 v0), .val (.string v1), .val (.int .i64 v2), .val (.bool v3)]))) else (some (0, [.val (.int .i64 v0), .val (.string v1), .val (.int .i64 v2), .val (.bool v3)]))
noncomputable def lp91_2 (C : Orc) (m : Nat) (rec : List PV → Option (Nat × List PV)) (v : List PV) : Option (Nat × List PV) := lq91_2 C m rec ((pvAt v 0).int) ((pvAt v 1).str) ((pvAt v 2).int) ((pvAt v 3).bool)
/-- (*loop.example/g01096/spec.odReader).number -/
noncomputable def g91 (C : Orc) (m : Nat) (a0 : ByteArray) (a1 : Int) (a2 : Bool) : Option (List PV) :=
bindO (iterN (lp91_2 C m) m [.val (.int .i64 a1), .val (.string a0), .val (.int .i64 a1), .val (.bool a2)]) fun r1 =>
chk ((0 : Int) ≤ ((pvAt r1.2 0).int) ∧ (0 : Int) ≤ ((pvAt r1.2 2).int) ∧ (Int.toNat ((pvAt r1.2 0).int)) ≤ (Int.toNat ((pvAt r1.2 2).int)) ∧ (Int.toNat ((pvAt r1.2 2).int)) ≤ ((pvAt r1.2 1).str).size) <|
let y2 : ByteArray := ((pvAt r1.2 1).str).extract (Int.toNat ((pvAt r1.2 0).int)) (Int.toNat ((pvAt r1.2 2).int)); bindO (C 104 [.val (.string y2)]) fun x3 =>
bif (pvAt r1.2 3).bool then (some [.val (.int .i64 ((pvAt x3 0).int)), .val (.string ((pvAt r1.2 1).str)), .val (.int .i64 ((pvAt r1.2 2).int)), .val (.bool true)]) else (some [.val (.int .i64 ((pvAt x3 0).int)), .val (.string ((pvAt r1.2 1).str)), .val (.int .i64 ((pvAt r1.2 2).int)), .val (.bool (decide (((pvAt x3 0).int) < 0)))])
theorem g91_eq (C : Orc) (m : Nat) (a0 : ByteArray) (a1 : Int) (a2 : Bool) : runFn E C m 91 Tryd.f91 [.val (.string a0), .val (.int .i64 a1), .val (.bool a2)] = g91 C m a0 a1 a2 := by kernel_rfl
theorem w91 {m : Nat} {out : List PV} (a0 : ByteArray) (a1 : Int) (a2 : Bool) (h : g91 (W E) m a0 a1 a2 = some out) : W E 91 [.val (.string a0), .val (.int .i64 a1), .val (.bool a2)] = some out := W_fn E (m := m) (fn := Tryd.f91) (by kernel_rfl) ((g91_eq ..).trans h)
noncomputable def lq33_3 (C : Orc) (m : Nat) (rec : List PV → Option (Nat × List PV)) (v0 : List (List PV)) (v1 : Int) (v2 : Int) (v3 : List (List PV)) (v4 : List (List PV)) : Option (Nat × List PV) :=
bif decide (v2 < v1) then (chk ((0 : Int) ≤ v2 ∧ v2 < (v0.length : Int)) <|
chk (canonP k61 (getL [] v0 (Int.toNat v2)) 0) <|
let y1 : List (List PV) := (getL .dft (getL [] v0 (Int.toNat v2)) 0).rows; let y2 : Int := (getL .dft (getL [] v0 (Int.toNat v2)) 1).int; bindO (C 33 [.sl 2 y1]) fun x3 =>
let y4 : List (List PV) := ([[.sl 2 ((pvAt x3 0).rows), .val (.int .i64 y2)]] : List (List PV)); chk (True ∧ (v4.length + y4.length) * 32 ≤ LIM ∧ v4.length + y4.length ≤ LIM) <|
rec [.sl 2 v0, .val (.int .i64 v1), .val (.int .i64 (IntKind.wrap .i64 (v2 + 1))), .sl 2 v3, .sl 2 (v4 ++ y4)]) else (some (0, [.sl 2 v3, .sl 2 v4]))
noncomputable def lp33_3 (C : Orc) (m : Nat) (rec : List PV → Option (Nat × List PV)) (v : List PV) : Option (Nat × List PV) := lq33_3 C m rec ((pvAt v 0).rows) ((pvAt v 1).int) ((pvAt v 2).int) ((pvAt v 3).rows) ((pvAt v 4).rows)
/-- loop.example/g01096/impl.cloneOrdinal -/
noncomputable def g33 (C : Orc) (m : Nat) (a0 : List (List PV)) : Option (List PV) :=
bindO (iterN (lp33_3 C m) m [.sl 2 a0, .val (.int .i64 (a0.length : Int)), .val (.int .i64 0), .sl 2 [], .sl 2 []]) fun r5 =>
some [.sl 2 ((pvAt r5.2 1).rows)]
theorem g33_eq (C : Orc) (m : Nat) (a0 : List (List PV)) : runFn E C m 33 Tryd.f33 [.sl 2 a0] = g33 C m a0 := by kernel_rfl
theorem w33 {m : Nat} {out : List PV} (a0 : List (List PV)) (h : g33 (W E) m a0 = some out) : W E 33 [.sl 2 a0] = some out := W_fn E (m := m) (fn := Tryd.f33) (by kernel_rfl) ((g33_eq ..).trans h)
end Go.Vm.D
