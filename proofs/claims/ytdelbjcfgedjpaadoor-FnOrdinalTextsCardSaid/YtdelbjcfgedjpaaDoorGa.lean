import Derived.Test.YtdelbjcfgedjpaaDoorE
namespace Go.Vm.D
open Go Go.Vm Go.Proofs
set_option linter.unusedVariables false
/-- loop.example/g01096/laws.FnOrdinalTexts -/
noncomputable def g3 (C : Orc) (m : Nat) (a0 : List (List PV)) (a1 : List (List PV)) : Option (List PV) :=
bindO (C 5 [.sl 1 a0, .sl 1 a1]) fun x1 =>
bif (pvAt x1 0).bool then (some [.val (.bool true)]) else (bindO (C 6 [.sl 1 a0]) fun x2 =>
bindO (C 7 [.sl 2 ((pvAt x2 0).rows)]) fun x3 =>
bindO (C 8 [.sl 2 ((pvAt x2 0).rows)]) fun x4 =>
bindO (C 9 [.sl 2 ((pvAt x2 0).rows)]) fun x5 =>
bindO (C 10 [.sl 2 ((pvAt x2 0).rows)]) fun x6 =>
bif !(((pvAt x3 1).bool) == ((pvAt x4 1).bool)) then (some [.val (.bool false)]) else (let y7 : Bool := !(((pvAt x3 0).str).toList == ((pvAt x4 0).str).toList); bif y7 then (some [.val (.bool false)]) else (bif !(((pvAt x5 1).bool) == ((pvAt x6 1).bool)) then (some [.val (.bool false)]) else (bif ((pvAt x5 0).int) != ((pvAt x6 0).int) then (some [.val (.bool false)]) else (bindO (C 11 [.sl 2 ((pvAt x2 0).rows)]) fun x8 =>
bif !(((pvAt x3 1).bool) == ((pvAt x8 0).bool)) then (some [.val (.bool false)]) else (bindO (bif (pvAt x3 1).bool then (bindO (C 12 [.val (.string ((pvAt x3 0).str))]) fun x9 =>
bif !((pvAt x9 1).bool) then (some (1, [.val (.bool false)])) else (bindO (C 13 [.sl 2 ((pvAt x2 0).rows), .sl 2 ((pvAt x9 0).rows)]) fun x10 =>
bif !((pvAt x10 0).bool) then (some (1, [.val (.bool false)])) else (bindO (C 14 [.sl 2 ((pvAt x2 0).rows)]) fun x11 =>
bif (pvAt x11 1).bool then (bindO (C 15 [.sl 2 ((pvAt x11 0).rows)]) fun x12 =>
bindO (C 9 [.sl 2 ((pvAt x11 0).rows)]) fun x13 =>
bif !((pvAt x12 1).bool) then (some (1, [.val (.bool false)])) else (bindO (C 13 [.sl 2 ((pvAt x12 0).rows), .sl 2 ((pvAt x2 0).rows)]) fun x14 =>
bif !((pvAt x14 0).bool) then (some (1, [.val (.bool false)])) else (bif !((pvAt x13 1).bool) then (some (1, [.val (.bool false)])) else (let y15 : Bool := ((pvAt x13 0).int) != (IntKind.wrap .i64 (((pvAt x5 0).int) + 2)); bif y15 then (some (1, [.val (.bool false)])) else (some (0, [.sl 1 a1])))))) else (some (0, [.sl 1 a1]))))) else (some (0, [.sl 1 a1]))) fun r16 =>
bif Nat.beq r16.1 0 then (bindO (C 16 [.sl 1 ((pvAt r16.2 0).rows)]) fun x17 =>
bindO (C 12 [.val (.string ((pvAt x17 0).str))]) fun x18 =>
bindO (C 17 [.val (.string ((pvAt x17 0).str))]) fun x19 =>
let y20 : Bool := !(((pvAt x18 1).bool) == ((pvAt x19 1).bool)); bif y20 then (some [.val (.bool false)]) else (bindO (C 13 [.sl 2 ((pvAt x18 0).rows), .sl 2 ((pvAt x19 0).rows)]) fun x21 =>
bif !((pvAt x21 0).bool) then (some [.val (.bool false)]) else (bif (pvAt x18 1).bool then (bindO (C 7 [.sl 2 ((pvAt x18 0).rows)]) fun x22 =>
bif (pvAt x22 1).bool then (let y23 : Bool := ((pvAt x22 0).str).toList == ((pvAt x17 0).str).toList; some [.val (.bool y23)]) else (some [.val (.bool false)])) else (some [.val (.bool true)])))) else (some [.val (.bool ((pvAt r16.2 0).bool))])))))))
theorem g3_eq (C : Orc) (m : Nat) (a0 : List (List PV)) (a1 : List (List PV)) : runFn E C m 3 Tryd.f3 [.sl 1 a0, .sl 1 a1] = g3 C m a0 a1 := by kernel_rfl
theorem w3 {m : Nat} {out : List PV} (a0 : List (List PV)) (a1 : List (List PV)) (h : g3 (W E) m a0 a1 = some out) : W E 3 [.sl 1 a0, .sl 1 a1] = some out := W_fn E (m := m) (fn := Tryd.f3) (by kernel_rfl) ((g3_eq ..).trans h)
/-- loop.example/g01096/spec.odInt -/
noncomputable def g48 (C : Orc) (m : Nat) (a0 : Int) : Option (List PV) :=
bindO (C 49 [.sl 2 [], .val (.int .i64 a0)]) fun x1 =>
some [.sl 2 ((pvAt x1 0).rows)]
theorem g48_eq (C : Orc) (m : Nat) (a0 : Int) : runFn E C m 48 Tryd.f48 [.val (.int .i64 a0)] = g48 C m a0 := by kernel_rfl
theorem w48 {m : Nat} {out : List PV} (a0 : Int) (h : g48 (W E) m a0 = some out) : W E 48 [.val (.int .i64 a0)] = some out := W_fn E (m := m) (fn := Tryd.f48) (by kernel_rfl) ((g48_eq ..).trans h)
/-- loop.example/g01096/spec.odTerm -/
noncomputable def g49 (C : Orc) (m : Nat) (a0 : List (List PV)) (a1 : Int) : Option (List PV) :=
bif a1 == 0 then (some [.sl 2 []]) else (let y1 : List (List PV) := ([[.sl 2 a0, .val (.int .i64 a1)]] : List (List PV)); some [.sl 2 y1])
theorem g49_eq (C : Orc) (m : Nat) (a0 : List (List PV)) (a1 : Int) : runFn E C m 49 Tryd.f49 [.sl 2 a0, .val (.int .i64 a1)] = g49 C m a0 a1 := by kernel_rfl
theorem w49 {m : Nat} {out : List PV} (a0 : List (List PV)) (a1 : Int) (h : g49 (W E) m a0 a1 = some out) : W E 49 [.sl 2 a0, .val (.int .i64 a1)] = some out := W_fn E (m := m) (fn := Tryd.f49) (by kernel_rfl) ((g49_eq ..).trans h)
noncomputable def lq50_4 (C : Orc) (m : Nat) (rec : List PV → Option (Nat × List PV)) (v0 : Bool) (v1 : List (List PV)) (v2 : Int) (v3 : Int) (v4 : List (List PV)) (v5 : Int) (v6 : List (List PV)) (v7 : List (List PV)) : Option (Nat × List PV) :=
bif decide (v3 < v2) then (chk ((0 : Int) ≤ v3 ∧ v3 < (v1.length : Int)) <|
chk (canonP k61 (getL [] v1 (Int.toNat v3)) 0) <|
let y1 : List (List PV) := (getL .dft (getL [] v1 (Int.toNat v3)) 0).rows; let y2 : Int := (getL .dft (getL [] v1 (Int.toNat v3)) 1).int; bindO (C 58 [.sl 2 y1, .sl 2 v4]) fun x3 =>
bif !v0 then (bif decide (((pvAt x3 0).int) ≤ 0) then (bif ((pvAt x3 0).int) == 0 then (let y4 : List (List PV) := ([[.sl 2 v4, .val (.int .i64 (IntKind.wrap .i64 (v5 + y2)))]] : List (List PV)); chk (True ∧ (v7.length + y4.length) * 32 ≤ LIM ∧ v7.length + y4.length ≤ LIM) <|
rec [.val (.bool true), .sl 2 v1, .val (.int .i64 v2), .val (.int .i64 (IntKind.wrap .i64 (v3 + 1))), .sl 2 v4, .val (.int .i64 v5), .sl 2 v6, .sl 2 (v7 ++ y4)]) else (let y5 : List (List PV) := ([[.sl 2 v4, .val (.int .i64 v5)]] : List (List PV)); chk (True ∧ (v7.length + y5.length) * 32 ≤ LIM ∧ v7.length + y5.length ≤ LIM) <|
let y6 : List (List PV) := ([[.sl 2 y1, .val (.int .i64 y2)]] : List (List PV)); chk (True ∧ ((v7 ++ y5).length + y6.length) * 32 ≤ LIM ∧ (v7 ++ y5).length + y6.length ≤ LIM) <|
rec [.val (.bool true), .sl 2 v1, .val (.int .i64 v2), .val (.int .i64 (IntKind.wrap .i64 (v3 + 1))), .sl 2 v4, .val (.int .i64 v5), .sl 2 v6, .sl 2 ((v7 ++ y5) ++ y6)])) else (let y7 : List (List PV) := ([[.sl 2 y1, .val (.int .i64 y2)]] : List (List PV)); chk (True ∧ (v7.length + y7.length) * 32 ≤ LIM ∧ v7.length + y7.length ≤ LIM) <|
rec [.val (.bool v0), .sl 2 v1, .val (.int .i64 v2), .val (.int .i64 (IntKind.wrap .i64 (v3 + 1))), .sl 2 v4, .val (.int .i64 v5), .sl 2 v6, .sl 2 (v7 ++ y7)])) else (let y8 : List (List PV) := ([[.sl 2 y1, .val (.int .i64 y2)]] : List (List PV)); chk (True ∧ (v7.length + y8.length) * 32 ≤ LIM ∧ v7.length + y8.length ≤ LIM) <|
rec [.val (.bool v0), .sl 2 v1, .val (.int .i64 v2), .val (.int .i64 (IntKind.wrap .i64 (v3 + 1))), .sl 2 v4, .val (.int .i64 v5), .sl 2 v6, .sl 2 (v7 ++ y8)])) else (some (0, [.val (.bool v0), .sl 2 v4, .val (.int .i64 v5), .sl 2 v6, .sl 2 v7]))
noncomputable def lp50_4 (C : Orc) (m : Nat) (rec : List PV → Option (Nat × List PV)) (v : List PV) : Option (Nat × List PV) := lq50_4 C m rec ((pvAt v 0).bool) ((pvAt v 1).rows) ((pvAt v 2).int) ((pvAt v 3).int) ((pvAt v 4).rows) ((pvAt v 5).int) ((pvAt v 6).rows) ((pvAt v 7).rows)
/-- loop.example/g01096/spec.odMeet -/
noncomputable def g50 (C : Orc) (m : Nat) (a0 : List (List PV)) (a1 : List (List PV)) (a2 : Int) : Option (List PV) :=
bindO (iterN (lp50_4 C m) m [.val (.bool false), .sl 2 a0, .val (.int .i64 (a0.length : Int)), .val (.int .i64 0), .sl 2 a1, .val (.int .i64 a2), .sl 2 [], .sl 2 []]) fun r9 =>
bif !((pvAt r9.2 0).bool) then (let y10 : List (List PV) := ([[.sl 2 ((pvAt r9.2 1).rows), .val (.int .i64 ((pvAt r9.2 2).int))]] : List (List PV)); chk (True ∧ (((pvAt r9.2 4).rows).length + y10.length) * 32 ≤ LIM ∧ ((pvAt r9.2 4).rows).length + y10.length ≤ LIM) <|
some [.sl 2 (((pvAt r9.2 4).rows) ++ y10)]) else (some [.sl 2 ((pvAt r9.2 4).rows)])
theorem g50_eq (C : Orc) (m : Nat) (a0 : List (List PV)) (a1 : List (List PV)) (a2 : Int) : runFn E C m 50 Tryd.f50 [.sl 2 a0, .sl 2 a1, .val (.int .i64 a2)] = g50 C m a0 a1 a2 := by kernel_rfl
theorem w50 {m : Nat} {out : List PV} (a0 : List (List PV)) (a1 : List (List PV)) (a2 : Int) (h : g50 (W E) m a0 a1 a2 = some out) : W E 50 [.sl 2 a0, .sl 2 a1, .val (.int .i64 a2)] = some out := W_fn E (m := m) (fn := Tryd.f50) (by kernel_rfl) ((g50_eq ..).trans h)
/-- loop.example/g01096/impl.cmpTerms -/
noncomputable def g73 (C : Orc) (m : Nat) (a0 : List (List PV)) (a1 : Int) (a2 : List (List PV)) (a3 : Int) : Option (List PV) :=
bindO (C 52 [.sl 2 a0, .sl 2 a2]) fun x1 =>
bif ((pvAt x1 0).int) != 0 then (some [.val (.int .i64 ((pvAt x1 0).int))]) else (bindO (C 86 [.val (.int .i64 a1), .val (.int .i64 a3)]) fun x2 =>
some [.val (.int .i64 ((pvAt x2 0).int))])
theorem g73_eq (C : Orc) (m : Nat) (a0 : List (List PV)) (a1 : Int) (a2 : List (List PV)) (a3 : Int) : runFn E C m 73 Tryd.f73 [.sl 2 a0, .val (.int .i64 a1), .sl 2 a2, .val (.int .i64 a3)] = g73 C m a0 a1 a2 a3 := by kernel_rfl
theorem w73 {m : Nat} {out : List PV} (a0 : List (List PV)) (a1 : Int) (a2 : List (List PV)) (a3 : Int) (h : g73 (W E) m a0 a1 a2 a3 = some out) : W E 73 [.sl 2 a0, .val (.int .i64 a1), .sl 2 a2, .val (.int .i64 a3)] = some out := W_fn E (m := m) (fn := Tryd.f73) (by kernel_rfl) ((g73_eq ..).trans h)
/-- loop.example/g01096/impl.isZero -/
noncomputable def g32 (C : Orc) (m : Nat) (a0 : List (List PV)) : Option (List PV) :=
some [.val (.bool ((a0.length : Int) == 0))]
theorem g32_eq (C : Orc) (m : Nat) (a0 : List (List PV)) : runFn E C m 32 Tryd.f32 [.sl 2 a0] = g32 C m a0 := by kernel_rfl
theorem w32 {m : Nat} {out : List PV} (a0 : List (List PV)) (h : g32 (W E) m a0 = some out) : W E 32 [.sl 2 a0] = some out := W_fn E (m := m) (fn := Tryd.f32) (by kernel_rfl) ((g32_eq ..).trans h)
/-- loop.example/g01096/impl.finite -/
noncomputable def g41 (C : Orc) (m : Nat) (a0 : Int) : Option (List PV) :=
bif a0 == 0 then (some [.sl 2 []]) else (let y1 : List (List PV) := ([[.sl 2 [], .val (.int .i64 a0)]] : List (List PV)); some [.sl 2 y1])
theorem g41_eq (C : Orc) (m : Nat) (a0 : Int) : runFn E C m 41 Tryd.f41 [.val (.int .i64 a0)] = g41 C m a0 := by kernel_rfl
theorem w41 {m : Nat} {out : List PV} (a0 : Int) (h : g41 (W E) m a0 = some out) : W E 41 [.val (.int .i64 a0)] = some out := W_fn E (m := m) (fn := Tryd.f41) (by kernel_rfl) ((g41_eq ..).trans h)
/-- loop.example/g01096/spec.OrdinalText -/
noncomputable def g8 (C : Orc) (m : Nat) (a0 : List (List PV)) : Option (List PV) :=
bindO (C 25 [.sl 2 a0]) fun x1 =>
bif !((pvAt x1 0).bool) then (some [.val (.string (ByteArray.mk #[])), .val (.bool false)]) else (bindO (C 26 [.sl 2 a0]) fun x2 =>
some [.val (.string ((pvAt x2 0).str)), .val (.bool true)])
theorem g8_eq (C : Orc) (m : Nat) (a0 : List (List PV)) : runFn E C m 8 Tryd.f8 [.sl 2 a0] = g8 C m a0 := by kernel_rfl
theorem w8 {m : Nat} {out : List PV} (a0 : List (List PV)) (h : g8 (W E) m a0 = some out) : W E 8 [.sl 2 a0] = some out := W_fn E (m := m) (fn := Tryd.f8) (by kernel_rfl) ((g8_eq ..).trans h)
noncomputable def lq55_4 (C : Orc) (m : Nat) (rec : List PV → Option (Nat × List PV)) (v0 : Int) (v1 : List (List PV)) (v2 : Int) (v3 : Int) (v4 : List (List PV)) : Option (Nat × List PV) :=
bif decide (v3 < v2) then (chk ((0 : Int) ≤ v3 ∧ v3 < (v1.length : Int)) <|
chk (canonP k61 (getL [] v1 (Int.toNat v3)) 0) <|
let y1 : List (List PV) := (getL .dft (getL [] v1 (Int.toNat v3)) 0).rows; let y2 : Int := (getL .dft (getL [] v1 (Int.toNat v3)) 1).int; bindO (C 77 [.val (.int .i64 y2), .val (.int .i64 1), .val (.int .i64 1000000)]) fun x3 =>
bif !((pvAt x3 0).bool) then (some (1, [.val (.bool false)])) else (bindO (C 55 [.sl 2 y1, .val (.int .i64 (IntKind.wrap .i64 (v0 - 1)))]) fun x4 =>
bif !((pvAt x4 0).bool) then (some (1, [.val (.bool false)])) else (bif decide (v3 > 0) then (chk ((0 : Int) ≤ (IntKind.wrap .i64 (v3 - 1)) ∧ (IntKind.wrap .i64 (v3 - 1)) < (v4.length : Int)) <|
let y5 : List PV := getL [] v4 (Int.toNat (IntKind.wrap .i64 (v3 - 1))); chk (canonP k26 y5 0) <|
bindO (C 58 [.sl 2 ((getL .dft y5 0).rows), .sl 2 y1]) fun x6 =>
bif decide (((pvAt x6 0).int) ≤ 0) then (some (1, [.val (.bool false)])) else (rec [.val (.int .i64 v0), .sl 2 v1, .val (.int .i64 v2), .val (.int .i64 (IntKind.wrap .i64 (v3 + 1))), .sl 2 v4])) else (rec [.val (.int .i64 v0), .sl 2 v1, .val (.int .i64 v2), .val (.int .i64 (IntKind.wrap .i64 (v3 + 1))), .sl 2 v4])))) else (some (0, []))
noncomputable def lp55_4 (C : Orc) (m : Nat) (rec : List PV → Option (Nat × List PV)) (v : List PV) : Option (Nat × List PV) := lq55_4 C m rec ((pvAt v 0).int) ((pvAt v 1).rows) ((pvAt v 2).int) ((pvAt v 3).int) ((pvAt v 4).rows)
/-- loop.example/g01096/spec.odForm -/
noncomputable def g55 (C : Orc) (m : Nat) (a0 : List (List PV)) (a1 : Int) : Option (List PV) :=
bif decide (a1 < 0) then (some [.val (.bool false)]) else (bindO (iterN (lp55_4 C m) m [.val (.int .i64 a1), .sl 2 a0, .val (.int .i64 (a0.length : Int)), .val (.int .i64 0), .sl 2 a0]) fun r7 =>
bif Nat.beq r7.1 0 then (some [.val (.bool true)]) else (some [.val (.bool ((pvAt r7.2 0).bool))]))
theorem g55_eq (C : Orc) (m : Nat) (a0 : List (List PV)) (a1 : Int) : runFn E C m 55 Tryd.f55 [.sl 2 a0, .val (.int .i64 a1)] = g55 C m a0 a1 := by kernel_rfl
theorem w55 {m : Nat} {out : List PV} (a0 : List (List PV)) (a1 : Int) (h : g55 (W E) m a0 a1 = some out) : W E 55 [.sl 2 a0, .val (.int .i64 a1)] = some out := W_fn E (m := m) (fn := Tryd.f55) (by kernel_rfl) ((g55_eq ..).trans h)
/-- loop.example/g01096/spec.NodesOf -/
noncomputable def g10 (C : Orc) (m : Nat) (a0 : List (List PV)) : Option (List PV) :=
bindO (C 25 [.sl 2 a0]) fun x1 =>
bif !((pvAt x1 0).bool) then (some [.val (.int .i64 0), .val (.bool false)]) else (bindO (C 28 [.sl 2 a0]) fun x2 =>
some [.val (.int .i64 ((pvAt x2 0).int)), .val (.bool true)])
theorem g10_eq (C : Orc) (m : Nat) (a0 : List (List PV)) : runFn E C m 10 Tryd.f10 [.sl 2 a0] = g10 C m a0 := by kernel_rfl
theorem w10 {m : Nat} {out : List PV} (a0 : List (List PV)) (h : g10 (W E) m a0 = some out) : W E 10 [.sl 2 a0] = some out := W_fn E (m := m) (fn := Tryd.f10) (by kernel_rfl) ((g10_eq ..).trans h)
/-- loop.example/g01096/spec.DrawParseOrdinal -/
noncomputable def g16 (C : Orc) (m : Nat) (a0 : List (List PV)) : Option (List PV) :=
bindO (C 35 [.val (.int .i64 3), .sl 1 a0, .val (.int .i64 0), .val (.int .u64 0)]) fun x1 =>
bindO (C 26 [.sl 2 ((pvAt x1 0).rows)]) fun x2 =>
bindO (C 36 [.val (.int .i64 3), .sl 1 ((pvAt x1 1).rows), .val (.int .i64 ((pvAt x1 2).int)), .val (.int .u64 ((pvAt x1 3).int))]) fun x3 =>
bif (pvAt x3 0).bool then (bindO (C 37 [.val (.string ((pvAt x2 0).str)), .val (.string (ByteArray.mk #[48, 49, 50, 51, 119, 94, 40, 41, 42, 43, 32])), .sl 1 ((pvAt x3 1).rows), .val (.int .i64 ((pvAt x3 2).int)), .val (.int .u64 ((pvAt x3 3).int))]) fun x4 =>
some [.val (.string ((pvAt x4 0).str))]) else (some [.val (.string ((pvAt x2 0).str))])
theorem g16_eq (C : Orc) (m : Nat) (a0 : List (List PV)) : runFn E C m 16 Tryd.f16 [.sl 1 a0] = g16 C m a0 := by kernel_rfl
theorem w16 {m : Nat} {out : List PV} (a0 : List (List PV)) (h : g16 (W E) m a0 = some out) : W E 16 [.sl 1 a0] = some out := W_fn E (m := m) (fn := Tryd.f16) (by kernel_rfl) ((g16_eq ..).trans h)
/-- (*loop.example/g01096/impl.reader).take -/
noncomputable def g40 (C : Orc) (m : Nat) (a0 : ByteArray) (a1 : ByteArray) (a2 : Int) (a3 : Bool) : Option (List PV) :=
bif a3 then (some [.val (.bool false), .val (.string a1), .val (.int .i64 a2), .val (.bool a3)]) else (chk ((0 : Int) ≤ a2 ∧ True ∧ (Int.toNat a2) ≤ a1.size ∧ a1.size ≤ a1.size) <|
bindO (C 65 [.val (.string (a1.extract (Int.toNat a2) a1.size)), .val (.string a0)]) fun x1 =>
bif !((pvAt x1 0).bool) then (some [.val (.bool false), .val (.string a1), .val (.int .i64 a2), .val (.bool a3)]) else (some [.val (.bool true), .val (.string a1), .val (.int .i64 (IntKind.wrap .i64 (a2 + (a0.size : Int)))), .val (.bool a3)]))
theorem g40_eq (C : Orc) (m : Nat) (a0 : ByteArray) (a1 : ByteArray) (a2 : Int) (a3 : Bool) : runFn E C m 40 Tryd.f40 [.val (.string a0), .val (.string a1), .val (.int .i64 a2), .val (.bool a3)] = g40 C m a0 a1 a2 a3 := by kernel_rfl
theorem w40 {m : Nat} {out : List PV} (a0 : ByteArray) (a1 : ByteArray) (a2 : Int) (a3 : Bool) (h : g40 (W E) m a0 a1 a2 a3 = some out) : W E 40 [.val (.string a0), .val (.string a1), .val (.int .i64 a2), .val (.bool a3)] = some out := W_fn E (m := m) (fn := Tryd.f40) (by kernel_rfl) ((g40_eq ..).trans h)
/-- internal/stringslite.HasPrefix -/
noncomputable def g83 (C : Orc) (m : Nat) (a0 : ByteArray) (a1 : ByteArray) : Option (List PV) :=
bif decide ((a0.size : Int) ≥ (a1.size : Int)) then (chk (True ∧ (0 : Int) ≤ (a1.size : Int) ∧ 0 ≤ (Int.toNat (a1.size : Int)) ∧ (Int.toNat (a1.size : Int)) ≤ a0.size) <|
let y1 : Bool := (a0.extract 0 (Int.toNat (a1.size : Int))).toList == a1.toList; some [.val (.bool y1)]) else (some [.val (.bool false)])
theorem g83_eq (C : Orc) (m : Nat) (a0 : ByteArray) (a1 : ByteArray) : runFn E C m 83 Tryd.f83 [.val (.string a0), .val (.string a1)] = g83 C m a0 a1 := by kernel_rfl
theorem w83 {m : Nat} {out : List PV} (a0 : ByteArray) (a1 : ByteArray) (h : g83 (W E) m a0 a1 = some out) : W E 83 [.val (.string a0), .val (.string a1)] = some out := W_fn E (m := m) (fn := Tryd.f83) (by kernel_rfl) ((g83_eq ..).trans h)
noncomputable def lq13_4 (C : Orc) (m : Nat) (rec : List PV → Option (Nat × List PV)) (v0 : List (List PV)) (v1 : Int) (v2 : Int) (v3 : List (List PV)) : Option (Nat × List PV) :=
bif decide (v2 < v1) then (chk ((0 : Int) ≤ v2 ∧ v2 < (v0.length : Int)) <|
chk (canonP k61 (getL [] v0 (Int.toNat v2)) 0) <|
let y1 : List (List PV) := (getL .dft (getL [] v0 (Int.toNat v2)) 0).rows; let y2 : Int := (getL .dft (getL [] v0 (Int.toNat v2)) 1).int; chk ((0 : Int) ≤ v2 ∧ v2 < (v3.length : Int)) <|
chk (canonP k3 (dropL 1 (getL [] v3 (Int.toNat v2))) 0) <|
let y3 : Int := (getL .dft (dropL 1 (getL [] v3 (Int.toNat v2))) 0).int; bif y2 != y3 then (some (1, [.val (.bool false)])) else (chk ((0 : Int) ≤ v2 ∧ v2 < (v3.length : Int)) <|
chk (canonP k26 (getL [] v3 (Int.toNat v2)) 0) <|
let y4 : List (List PV) := (getL .dft (getL [] v3 (Int.toNat v2)) 0).rows; bindO (C 13 [.sl 2 y1, .sl 2 y4]) fun x5 =>
bif !((pvAt x5 0).bool) then (some (1, [.val (.bool false)])) else (rec [.sl 2 v0, .val (.int .i64 v1), .val (.int .i64 (IntKind.wrap .i64 (v2 + 1))), .sl 2 v3]))) else (some (0, []))
noncomputable def lp13_4 (C : Orc) (m : Nat) (rec : List PV → Option (Nat × List PV)) (v : List PV) : Option (Nat × List PV) := lq13_4 C m rec ((pvAt v 0).rows) ((pvAt v 1).int) ((pvAt v 2).int) ((pvAt v 3).rows)
/-- loop.example/g01096/laws.sameOrdinal -/
noncomputable def g13 (C : Orc) (m : Nat) (a0 : List (List PV)) (a1 : List (List PV)) : Option (List PV) :=
bif (a0.length : Int) != (a1.length : Int) then (some [.val (.bool false)]) else (bindO (iterN (lp13_4 C m) m [.sl 2 a0, .val (.int .i64 (a0.length : Int)), .val (.int .i64 0), .sl 2 a1]) fun r6 =>
bif Nat.beq r6.1 0 then (some [.val (.bool true)]) else (some [.val (.bool ((pvAt r6.2 0).bool))]))
theorem g13_eq (C : Orc) (m : Nat) (a0 : List (List PV)) (a1 : List (List PV)) : runFn E C m 13 Tryd.f13 [.sl 2 a0, .sl 2 a1] = g13 C m a0 a1 := by kernel_rfl
theorem w13 {m : Nat} {out : List PV} (a0 : List (List PV)) (a1 : List (List PV)) (h : g13 (W E) m a0 a1 = some out) : W E 13 [.sl 2 a0, .sl 2 a1] = some out := W_fn E (m := m) (fn := Tryd.f13) (by kernel_rfl) ((g13_eq ..).trans h)
noncomputable def lq61_2 (C : Orc) (m : Nat) (rec : List PV → Option (Nat × List PV)) (v0 : Int) (v1 : List (List PV)) (v2 : List (List PV)) (v3 : ByteArray) (v4 : Int) (v5 : Bool) : Option (Nat × List PV) :=
bif !v5 then (bindO (C 80 [.val (.int .i64 v0), .val (.string v3), .val (.int .i64 v4), .val (.bool v5)]) fun x1 =>
bindO (bif decide (((pvAt x1 1).int) > 0) then (let y2 : List (List PV) := ([[.sl 2 ((pvAt x1 0).rows), .val (.int .i64 ((pvAt x1 1).int))]] : List (List PV)); chk (True ∧ (v2.length + y2.length) * 32 ≤ LIM ∧ v2.length + y2.length ≤ LIM) <|
some (0, [.val (.int .i64 v0), .sl 2 v1, .sl 2 (v2 ++ y2), .val (.string ((pvAt x1 2).str)), .val (.int .i64 ((pvAt x1 3).int)), .val (.bool ((pvAt x1 4).bool))])) else (some (0, [.val (.int .i64 v0), .sl 2 v1, .sl 2 v2, .val (.string ((pvAt x1 2).str)), .val (.int .i64 ((pvAt x1 3).int)), .val (.bool ((pvAt x1 4).bool))]))) fun r3 =>
bindO (C 62 [.val (.int .u8 43), .val (.string ((pvAt r3.2 3).str)), .val (.int .i64 ((pvAt r3.2 4).int)), .val (.bool ((pvAt r3.2 5).bool))]) fun x4 =>
bif !((pvAt x4 0).bool) then (some (0, [.sl 2 ((pvAt r3.2 1).rows), .sl 2 ((pvAt r3.2 2).rows), .val (.string ((pvAt x4 1).str)), .val (.int .i64 ((pvAt x4 2).int)), .val (.bool ((pvAt x4 3).bool))])) else (rec [.val (.int .i64 ((pvAt r3.2 0).int)), .sl 2 ((pvAt r3.2 1).rows), .sl 2 ((pvAt r3.2 2).rows), .val (.string ((pvAt x4 1).str)), .val (.int .i64 ((pvAt x4 2).int)), .val (.bool ((pvAt x4 3).bool))])) else (some (0, [.sl 2 v1, .sl 2 v2, .val (.string v3), .val (.int .i64 v4), .val (.bool v5)]))
noncomputable def lp61_2 (C : Orc) (m : Nat) (rec : List PV → Option (Nat × List PV)) (v : List PV) : Option (Nat × List PV) := lq61_2 C m rec ((pvAt v 0).int) ((pvAt v 1).rows) ((pvAt v 2).rows) ((pvAt v 3).str) ((pvAt v 4).int) ((pvAt v 5).bool)
/-- (*loop.example/g01096/spec.odReader).ordinal -/
noncomputable def g61 (C : Orc) (m : Nat) (a0 : Int) (a1 : ByteArray) (a2 : Int) (a3 : Bool) : Option (List PV) :=
bindO (iterN (lp61_2 C m) m [.val (.int .i64 a0), .sl 2 [], .sl 2 [], .val (.string a1), .val (.int .i64 a2), .val (.bool a3)]) fun r5 =>
some [.sl 2 ((pvAt r5.2 1).rows), .val (.string ((pvAt r5.2 2).str)), .val (.int .i64 ((pvAt r5.2 3).int)), .val (.bool ((pvAt r5.2 4).bool))]
theorem g61_eq (C : Orc) (m : Nat) (a0 : Int) (a1 : ByteArray) (a2 : Int) (a3 : Bool) : runFn E C m 61 Tryd.f61 [.val (.int .i64 a0), .val (.string a1), .val (.int .i64 a2), .val (.bool a3)] = g61 C m a0 a1 a2 a3 := by kernel_rfl
theorem w61 {m : Nat} {out : List PV} (a0 : Int) (a1 : ByteArray) (a2 : Int) (a3 : Bool) (h : g61 (W E) m a0 a1 a2 a3 = some out) : W E 61 [.val (.int .i64 a0), .val (.string a1), .val (.int .i64 a2), .val (.bool a3)] = some out := W_fn E (m := m) (fn := Tryd.f61) (by kernel_rfl) ((g61_eq ..).trans h)
/-- loop.example/g01096/spec.shRead -/
noncomputable def g104 (C : Orc) (m : Nat) (a0 : ByteArray) : Option (List PV) :=
let y1 : Bool := a0.toList == (ByteArray.mk #[49, 48, 48, 48, 48, 48, 48]).toList; bif y1 then (some [.val (.int .i64 1000000)]) else (bindO (C 114 [.val (.string a0)]) fun x2 =>
some [.val (.int .i64 ((pvAt x2 0).int))])
theorem g104_eq (C : Orc) (m : Nat) (a0 : ByteArray) : runFn E C m 104 Tryd.f104 [.val (.string a0)] = g104 C m a0 := by kernel_rfl
theorem w104 {m : Nat} {out : List PV} (a0 : ByteArray) (h : g104 (W E) m a0 = some out) : W E 104 [.val (.string a0)] = some out := W_fn E (m := m) (fn := Tryd.f104) (by kernel_rfl) ((g104_eq ..).trans h)
/-- loop.example/g01096/impl.OmegaPower -/
noncomputable def g14 (C : Orc) (m : Nat) (a0 : List (List PV)) : Option (List PV) :=
bindO (C 11 [.sl 2 a0]) fun x1 =>
bif !((pvAt x1 0).bool) then (some [.sl 2 [], .val (.bool false)]) else (bindO (C 31 [.sl 2 a0, .val (.int .i64 1)]) fun x2 =>
bindO (C 30 [.sl 2 ((pvAt x2 0).rows)]) fun x3 =>
some [.sl 2 ((pvAt x3 0).rows), .val (.bool ((pvAt x3 1).bool))])
theorem g14_eq (C : Orc) (m : Nat) (a0 : List (List PV)) : runFn E C m 14 Tryd.f14 [.sl 2 a0] = g14 C m a0 := by kernel_rfl
theorem w14 {m : Nat} {out : List PV} (a0 : List (List PV)) (h : g14 (W E) m a0 = some out) : W E 14 [.sl 2 a0] = some out := W_fn E (m := m) (fn := Tryd.f14) (by kernel_rfl) ((g14_eq ..).trans h)
/-- loop.example/g01096/impl.told -/
noncomputable def g30 (C : Orc) (m : Nat) (a0 : List (List PV)) : Option (List PV) :=
bindO (C 11 [.sl 2 a0]) fun x1 =>
bif !((pvAt x1 0).bool) then (some [.sl 2 [], .val (.bool false)]) else (bindO (C 33 [.sl 2 a0]) fun x2 =>
some [.sl 2 ((pvAt x2 0).rows), .val (.bool true)])
theorem g30_eq (C : Orc) (m : Nat) (a0 : List (List PV)) : runFn E C m 30 Tryd.f30 [.sl 2 a0] = g30 C m a0 := by kernel_rfl
theorem w30 {m : Nat} {out : List PV} (a0 : List (List PV)) (h : g30 (W E) m a0 = some out) : W E 30 [.sl 2 a0] = some out := W_fn E (m := m) (fn := Tryd.f30) (by kernel_rfl) ((g30_eq ..).trans h)
end Go.Vm.D
