import Derived.Test.YtdelbjcfgedjpaaDoorE
namespace Go.Vm.D
open Go Go.Vm Go.Proofs
set_option linter.unusedVariables false
/-- loop.example/g01096/laws.big -/
noncomputable def g5 (C : Orc) (m : Nat) (a0 : List (List PV)) (a1 : List (List PV)) : Option (List PV) :=
bif decide ((a0.length : Int) > 1048576) then (some [.val (.bool true)]) else (let y1 : Int := IntKind.wrap .i64 (1048576 - (a0.length : Int)); some [.val (.bool (decide ((a1.length : Int) > y1)))])
theorem g5_eq (C : Orc) (m : Nat) (a0 : List (List PV)) (a1 : List (List PV)) : runFn E C m 5 Tryd.f5 [.sl 1 a0, .sl 1 a1] = g5 C m a0 a1 := by kernel_rfl
theorem w5 {m : Nat} {out : List PV} (a0 : List (List PV)) (a1 : List (List PV)) (h : g5 (W E) m a0 a1 = some out) : W E 5 [.sl 1 a0, .sl 1 a1] = some out := W_fn E (m := m) (fn := Tryd.f5) (by kernel_rfl) ((g5_eq ..).trans h)
/-- (*loop.example/g01096/spec.l1Cur).pick -/
noncomputable def g47 (C : Orc) (m : Nat) (a0 : Int) (a1 : List (List PV)) (a2 : Int) (a3 : Int) : Option (List PV) :=
bif decide (a0 ≤ 1) then (some [.val (.int .i64 0), .sl 1 a1, .val (.int .i64 a2), .val (.int .u64 a3)]) else (bindO (C 70 [.sl 1 a1, .val (.int .i64 a2), .val (.int .u64 a3)]) fun x1 =>
bindO (bif decide (a0 > 200) then (bindO (C 70 [.sl 1 ((pvAt x1 1).rows), .val (.int .i64 ((pvAt x1 2).int)), .val (.int .u64 ((pvAt x1 3).int))]) fun x2 =>
let y3 : Int := IntKind.wrap .i64 ((IntKind.wrap .i64 (((pvAt x1 0).int) * 256)) + ((pvAt x2 0).int)); some (0, [.val (.int .i64 a0), .val (.int .i64 y3), .sl 1 ((pvAt x2 1).rows), .val (.int .i64 ((pvAt x2 2).int)), .val (.int .u64 ((pvAt x2 3).int))])) else (some (0, [.val (.int .i64 a0), .val (.int .i64 ((pvAt x1 0).int)), .sl 1 ((pvAt x1 1).rows), .val (.int .i64 ((pvAt x1 2).int)), .val (.int .u64 ((pvAt x1 3).int))]))) fun r4 =>
chk (((pvAt r4.2 0).int) ≠ (0 : Int)) <|
some [.val (.int .i64 (((pvAt r4.2 1).int).tmod ((pvAt r4.2 0).int))), .sl 1 ((pvAt r4.2 2).rows), .val (.int .i64 ((pvAt r4.2 3).int)), .val (.int .u64 ((pvAt r4.2 4).int))])
theorem g47_eq (C : Orc) (m : Nat) (a0 : Int) (a1 : List (List PV)) (a2 : Int) (a3 : Int) : runFn E C m 47 Tryd.f47 [.val (.int .i64 a0), .sl 1 a1, .val (.int .i64 a2), .val (.int .u64 a3)] = g47 C m a0 a1 a2 a3 := by kernel_rfl
theorem w47 {m : Nat} {out : List PV} (a0 : Int) (a1 : List (List PV)) (a2 : Int) (a3 : Int) (h : g47 (W E) m a0 a1 a2 a3 = some out) : W E 47 [.val (.int .i64 a0), .sl 1 a1, .val (.int .i64 a2), .val (.int .u64 a3)] = some out := W_fn E (m := m) (fn := Tryd.f47) (by kernel_rfl) ((g47_eq ..).trans h)
noncomputable def lq35_5 (C : Orc) (m : Nat) (rec : List PV → Option (Nat × List PV)) (v0 : Int) (v1 : Int) (v2 : List (List PV)) (v3 : List (List PV)) (v4 : List (List PV)) (v5 : Int) (v6 : Int) : Option (Nat × List PV) :=
bif decide (v1 > 0) then (bindO (C 47 [.val (.int .i64 3), .sl 1 v4, .val (.int .i64 v5), .val (.int .u64 v6)]) fun x5 =>
bindO (C 48 [.val (.int .i64 ((pvAt x5 0).int))]) fun x6 =>
bindO (C 47 [.val (.int .i64 1000), .sl 1 ((pvAt x5 1).rows), .val (.int .i64 ((pvAt x5 2).int)), .val (.int .u64 ((pvAt x5 3).int))]) fun x7 =>
let y8 : List (List PV) := ([[.val (.int .i64 1)], [.val (.int .i64 1)], [.val (.int .i64 2)], [.val (.int .i64 3)], [.val (.int .i64 (IntKind.wrap .i64 (1 + ((pvAt x7 0).int))))]] : List (List PV)); bindO (C 46 [.sl 1 y8, .sl 1 ((pvAt x7 1).rows), .val (.int .i64 ((pvAt x7 2).int)), .val (.int .u64 ((pvAt x7 3).int))]) fun x9 =>
bindO (bindO (C 36 [.val (.int .i64 3), .sl 1 ((pvAt x9 1).rows), .val (.int .i64 ((pvAt x9 2).int)), .val (.int .u64 ((pvAt x9 3).int))]) fun x10 =>
bif (pvAt x10 0).bool then (bindO (C 35 [.val (.int .i64 (IntKind.wrap .i64 (v0 - 1))), .sl 1 ((pvAt x10 1).rows), .val (.int .i64 ((pvAt x10 2).int)), .val (.int .u64 ((pvAt x10 3).int))]) fun x11 =>
some (0, [.val (.int .i64 v0), .val (.int .i64 v1), .sl 2 v2, .sl 2 v3, .sl 2 ((pvAt x11 0).rows), .val (.int .i64 ((pvAt x9 0).int)), .sl 1 ((pvAt x11 1).rows), .val (.int .i64 ((pvAt x11 2).int)), .val (.int .u64 ((pvAt x11 3).int))])) else (some (0, [.val (.int .i64 v0), .val (.int .i64 v1), .sl 2 v2, .sl 2 v3, .sl 2 ((pvAt x6 0).rows), .val (.int .i64 ((pvAt x9 0).int)), .sl 1 ((pvAt x10 1).rows), .val (.int .i64 ((pvAt x10 2).int)), .val (.int .u64 ((pvAt x10 3).int))]))) fun r12 =>
bindO (C 50 [.sl 2 ((pvAt r12.2 3).rows), .sl 2 ((pvAt r12.2 4).rows), .val (.int .i64 ((pvAt r12.2 5).int))]) fun x13 =>
rec [.val (.int .i64 ((pvAt r12.2 0).int)), .val (.int .i64 (IntKind.wrap .i64 (((pvAt r12.2 1).int) - 1))), .sl 2 ((pvAt r12.2 2).rows), .sl 2 ((pvAt x13 0).rows), .sl 1 ((pvAt r12.2 6).rows), .val (.int .i64 ((pvAt r12.2 7).int)), .val (.int .u64 ((pvAt r12.2 8).int))]) else (some (0, [.sl 2 v2, .sl 2 v3, .sl 1 v4, .val (.int .i64 v5), .val (.int .u64 v6)]))
noncomputable def lp35_5 (C : Orc) (m : Nat) (rec : List PV → Option (Nat × List PV)) (v : List PV) : Option (Nat × List PV) := lq35_5 C m rec ((pvAt v 0).int) ((pvAt v 1).int) ((pvAt v 2).rows) ((pvAt v 3).rows) ((pvAt v 4).rows) ((pvAt v 5).int) ((pvAt v 6).int)
/-- (*loop.example/g01096/spec.l1Cur).ordinal -/
noncomputable def g35 (C : Orc) (m : Nat) (a0 : Int) (a1 : List (List PV)) (a2 : Int) (a3 : Int) : Option (List PV) :=
bif a0 == 0 then (bindO (C 47 [.val (.int .i64 4), .sl 1 a1, .val (.int .i64 a2), .val (.int .u64 a3)]) fun x1 =>
bindO (C 48 [.val (.int .i64 ((pvAt x1 0).int))]) fun x2 =>
some [.sl 2 ((pvAt x2 0).rows), .sl 1 ((pvAt x1 1).rows), .val (.int .i64 ((pvAt x1 2).int)), .val (.int .u64 ((pvAt x1 3).int))]) else (let y3 : List (List PV) := ([[.val (.int .i64 0)], [.val (.int .i64 1)], [.val (.int .i64 1)], [.val (.int .i64 2)], [.val (.int .i64 2)], [.val (.int .i64 3)]] : List (List PV)); bindO (C 46 [.sl 1 y3, .sl 1 a1, .val (.int .i64 a2), .val (.int .u64 a3)]) fun x4 =>
bindO (iterN (lp35_5 C m) m [.val (.int .i64 a0), .val (.int .i64 ((pvAt x4 0).int)), .sl 2 [], .sl 2 [], .sl 1 ((pvAt x4 1).rows), .val (.int .i64 ((pvAt x4 2).int)), .val (.int .u64 ((pvAt x4 3).int))]) fun r14 =>
some [.sl 2 ((pvAt r14.2 1).rows), .sl 1 ((pvAt r14.2 2).rows), .val (.int .i64 ((pvAt r14.2 3).int)), .val (.int .u64 ((pvAt r14.2 4).int))])
theorem g35_eq (C : Orc) (m : Nat) (a0 : Int) (a1 : List (List PV)) (a2 : Int) (a3 : Int) : runFn E C m 35 Tryd.f35 [.val (.int .i64 a0), .sl 1 a1, .val (.int .i64 a2), .val (.int .u64 a3)] = g35 C m a0 a1 a2 a3 := by kernel_rfl
theorem w35 {m : Nat} {out : List PV} (a0 : Int) (a1 : List (List PV)) (a2 : Int) (a3 : Int) (h : g35 (W E) m a0 a1 a2 a3 = some out) : W E 35 [.val (.int .i64 a0), .sl 1 a1, .val (.int .i64 a2), .val (.int .u64 a3)] = some out := W_fn E (m := m) (fn := Tryd.f35) (by kernel_rfl) ((g35_eq ..).trans h)
/-- loop.example/g01096/impl.in -/
noncomputable def g59 (C : Orc) (m : Nat) (a0 : Int) (a1 : Int) (a2 : Int) : Option (List PV) :=
bif decide (a0 ≥ a1) then (some [.val (.bool (decide (a0 ≤ a2)))]) else (some [.val (.bool false)])
theorem g59_eq (C : Orc) (m : Nat) (a0 : Int) (a1 : Int) (a2 : Int) : runFn E C m 59 Tryd.f59 [.val (.int .i64 a0), .val (.int .i64 a1), .val (.int .i64 a2)] = g59 C m a0 a1 a2 := by kernel_rfl
theorem w59 {m : Nat} {out : List PV} (a0 : Int) (a1 : Int) (a2 : Int) (h : g59 (W E) m a0 a1 a2 = some out) : W E 59 [.val (.int .i64 a0), .val (.int .i64 a1), .val (.int .i64 a2)] = some out := W_fn E (m := m) (fn := Tryd.f59) (by kernel_rfl) ((g59_eq ..).trans h)
/-- loop.example/g01096/impl.cmp -/
noncomputable def g52 (C : Orc) (m : Nat) (a0 : List (List PV)) (a1 : List (List PV)) : Option (List PV) :=
bindO (C 100000 [.sl 2 a0, .sl 2 a1]) fun x1 =>
some [.val (.int .i64 ((pvAt x1 0).int))]
theorem g52_eq (C : Orc) (m : Nat) (a0 : List (List PV)) (a1 : List (List PV)) : runFn E C m 52 Tryd.f52 [.sl 2 a0, .sl 2 a1] = g52 C m a0 a1 := by kernel_rfl
theorem w52 {m : Nat} {out : List PV} (a0 : List (List PV)) (a1 : List (List PV)) (h : g52 (W E) m a0 a1 = some out) : W E 52 [.sl 2 a0, .sl 2 a1] = some out := W_fn E (m := m) (fn := Tryd.f52) (by kernel_rfl) ((g52_eq ..).trans h)
noncomputable def lq24_3 (C : Orc) (m : Nat) (rec : List PV → Option (Nat × List PV)) (v0 : ByteArray) (v1 : List (List PV)) (v2 : Int) (v3 : Int) (v4 : List (List PV)) : Option (Nat × List PV) :=
bif decide (v3 < v2) then (chk ((0 : Int) ≤ v3 ∧ v3 < (v1.length : Int)) <|
chk (canonP k61 (getL [] v1 (Int.toNat v3)) 0) <|
let y1 : List (List PV) := (getL .dft (getL [] v1 (Int.toNat v3)) 0).rows; let y2 : Int := (getL .dft (getL [] v1 (Int.toNat v3)) 1).int; bindO (bindO (C 32 [.sl 2 y1]) fun x3 =>
bif (pvAt x3 0).bool then (bindO (C 51 [.val (.int .i64 y2)]) fun x4 =>
let y5 : List (List PV) := ([[.val (.string ((pvAt x4 0).str))]] : List (List PV)); chk (True ∧ (v4.length + y5.length) * 16 ≤ LIM ∧ v4.length + y5.length ≤ LIM) <|
some (0, [.val (.string v0), .sl 2 v1, .val (.int .i64 v2), .val (.int .i64 v3), .sl 1 (v4 ++ y5)])) else (bindO (C 41 [.val (.int .i64 1)]) fun x6 =>
bindO (C 52 [.sl 2 y1, .sl 2 ((pvAt x6 0).rows)]) fun x7 =>
bif ((pvAt x7 0).int) != 0 then (bindO (C 24 [.sl 2 y1, .val (.string v0)]) fun x8 =>
chk ((ByteArray.mk #[94, 40]).size + ((pvAt x8 0).str).size ≤ 9223372036854775807) <|
chk (((ByteArray.mk #[94, 40]) ++ ((pvAt x8 0).str)).size + (ByteArray.mk #[41]).size ≤ 9223372036854775807) <|
let y9 : ByteArray := ((ByteArray.mk #[94, 40]) ++ ((pvAt x8 0).str)) ++ (ByteArray.mk #[41]); chk (v0.size + y9.size ≤ 9223372036854775807) <|
some (1, [.val (.string v0), .val (.string (v0 ++ y9)), .sl 2 v1, .val (.int .i64 v2), .val (.int .i64 v3), .sl 1 v4, .sl 2 y1, .val (.int .i64 y2)])) else (some (1, [.val (.string v0), .val (.string v0), .sl 2 v1, .val (.int .i64 v2), .val (.int .i64 v3), .sl 1 v4, .sl 2 y1, .val (.int .i64 y2)])))) fun r10 =>
bif Nat.beq r10.1 0 then (rec [.val (.string ((pvAt r10.2 0).str)), .sl 2 ((pvAt r10.2 1).rows), .val (.int .i64 ((pvAt r10.2 2).int)), .val (.int .i64 (IntKind.wrap .i64 (((pvAt r10.2 3).int) + 1))), .sl 1 ((pvAt r10.2 4).rows)]) else (bindO (bif ((pvAt r10.2 7).int) != 1 then (bindO (C 51 [.val (.int .i64 ((pvAt r10.2 7).int))]) fun x11 =>
chk ((ByteArray.mk #[42]).size + ((pvAt x11 0).str).size ≤ 9223372036854775807) <|
chk (((pvAt r10.2 1).str).size + ((ByteArray.mk #[42]) ++ ((pvAt x11 0).str)).size ≤ 9223372036854775807) <|
let y12 : ByteArray := ((pvAt r10.2 1).str) ++ ((ByteArray.mk #[42]) ++ ((pvAt x11 0).str)); some (0, [.val (.string ((pvAt r10.2 0).str)), .val (.string y12), .sl 2 ((pvAt r10.2 2).rows), .val (.int .i64 ((pvAt r10.2 3).int)), .val (.int .i64 ((pvAt r10.2 4).int)), .sl 1 ((pvAt r10.2 5).rows)])) else (some (0, [.val (.string ((pvAt r10.2 0).str)), .val (.string ((pvAt r10.2 1).str)), .sl 2 ((pvAt r10.2 2).rows), .val (.int .i64 ((pvAt r10.2 3).int)), .val (.int .i64 ((pvAt r10.2 4).int)), .sl 1 ((pvAt r10.2 5).rows)]))) fun r13 =>
let y14 : List (List PV) := ([[.val (.string ((pvAt r13.2 1).str))]] : List (List PV)); chk (True ∧ (((pvAt r13.2 5).rows).length + y14.length) * 16 ≤ LIM ∧ ((pvAt r13.2 5).rows).length + y14.length ≤ LIM) <|
rec [.val (.string ((pvAt r13.2 0).str)), .sl 2 ((pvAt r13.2 2).rows), .val (.int .i64 ((pvAt r13.2 3).int)), .val (.int .i64 (IntKind.wrap .i64 (((pvAt r13.2 4).int) + 1))), .sl 1 (((pvAt r13.2 5).rows) ++ y14)])) else (some (0, [.sl 1 v4]))
noncomputable def lp24_3 (C : Orc) (m : Nat) (rec : List PV → Option (Nat × List PV)) (v : List PV) : Option (Nat × List PV) := lq24_3 C m rec ((pvAt v 0).str) ((pvAt v 1).rows) ((pvAt v 2).int) ((pvAt v 3).int) ((pvAt v 4).rows)
/-- loop.example/g01096/impl.ordinalText -/
noncomputable def g24 (C : Orc) (m : Nat) (a0 : List (List PV)) (a1 : ByteArray) : Option (List PV) :=
bindO (iterN (lp24_3 C m) m [.val (.string a1), .sl 2 a0, .val (.int .i64 (a0.length : Int)), .val (.int .i64 0), .sl 1 []]) fun r15 =>
bif (((pvAt r15.2 0).rows).length : Int) == 0 then (some [.val (.string (ByteArray.mk #[48]))]) else (bindO (C 53 [.sl 1 ((pvAt r15.2 0).rows), .val (.string (ByteArray.mk #[43]))]) fun x16 =>
some [.val (.string ((pvAt x16 0).str))])
theorem g24_eq (C : Orc) (m : Nat) (a0 : List (List PV)) (a1 : ByteArray) : runFn E C m 24 Tryd.f24 [.sl 2 a0, .val (.string a1)] = g24 C m a0 a1 := by kernel_rfl
theorem w24 {m : Nat} {out : List PV} (a0 : List (List PV)) (a1 : ByteArray) (h : g24 (W E) m a0 a1 = some out) : W E 24 [.sl 2 a0, .val (.string a1)] = some out := W_fn E (m := m) (fn := Tryd.f24) (by kernel_rfl) ((g24_eq ..).trans h)
noncomputable def lq26_3 (C : Orc) (m : Nat) (rec : List PV → Option (Nat × List PV)) (v0 : ByteArray) (v1 : List (List PV)) (v2 : Int) (v3 : Int) : Option (Nat × List PV) :=
bif decide (v3 < v2) then (chk ((0 : Int) ≤ v3 ∧ v3 < (v1.length : Int)) <|
chk (canonP k61 (getL [] v1 (Int.toNat v3)) 0) <|
let y1 : List (List PV) := (getL .dft (getL [] v1 (Int.toNat v3)) 0).rows; let y2 : Int := (getL .dft (getL [] v1 (Int.toNat v3)) 1).int; bindO (bif decide (v3 > 0) then (chk (v0.size + (ByteArray.mk #[43]).size ≤ 9223372036854775807) <|
some (0, [.val (.string (v0 ++ (ByteArray.mk #[43]))), .sl 2 v1, .val (.int .i64 v2), .val (.int .i64 v3), .sl 2 y1, .val (.int .i64 y2)])) else (some (0, [.val (.string v0), .sl 2 v1, .val (.int .i64 v2), .val (.int .i64 v3), .sl 2 y1, .val (.int .i64 y2)]))) fun r3 =>
bindO (C 56 [.sl 2 ((pvAt r3.2 4).rows)]) fun x4 =>
bif (pvAt x4 0).bool then (bindO (C 57 [.val (.int .i64 ((pvAt r3.2 5).int))]) fun x5 =>
chk (((pvAt r3.2 0).str).size + ((pvAt x5 0).str).size ≤ 9223372036854775807) <|
rec [.val (.string (((pvAt r3.2 0).str) ++ ((pvAt x5 0).str))), .sl 2 ((pvAt r3.2 1).rows), .val (.int .i64 ((pvAt r3.2 2).int)), .val (.int .i64 (IntKind.wrap .i64 (((pvAt r3.2 3).int) + 1)))]) else (chk (((pvAt r3.2 0).str).size + (ByteArray.mk #[119]).size ≤ 9223372036854775807) <|
bindO (bindO (C 48 [.val (.int .i64 1)]) fun x6 =>
bindO (C 58 [.sl 2 ((pvAt r3.2 4).rows), .sl 2 ((pvAt x6 0).rows)]) fun x7 =>
bif ((pvAt x7 0).int) != 0 then (bindO (C 26 [.sl 2 ((pvAt r3.2 4).rows)]) fun x8 =>
chk ((ByteArray.mk #[94, 40]).size + ((pvAt x8 0).str).size ≤ 9223372036854775807) <|
chk (((ByteArray.mk #[94, 40]) ++ ((pvAt x8 0).str)).size + (ByteArray.mk #[41]).size ≤ 9223372036854775807) <|
let y9 : ByteArray := ((ByteArray.mk #[94, 40]) ++ ((pvAt x8 0).str)) ++ (ByteArray.mk #[41]); chk ((((pvAt r3.2 0).str) ++ (ByteArray.mk #[119])).size + y9.size ≤ 9223372036854775807) <|
let y10 : ByteArray := (((pvAt r3.2 0).str) ++ (ByteArray.mk #[119])) ++ y9; some (0, [.val (.string y10), .sl 2 ((pvAt r3.2 1).rows), .val (.int .i64 ((pvAt r3.2 2).int)), .val (.int .i64 ((pvAt r3.2 3).int)), .sl 2 ((pvAt r3.2 4).rows), .val (.int .i64 ((pvAt r3.2 5).int))])) else (some (0, [.val (.string (((pvAt r3.2 0).str) ++ (ByteArray.mk #[119]))), .sl 2 ((pvAt r3.2 1).rows), .val (.int .i64 ((pvAt r3.2 2).int)), .val (.int .i64 ((pvAt r3.2 3).int)), .sl 2 ((pvAt r3.2 4).rows), .val (.int .i64 ((pvAt r3.2 5).int))]))) fun r11 =>
bif decide (((pvAt r11.2 5).int) > 1) then (bindO (C 57 [.val (.int .i64 ((pvAt r11.2 5).int))]) fun x12 =>
chk ((ByteArray.mk #[42]).size + ((pvAt x12 0).str).size ≤ 9223372036854775807) <|
chk (((pvAt r11.2 0).str).size + ((ByteArray.mk #[42]) ++ ((pvAt x12 0).str)).size ≤ 9223372036854775807) <|
let y13 : ByteArray := ((pvAt r11.2 0).str) ++ ((ByteArray.mk #[42]) ++ ((pvAt x12 0).str)); rec [.val (.string y13), .sl 2 ((pvAt r11.2 1).rows), .val (.int .i64 ((pvAt r11.2 2).int)), .val (.int .i64 (IntKind.wrap .i64 (((pvAt r11.2 3).int) + 1)))]) else (rec [.val (.string ((pvAt r11.2 0).str)), .sl 2 ((pvAt r11.2 1).rows), .val (.int .i64 ((pvAt r11.2 2).int)), .val (.int .i64 (IntKind.wrap .i64 (((pvAt r11.2 3).int) + 1)))]))) else (some (0, [.val (.string v0)]))
noncomputable def lp26_3 (C : Orc) (m : Nat) (rec : List PV → Option (Nat × List PV)) (v : List PV) : Option (Nat × List PV) := lq26_3 C m rec ((pvAt v 0).str) ((pvAt v 1).rows) ((pvAt v 2).int) ((pvAt v 3).int)
/-- loop.example/g01096/spec.odText -/
noncomputable def g26 (C : Orc) (m : Nat) (a0 : List (List PV)) : Option (List PV) :=
bindO (iterN (lp26_3 C m) m [.val (.string (ByteArray.mk #[])), .sl 2 a0, .val (.int .i64 (a0.length : Int)), .val (.int .i64 0)]) fun r14 =>
let y15 : Bool := ((pvAt r14.2 0).str).toList == (ByteArray.mk #[]).toList; bif y15 then (some [.val (.string (ByteArray.mk #[48]))]) else (some [.val (.string ((pvAt r14.2 0).str))])
theorem g26_eq (C : Orc) (m : Nat) (a0 : List (List PV)) : runFn E C m 26 Tryd.f26 [.sl 2 a0] = g26 C m a0 := by kernel_rfl
theorem w26 {m : Nat} {out : List PV} (a0 : List (List PV)) (h : g26 (W E) m a0 = some out) : W E 26 [.sl 2 a0] = some out := W_fn E (m := m) (fn := Tryd.f26) (by kernel_rfl) ((g26_eq ..).trans h)
/-- strings.HasPrefix -/
noncomputable def g65 (C : Orc) (m : Nat) (a0 : ByteArray) (a1 : ByteArray) : Option (List PV) :=
bindO (C 83 [.val (.string a0), .val (.string a1)]) fun x1 =>
some [.val (.bool ((pvAt x1 0).bool))]
theorem g65_eq (C : Orc) (m : Nat) (a0 : ByteArray) (a1 : ByteArray) : runFn E C m 65 Tryd.f65 [.val (.string a0), .val (.string a1)] = g65 C m a0 a1 := by kernel_rfl
theorem w65 {m : Nat} {out : List PV} (a0 : ByteArray) (a1 : ByteArray) (h : g65 (W E) m a0 a1 = some out) : W E 65 [.val (.string a0), .val (.string a1)] = some out := W_fn E (m := m) (fn := Tryd.f65) (by kernel_rfl) ((g65_eq ..).trans h)
noncomputable def lq60_2 (C : Orc) (m : Nat) (rec : List PV → Option (Nat × List PV)) (v0 : Int) (v1 : ByteArray) (v2 : Int) (v3 : Bool) : Option (Nat × List PV) :=
bif decide (v2 < (v1.size : Int)) then (chk ((0 : Int) ≤ v2 ∧ v2 < (v1.size : Int)) <|
bif decide ((byteAt v1 (Int.toNat v2)) ≥ 48) then (chk ((0 : Int) ≤ v2 ∧ v2 < (v1.size : Int)) <|
bif decide ((byteAt v1 (Int.toNat v2)) ≤ 57) then (rec [.val (.int .i64 v0), .val (.string v1), .val (.int .i64 (IntKind.wrap .i64 (v2 + 1))), .val (.bool v3)]) else (some (0, [.val (.int .i64 v0), .val (.string v1), .val (.int .i64 v2), .val (.bool v3)]))) else (some (0, [.val (.int .i64 v0), .val (.string v1), .val (.int .i64 v2), .val (.bool v3)]))) else (some (0, [.val (.int .i64 v0), .val (.string v1), .val (.int .i64 v2), .val (.bool v3)]))
noncomputable def lp60_2 (C : Orc) (m : Nat) (rec : List PV → Option (Nat × List PV)) (v : List PV) : Option (Nat × List PV) := lq60_2 C m rec ((pvAt v 0).int) ((pvAt v 1).str) ((pvAt v 2).int) ((pvAt v 3).bool)
/-- (*loop.example/g01096/impl.reader).digits -/
noncomputable def g60 (C : Orc) (m : Nat) (a0 : ByteArray) (a1 : Int) (a2 : Bool) : Option (List PV) :=
bindO (iterN (lp60_2 C m) m [.val (.int .i64 a1), .val (.string a0), .val (.int .i64 a1), .val (.bool a2)]) fun r1 =>
chk ((0 : Int) ≤ ((pvAt r1.2 0).int) ∧ (0 : Int) ≤ ((pvAt r1.2 2).int) ∧ (Int.toNat ((pvAt r1.2 0).int)) ≤ (Int.toNat ((pvAt r1.2 2).int)) ∧ (Int.toNat ((pvAt r1.2 2).int)) ≤ ((pvAt r1.2 1).str).size) <|
let y2 : ByteArray := ((pvAt r1.2 1).str).extract (Int.toNat ((pvAt r1.2 0).int)) (Int.toNat ((pvAt r1.2 2).int)); bindO (C 79 [.val (.string y2)]) fun x3 =>
bif (pvAt r1.2 3).bool then (some [.val (.int .i64 ((pvAt x3 0).int)), .val (.string ((pvAt r1.2 1).str)), .val (.int .i64 ((pvAt r1.2 2).int)), .val (.bool true)]) else (some [.val (.int .i64 ((pvAt x3 0).int)), .val (.string ((pvAt r1.2 1).str)), .val (.int .i64 ((pvAt r1.2 2).int)), .val (.bool ((pvAt x3 1).errB))])
theorem g60_eq (C : Orc) (m : Nat) (a0 : ByteArray) (a1 : Int) (a2 : Bool) : runFn E C m 60 Tryd.f60 [.val (.string a0), .val (.int .i64 a1), .val (.bool a2)] = g60 C m a0 a1 a2 := by kernel_rfl
theorem w60 {m : Nat} {out : List PV} (a0 : ByteArray) (a1 : Int) (a2 : Bool) (h : g60 (W E) m a0 a1 a2 = some out) : W E 60 [.val (.string a0), .val (.int .i64 a1), .val (.bool a2)] = some out := W_fn E (m := m) (fn := Tryd.f60) (by kernel_rfl) ((g60_eq ..).trans h)
/-- loop.example/g01096/spec.ParseOrdinal -/
noncomputable def g17 (C : Orc) (m : Nat) (a0 : ByteArray) : Option (List PV) :=
bindO (C 38 [.val (.string a0)]) fun x1 =>
some [.sl 2 ((pvAt x1 0).rows), .val (.bool ((pvAt x1 1).bool))]
theorem g17_eq (C : Orc) (m : Nat) (a0 : ByteArray) : runFn E C m 17 Tryd.f17 [.val (.string a0)] = g17 C m a0 := by kernel_rfl
theorem w17 {m : Nat} {out : List PV} (a0 : ByteArray) (h : g17 (W E) m a0 = some out) : W E 17 [.val (.string a0)] = some out := W_fn E (m := m) (fn := Tryd.f17) (by kernel_rfl) ((g17_eq ..).trans h)
/-- (*loop.example/g01096/spec.odReader).term -/
noncomputable def g80 (C : Orc) (m : Nat) (a0 : Int) (a1 : ByteArray) (a2 : Int) (a3 : Bool) : Option (List PV) :=
bindO (C 62 [.val (.int .u8 119), .val (.string a1), .val (.int .i64 a2), .val (.bool a3)]) fun x1 =>
bif !((pvAt x1 0).bool) then (bindO (C 91 [.val (.string ((pvAt x1 1).str)), .val (.int .i64 ((pvAt x1 2).int)), .val (.bool ((pvAt x1 3).bool))]) fun x2 =>
some [.sl 2 [], .val (.int .i64 ((pvAt x2 0).int)), .val (.string ((pvAt x2 1).str)), .val (.int .i64 ((pvAt x2 2).int)), .val (.bool ((pvAt x2 3).bool))]) else (bindO (C 48 [.val (.int .i64 1)]) fun x3 =>
bindO (bindO (C 62 [.val (.int .u8 94), .val (.string ((pvAt x1 1).str)), .val (.int .i64 ((pvAt x1 2).int)), .val (.bool ((pvAt x1 3).bool))]) fun x4 =>
bif (pvAt x4 0).bool then (bindO (bif (pvAt x4 3).bool then (some (0, [.val (.int .i64 a0), .sl 2 [], .val (.int .i64 0), .sl 2 ((pvAt x3 0).rows), .val (.int .i64 1), .val (.string ((pvAt x4 1).str)), .val (.int .i64 ((pvAt x4 2).int)), .val (.bool true)])) else (bindO (C 62 [.val (.int .u8 40), .val (.string ((pvAt x4 1).str)), .val (.int .i64 ((pvAt x4 2).int)), .val (.bool ((pvAt x4 3).bool))]) fun x5 =>
bif !((pvAt x5 0).bool) then (some (0, [.val (.int .i64 a0), .sl 2 [], .val (.int .i64 0), .sl 2 ((pvAt x3 0).rows), .val (.int .i64 1), .val (.string ((pvAt x5 1).str)), .val (.int .i64 ((pvAt x5 2).int)), .val (.bool true)])) else (some (0, [.val (.int .i64 a0), .sl 2 [], .val (.int .i64 0), .sl 2 ((pvAt x3 0).rows), .val (.int .i64 1), .val (.string ((pvAt x5 1).str)), .val (.int .i64 ((pvAt x5 2).int)), .val (.bool (a0 == 0))])))) fun r6 =>
bindO (C 61 [.val (.int .i64 (IntKind.wrap .i64 (((pvAt r6.2 0).int) - 1))), .val (.string ((pvAt r6.2 5).str)), .val (.int .i64 ((pvAt r6.2 6).int)), .val (.bool ((pvAt r6.2 7).bool))]) fun x7 =>
bif (pvAt x7 3).bool then (some (0, [.sl 2 ((pvAt r6.2 1).rows), .val (.int .i64 ((pvAt r6.2 2).int)), .sl 2 ((pvAt x7 0).rows), .val (.int .i64 ((pvAt r6.2 4).int)), .val (.string ((pvAt x7 1).str)), .val (.int .i64 ((pvAt x7 2).int)), .val (.bool true)])) else (bindO (C 62 [.val (.int .u8 41), .val (.string ((pvAt x7 1).str)), .val (.int .i64 ((pvAt x7 2).int)), .val (.bool ((pvAt x7 3).bool))]) fun x8 =>
some (0, [.sl 2 ((pvAt r6.2 1).rows), .val (.int .i64 ((pvAt r6.2 2).int)), .sl 2 ((pvAt x7 0).rows), .val (.int .i64 ((pvAt r6.2 4).int)), .val (.string ((pvAt x8 1).str)), .val (.int .i64 ((pvAt x8 2).int)), .val (.bool (!((pvAt x8 0).bool)))]))) else (some (0, [.sl 2 [], .val (.int .i64 0), .sl 2 ((pvAt x3 0).rows), .val (.int .i64 1), .val (.string ((pvAt x4 1).str)), .val (.int .i64 ((pvAt x4 2).int)), .val (.bool ((pvAt x4 3).bool))]))) fun r9 =>
bindO (C 62 [.val (.int .u8 42), .val (.string ((pvAt r9.2 4).str)), .val (.int .i64 ((pvAt r9.2 5).int)), .val (.bool ((pvAt r9.2 6).bool))]) fun x10 =>
bif (pvAt x10 0).bool then (bindO (C 91 [.val (.string ((pvAt x10 1).str)), .val (.int .i64 ((pvAt x10 2).int)), .val (.bool ((pvAt x10 3).bool))]) fun x11 =>
some [.sl 2 ((pvAt r9.2 2).rows), .val (.int .i64 ((pvAt x11 0).int)), .val (.string ((pvAt x11 1).str)), .val (.int .i64 ((pvAt x11 2).int)), .val (.bool ((pvAt x11 3).bool))]) else (some [.sl 2 ((pvAt r9.2 2).rows), .val (.int .i64 ((pvAt r9.2 3).int)), .val (.string ((pvAt x10 1).str)), .val (.int .i64 ((pvAt x10 2).int)), .val (.bool ((pvAt x10 3).bool))]))
theorem g80_eq (C : Orc) (m : Nat) (a0 : Int) (a1 : ByteArray) (a2 : Int) (a3 : Bool) : runFn E C m 80 Tryd.f80 [.val (.int .i64 a0), .val (.string a1), .val (.int .i64 a2), .val (.bool a3)] = g80 C m a0 a1 a2 a3 := by kernel_rfl
theorem w80 {m : Nat} {out : List PV} (a0 : Int) (a1 : ByteArray) (a2 : Int) (a3 : Bool) (h : g80 (W E) m a0 a1 a2 a3 = some out) : W E 80 [.val (.int .i64 a0), .val (.string a1), .val (.int .i64 a2), .val (.bool a3)] = some out := W_fn E (m := m) (fn := Tryd.f80) (by kernel_rfl) ((g80_eq ..).trans h)
/-- loop.example/g01096/impl.power -/
noncomputable def g31 (C : Orc) (m : Nat) (a0 : List (List PV)) (a1 : Int) : Option (List PV) :=
bif a1 == 0 then (some [.sl 2 []]) else (let y1 : List (List PV) := ([[.sl 2 a0, .val (.int .i64 a1)]] : List (List PV)); some [.sl 2 y1])
theorem g31_eq (C : Orc) (m : Nat) (a0 : List (List PV)) (a1 : Int) : runFn E C m 31 Tryd.f31 [.sl 2 a0, .val (.int .i64 a1)] = g31 C m a0 a1 := by kernel_rfl
theorem w31 {m : Nat} {out : List PV} (a0 : List (List PV)) (a1 : Int) (h : g31 (W E) m a0 a1 = some out) : W E 31 [.sl 2 a0, .val (.int .i64 a1)] = some out := W_fn E (m := m) (fn := Tryd.f31) (by kernel_rfl) ((g31_eq ..).trans h)
/-- loop.example/g01096/impl.DegreeOf -/
noncomputable def g15 (C : Orc) (m : Nat) (a0 : List (List PV)) : Option (List PV) :=
bindO (C 11 [.sl 2 a0]) fun x1 =>
bif !((pvAt x1 0).bool) then (some [.sl 2 [], .val (.bool false)]) else (bindO (C 32 [.sl 2 a0]) fun x2 =>
bif (pvAt x2 0).bool then (some [.sl 2 [], .val (.bool false)]) else (bindO (C 34 [.sl 2 a0]) fun x3 =>
bindO (C 33 [.sl 2 ((pvAt x3 0).rows)]) fun x4 =>
some [.sl 2 ((pvAt x4 0).rows), .val (.bool true)]))
theorem g15_eq (C : Orc) (m : Nat) (a0 : List (List PV)) : runFn E C m 15 Tryd.f15 [.sl 2 a0] = g15 C m a0 := by kernel_rfl
theorem w15 {m : Nat} {out : List PV} (a0 : List (List PV)) (h : g15 (W E) m a0 = some out) : W E 15 [.sl 2 a0] = some out := W_fn E (m := m) (fn := Tryd.f15) (by kernel_rfl) ((g15_eq ..).trans h)
end Go.Vm.D
