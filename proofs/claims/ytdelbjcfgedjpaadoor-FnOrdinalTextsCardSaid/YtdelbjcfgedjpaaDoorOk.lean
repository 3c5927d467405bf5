import Derived.Test.YtdelbjcfgedjpaaDoorE
import Derived.Test.YtdelbjcfgedjpaaDoorShelf
namespace Go.Vm.D
open Go Go.Vm Go.Proofs
theorem TL_ok : AllP (fun x => TyOk Tryd.prog x.1 x.2) TL :=
  .cons (tyOk_of (by kernel_rfl) (by kernel_rfl) (by kernel_rfl)) <|
  .cons (tyOk_of (by kernel_rfl) (by kernel_rfl) (by kernel_rfl)) <|
  .cons (tyOk_of (by kernel_rfl) (by kernel_rfl) (by kernel_rfl)) <|
  .cons (tyOk_of (by kernel_rfl) (by kernel_rfl) (by kernel_rfl)) <|
  .cons (tyOk_of (by kernel_rfl) (by kernel_rfl) (by kernel_rfl)) <|
  .cons (tyOk_of (by kernel_rfl) (by kernel_rfl) (by kernel_rfl)) <|
  .cons (tyOk_of (by kernel_rfl) (by kernel_rfl) (by kernel_rfl)) <|
  .cons (tyOk_of (by kernel_rfl) (by kernel_rfl) (by kernel_rfl)) <|
  .cons (tyOk_of (by kernel_rfl) (by kernel_rfl) (by kernel_rfl)) <|
  .cons (tyOk_of (by kernel_rfl) (by kernel_rfl) (by kernel_rfl)) <|
  .cons (tyOk_of (by kernel_rfl) (by kernel_rfl) (by kernel_rfl)) <|
  .cons (tyOk_of (by kernel_rfl) (by kernel_rfl) (by kernel_rfl)) <|
  .cons (tyOk_of (by kernel_rfl) (by kernel_rfl) (by kernel_rfl)) <|
  .cons (tyOk_of (by kernel_rfl) (by kernel_rfl) (by kernel_rfl)) <|
  .cons (tyOk_of (by kernel_rfl) (by kernel_rfl) (by kernel_rfl)) <|
  .nil
theorem FL_ok : AllP (FnOk Tryd.prog VL) FL :=
  .cons ⟨by kernel_rfl, by kernel_rfl⟩ <|
  .cons ⟨by kernel_rfl, by kernel_rfl⟩ <|
  .cons ⟨by kernel_rfl, by kernel_rfl⟩ <|
  .cons ⟨by kernel_rfl, by kernel_rfl⟩ <|
  .cons ⟨by kernel_rfl, by kernel_rfl⟩ <|
  .cons ⟨by kernel_rfl, by kernel_rfl⟩ <|
  .cons ⟨by kernel_rfl, by kernel_rfl⟩ <|
  .cons ⟨by kernel_rfl, by kernel_rfl⟩ <|
  .cons ⟨by kernel_rfl, by kernel_rfl⟩ <|
  .cons ⟨by kernel_rfl, by kernel_rfl⟩ <|
  .cons ⟨by kernel_rfl, by kernel_rfl⟩ <|
  .cons ⟨by kernel_rfl, by kernel_rfl⟩ <|
  .cons ⟨by kernel_rfl, by kernel_rfl⟩ <|
  .cons ⟨by kernel_rfl, by kernel_rfl⟩ <|
  .cons ⟨by kernel_rfl, by kernel_rfl⟩ <|
  .cons ⟨by kernel_rfl, by kernel_rfl⟩ <|
  .cons ⟨by kernel_rfl, by kernel_rfl⟩ <|
  .cons ⟨by kernel_rfl, by kernel_rfl⟩ <|
  .cons ⟨by kernel_rfl, by kernel_rfl⟩ <|
  .cons ⟨by kernel_rfl, by kernel_rfl⟩ <|
  .cons ⟨by kernel_rfl, by kernel_rfl⟩ <|
  .cons ⟨by kernel_rfl, by kernel_rfl⟩ <|
  .cons ⟨by kernel_rfl, by kernel_rfl⟩ <|
  .cons ⟨by kernel_rfl, by kernel_rfl⟩ <|
  .cons ⟨by kernel_rfl, by kernel_rfl⟩ <|
  .cons ⟨by kernel_rfl, by kernel_rfl⟩ <|
  .cons ⟨by kernel_rfl, by kernel_rfl⟩ <|
  .cons ⟨by kernel_rfl, by kernel_rfl⟩ <|
  .cons ⟨by kernel_rfl, by kernel_rfl⟩ <|
  .cons ⟨by kernel_rfl, by kernel_rfl⟩ <|
  .cons ⟨by kernel_rfl, by kernel_rfl⟩ <|
  .cons ⟨by kernel_rfl, by kernel_rfl⟩ <|
  .cons ⟨by kernel_rfl, by kernel_rfl⟩ <|
  .cons ⟨by kernel_rfl, by kernel_rfl⟩ <|
  .cons ⟨by kernel_rfl, by kernel_rfl⟩ <|
  .cons ⟨by kernel_rfl, by kernel_rfl⟩ <|
  .cons ⟨by kernel_rfl, by kernel_rfl⟩ <|
  .cons ⟨by kernel_rfl, by kernel_rfl⟩ <|
  .cons ⟨by kernel_rfl, by kernel_rfl⟩ <|
  .cons ⟨by kernel_rfl, by kernel_rfl⟩ <|
  .cons ⟨by kernel_rfl, by kernel_rfl⟩ <|
  .cons ⟨by kernel_rfl, by kernel_rfl⟩ <|
  .cons ⟨by kernel_rfl, by kernel_rfl⟩ <|
  .cons ⟨by kernel_rfl, by kernel_rfl⟩ <|
  .cons ⟨by kernel_rfl, by kernel_rfl⟩ <|
  .cons ⟨by kernel_rfl, by kernel_rfl⟩ <|
  .cons ⟨by kernel_rfl, by kernel_rfl⟩ <|
  .cons ⟨by kernel_rfl, by kernel_rfl⟩ <|
  .cons ⟨by kernel_rfl, by kernel_rfl⟩ <|
  .cons ⟨by kernel_rfl, by kernel_rfl⟩ <|
  .cons ⟨by kernel_rfl, by kernel_rfl⟩ <|
  .cons ⟨by kernel_rfl, by kernel_rfl⟩ <|
  .cons ⟨by kernel_rfl, by kernel_rfl⟩ <|
  .cons ⟨by kernel_rfl, by kernel_rfl⟩ <|
  .cons ⟨by kernel_rfl, by kernel_rfl⟩ <|
  .cons ⟨by kernel_rfl, by kernel_rfl⟩ <|
  .cons ⟨by kernel_rfl, by kernel_rfl⟩ <|
  .cons ⟨by kernel_rfl, by kernel_rfl⟩ <|
  .cons ⟨by kernel_rfl, by kernel_rfl⟩ <|
  .nil
/-- What the starting world holds for the library: its table of powers of ten and its two sentinels. -/
structure Laid (W0 : World) : Prop where
  tab : Lib.TabIs Tryd.prog W0 "internal/strconv.uint64pow10" .u64 Lib.pow10Tab
  syn : ∃ tp p, W0.var? Tryd.prog "strconv.ErrSyntax" = some #[.iface tp p]
  ran : ∃ tp p, W0.var? Tryd.prog "strconv.ErrRange" = some #[.iface tp p]
theorem LL_ok {W0 : World} (h : Laid W0) : AllP (LibOk Tryd.prog W0 VL) LL :=
  .cons (sat_itoa (fn := Tryd.f51) (by kernel_rfl) (by kernel_rfl) (by kernel_rfl) (fun n h0 h1 w ht => Tryd.strconv_Itoa n h0 h1 w ht) h.tab) <|
  .cons (sat_atoi (fn := Tryd.f79) (by kernel_rfl) (by kernel_rfl) (by kernel_rfl) (fun s hm v hv w => Tryd.strconv_Atoi_ok s hm v hv w)
    (fun s hm hv hv' w hB => by
      obtain ⟨tp, p, h2⟩ := h.syn
      refine Calls.mono (Tryd.strconv_Atoi_bad_var s hm hv hv' tp p w (var_base hB h2)) ?_
      rintro e w' ⟨N, he, _, _, hb⟩
      exact ⟨_, _, he, hb⟩)
    (fun s hm hv w hB => by
      obtain ⟨tp, p, h2⟩ := h.ran
      refine Calls.mono (Tryd.strconv_Atoi_range_var s hm hv tp p w (var_base hB h2)) ?_
      rintro e w' ⟨N, he, _, _, hb⟩
      exact ⟨_, _, he, hb⟩)) <|
  .cons (fun vs out hv => sat_join (fn := Tryd.f53) (by kernel_rfl) (by kernel_rfl) (by kernel_rfl) (fun a c sep w => Tryd.strings_Join_none a c sep w) (fun bk o c xs sep w h1 h2 h3 h4 h5 => Tryd.strings_Join bk o c xs sep w h1 h2 h3 h4 h5) vs out hv 9) <|
  .nil
theorem envOk {W0 : World} (h : Laid W0) : EnvOk Tryd.prog W0 E := mkEnv_ok (by kernel_rfl) TL_ok FL_ok (LL_ok h)
end Go.Vm.D
