/- The types' table. -/
import Derived.Test.YtcmmbnhdfkcpdaaAd
import Derived.Test.YtcmmbnhdfkcpdaaProg
namespace Go.Proofs.Ytcmmbnhdfkcpdaa
open Go.Abs
set_option maxRecDepth 100000
theorem tyo_1 : tyOf Go.Proofs.Try.prog 1 = some ⟨false, 1, 8, [.nilf], .other⟩ := by kernel_rfl
@[go_sem] theorem ty_1 (F : TyI → Prop) : withTy Go.Proofs.Try.prog 1 (.mk F) = F ⟨false, 1, 8, [.nilf], .other⟩ := withTy_eq tyo_1 F
theorem tyo_2 : tyOf Go.Proofs.Try.prog 2 = some ⟨false, 1, 8, [.int .i64 0], .int .i64⟩ := by kernel_rfl
@[go_sem] theorem ty_2 (F : TyI → Prop) : withTy Go.Proofs.Try.prog 2 (.mk F) = F ⟨false, 1, 8, [.int .i64 0], .int .i64⟩ := withTy_eq tyo_2 F
theorem tyo_3 : tyOf Go.Proofs.Try.prog 3 = some ⟨false, 1, 8, [.int .i64 0], .int .i64⟩ := by kernel_rfl
@[go_sem] theorem ty_3 (F : TyI → Prop) : withTy Go.Proofs.Try.prog 3 (.mk F) = F ⟨false, 1, 8, [.int .i64 0], .int .i64⟩ := withTy_eq tyo_3 F
theorem tyo_4 : tyOf Go.Proofs.Try.prog 4 = some ⟨false, 1, 1, [.bool false], .other⟩ := by kernel_rfl
@[go_sem] theorem ty_4 (F : TyI → Prop) : withTy Go.Proofs.Try.prog 4 (.mk F) = F ⟨false, 1, 1, [.bool false], .other⟩ := withTy_eq tyo_4 F
theorem tyo_5 : tyOf Go.Proofs.Try.prog 5 = some ⟨false, 1, 1, [.int .u8 0], .int .u8⟩ := by kernel_rfl
@[go_sem] theorem ty_5 (F : TyI → Prop) : withTy Go.Proofs.Try.prog 5 (.mk F) = F ⟨false, 1, 1, [.int .u8 0], .int .u8⟩ := withTy_eq tyo_5 F
theorem tyo_6 : tyOf Go.Proofs.Try.prog 6 = some ⟨false, 1, 1, [.int .u8 0], .int .u8⟩ := by kernel_rfl
@[go_sem] theorem ty_6 (F : TyI → Prop) : withTy Go.Proofs.Try.prog 6 (.mk F) = F ⟨false, 1, 1, [.int .u8 0], .int .u8⟩ := withTy_eq tyo_6 F
theorem tyo_7 : tyOf Go.Proofs.Try.prog 7 = some ⟨true, 4, 24, [.int .i64 0, .int .i64 0, .bool false, .int .u8 0], .struct [(0, 1), (1, 1), (2, 1), (3, 1)]⟩ := by kernel_rfl
@[go_sem] theorem ty_7 (F : TyI → Prop) : withTy Go.Proofs.Try.prog 7 (.mk F) = F ⟨true, 4, 24, [.int .i64 0, .int .i64 0, .bool false, .int .u8 0], .struct [(0, 1), (1, 1), (2, 1), (3, 1)]⟩ := withTy_eq tyo_7 F
theorem tyo_8 : tyOf Go.Proofs.Try.prog 8 = some ⟨true, 4, 24, [.int .i64 0, .int .i64 0, .bool false, .int .u8 0], .struct [(0, 1), (1, 1), (2, 1), (3, 1)]⟩ := by kernel_rfl
@[go_sem] theorem ty_8 (F : TyI → Prop) : withTy Go.Proofs.Try.prog 8 (.mk F) = F ⟨true, 4, 24, [.int .i64 0, .int .i64 0, .bool false, .int .u8 0], .struct [(0, 1), (1, 1), (2, 1), (3, 1)]⟩ := withTy_eq tyo_8 F
theorem tyo_9 : tyOf Go.Proofs.Try.prog 9 = some ⟨false, 1, 16, [.str { data := { toList := [] } }], .str⟩ := by kernel_rfl
@[go_sem] theorem ty_9 (F : TyI → Prop) : withTy Go.Proofs.Try.prog 9 (.mk F) = F ⟨false, 1, 16, [.str { data := { toList := [] } }], .str⟩ := withTy_eq tyo_9 F
theorem tyo_10 : tyOf Go.Proofs.Try.prog 10 = some ⟨false, 1, 16, [.str { data := { toList := [] } }], .str⟩ := by kernel_rfl
@[go_sem] theorem ty_10 (F : TyI → Prop) : withTy Go.Proofs.Try.prog 10 (.mk F) = F ⟨false, 1, 16, [.str { data := { toList := [] } }], .str⟩ := withTy_eq tyo_10 F
theorem tyo_11 : tyOf Go.Proofs.Try.prog 11 = some ⟨false, 1, 16, [.str { data := { toList := [] } }], .str⟩ := by kernel_rfl
@[go_sem] theorem ty_11 (F : TyI → Prop) : withTy Go.Proofs.Try.prog 11 (.mk F) = F ⟨false, 1, 16, [.str { data := { toList := [] } }], .str⟩ := withTy_eq tyo_11 F
theorem tyo_12 : tyOf Go.Proofs.Try.prog 12 = some ⟨false, 1, 8, [.int .u64 0], .int .u64⟩ := by kernel_rfl
@[go_sem] theorem ty_12 (F : TyI → Prop) : withTy Go.Proofs.Try.prog 12 (.mk F) = F ⟨false, 1, 8, [.int .u64 0], .int .u64⟩ := withTy_eq tyo_12 F
theorem tyo_13 : tyOf Go.Proofs.Try.prog 13 = some ⟨true, 2, 24, [.str { data := { toList := [] } }, .int .u64 0], .struct [(0, 1), (1, 1)]⟩ := by kernel_rfl
@[go_sem] theorem ty_13 (F : TyI → Prop) : withTy Go.Proofs.Try.prog 13 (.mk F) = F ⟨true, 2, 24, [.str { data := { toList := [] } }, .int .u64 0], .struct [(0, 1), (1, 1)]⟩ := withTy_eq tyo_13 F
theorem tyo_14 : tyOf Go.Proofs.Try.prog 14 = some ⟨true, 2, 24, [.str { data := { toList := [] } }, .int .u64 0], .struct [(0, 1), (1, 1)]⟩ := by kernel_rfl
@[go_sem] theorem ty_14 (F : TyI → Prop) : withTy Go.Proofs.Try.prog 14 (.mk F) = F ⟨true, 2, 24, [.str { data := { toList := [] } }, .int .u64 0], .struct [(0, 1), (1, 1)]⟩ := withTy_eq tyo_14 F
theorem tyo_15 : tyOf Go.Proofs.Try.prog 15 = some ⟨false, 1, 8, [.nilp], .other⟩ := by kernel_rfl
@[go_sem] theorem ty_15 (F : TyI → Prop) : withTy Go.Proofs.Try.prog 15 (.mk F) = F ⟨false, 1, 8, [.nilp], .other⟩ := withTy_eq tyo_15 F
theorem tyo_16 : tyOf Go.Proofs.Try.prog 16 = some ⟨false, 1, 8, [.nilp], .other⟩ := by kernel_rfl
@[go_sem] theorem ty_16 (F : TyI → Prop) : withTy Go.Proofs.Try.prog 16 (.mk F) = F ⟨false, 1, 8, [.nilp], .other⟩ := withTy_eq tyo_16 F
theorem tyo_17 : tyOf Go.Proofs.Try.prog 17 = some ⟨false, 1, 8, [.nilp], .other⟩ := by kernel_rfl
@[go_sem] theorem ty_17 (F : TyI → Prop) : withTy Go.Proofs.Try.prog 17 (.mk F) = F ⟨false, 1, 8, [.nilp], .other⟩ := withTy_eq tyo_17 F
theorem tyo_18 : tyOf Go.Proofs.Try.prog 18 = some ⟨true, 1, 8, [.nilp], .struct [(0, 1)]⟩ := by kernel_rfl
@[go_sem] theorem ty_18 (F : TyI → Prop) : withTy Go.Proofs.Try.prog 18 (.mk F) = F ⟨true, 1, 8, [.nilp], .struct [(0, 1)]⟩ := withTy_eq tyo_18 F
theorem tyo_19 : tyOf Go.Proofs.Try.prog 19 = some ⟨true, 1, 8, [.nilp], .struct [(0, 1)]⟩ := by kernel_rfl
@[go_sem] theorem ty_19 (F : TyI → Prop) : withTy Go.Proofs.Try.prog 19 (.mk F) = F ⟨true, 1, 8, [.nilp], .struct [(0, 1)]⟩ := withTy_eq tyo_19 F
theorem tyo_21 : tyOf Go.Proofs.Try.prog 21 = some ⟨false, 1, 4, [.int .i32 0], .int .i32⟩ := by kernel_rfl
@[go_sem] theorem ty_21 (F : TyI → Prop) : withTy Go.Proofs.Try.prog 21 (.mk F) = F ⟨false, 1, 4, [.int .i32 0], .int .i32⟩ := withTy_eq tyo_21 F
theorem tyo_22 : tyOf Go.Proofs.Try.prog 22 = some ⟨false, 1, 24, [.nils], .slice 1 8 [.int .i64 0]⟩ := by kernel_rfl
@[go_sem] theorem ty_22 (F : TyI → Prop) : withTy Go.Proofs.Try.prog 22 (.mk F) = F ⟨false, 1, 24, [.nils], .slice 1 8 [.int .i64 0]⟩ := withTy_eq tyo_22 F
theorem tyo_23 : tyOf Go.Proofs.Try.prog 23 = some ⟨true, 5, 56, [.int .i64 0, .int .i64 0, .int .i64 0, .int .i64 0, .nils], .struct [(0, 1), (1, 1), (2, 1), (3, 1), (4, 1)]⟩ := by kernel_rfl
@[go_sem] theorem ty_23 (F : TyI → Prop) : withTy Go.Proofs.Try.prog 23 (.mk F) = F ⟨true, 5, 56, [.int .i64 0, .int .i64 0, .int .i64 0, .int .i64 0, .nils], .struct [(0, 1), (1, 1), (2, 1), (3, 1), (4, 1)]⟩ := withTy_eq tyo_23 F
theorem tyo_24 : tyOf Go.Proofs.Try.prog 24 = some ⟨true, 5, 56, [.int .i64 0, .int .i64 0, .int .i64 0, .int .i64 0, .nils], .struct [(0, 1), (1, 1), (2, 1), (3, 1), (4, 1)]⟩ := by kernel_rfl
@[go_sem] theorem ty_24 (F : TyI → Prop) : withTy Go.Proofs.Try.prog 24 (.mk F) = F ⟨true, 5, 56, [.int .i64 0, .int .i64 0, .int .i64 0, .int .i64 0, .nils], .struct [(0, 1), (1, 1), (2, 1), (3, 1), (4, 1)]⟩ := withTy_eq tyo_24 F
theorem tyo_25 : tyOf Go.Proofs.Try.prog 25 = some ⟨false, 1, 8, [.nilf], .other⟩ := by kernel_rfl
@[go_sem] theorem ty_25 (F : TyI → Prop) : withTy Go.Proofs.Try.prog 25 (.mk F) = F ⟨false, 1, 8, [.nilf], .other⟩ := withTy_eq tyo_25 F
theorem tyo_27 : tyOf Go.Proofs.Try.prog 27 = some ⟨false, 1, 8, [.nilf], .other⟩ := by kernel_rfl
@[go_sem] theorem ty_27 (F : TyI → Prop) : withTy Go.Proofs.Try.prog 27 (.mk F) = F ⟨false, 1, 8, [.nilf], .other⟩ := withTy_eq tyo_27 F
theorem tyo_28 : tyOf Go.Proofs.Try.prog 28 = some ⟨true, 5, 56, [.int .i64 0, .int .i64 0, .int .i64 0, .int .i64 0, .nils], .struct [(0, 1), (1, 1), (2, 1), (3, 1), (4, 1)]⟩ := by kernel_rfl
@[go_sem] theorem ty_28 (F : TyI → Prop) : withTy Go.Proofs.Try.prog 28 (.mk F) = F ⟨true, 5, 56, [.int .i64 0, .int .i64 0, .int .i64 0, .int .i64 0, .nils], .struct [(0, 1), (1, 1), (2, 1), (3, 1), (4, 1)]⟩ := withTy_eq tyo_28 F
theorem tyo_29 : tyOf Go.Proofs.Try.prog 29 = some ⟨false, 1, 8, [.nilf], .other⟩ := by kernel_rfl
@[go_sem] theorem ty_29 (F : TyI → Prop) : withTy Go.Proofs.Try.prog 29 (.mk F) = F ⟨false, 1, 8, [.nilf], .other⟩ := withTy_eq tyo_29 F
theorem tyo_30 : tyOf Go.Proofs.Try.prog 30 = some ⟨false, 1, 8, [.nilf], .other⟩ := by kernel_rfl
@[go_sem] theorem ty_30 (F : TyI → Prop) : withTy Go.Proofs.Try.prog 30 (.mk F) = F ⟨false, 1, 8, [.nilf], .other⟩ := withTy_eq tyo_30 F
theorem tyo_31 : tyOf Go.Proofs.Try.prog 31 = some ⟨false, 1, 8, [.nilf], .other⟩ := by kernel_rfl
@[go_sem] theorem ty_31 (F : TyI → Prop) : withTy Go.Proofs.Try.prog 31 (.mk F) = F ⟨false, 1, 8, [.nilf], .other⟩ := withTy_eq tyo_31 F
theorem tyo_32 : tyOf Go.Proofs.Try.prog 32 = some ⟨false, 1, 24, [.nils], .slice 18 18 (u8s (zeros 18))⟩ := by kernel_rfl
@[go_sem] theorem ty_32 (F : TyI → Prop) : withTy Go.Proofs.Try.prog 32 (.mk F) = F ⟨false, 1, 24, [.nils], .slice 18 18 (u8s (zeros 18))⟩ := withTy_eq tyo_32 F
theorem tyo_33 : tyOf Go.Proofs.Try.prog 33 = some ⟨false, 1, 8, [.nilf], .other⟩ := by kernel_rfl
@[go_sem] theorem ty_33 (F : TyI → Prop) : withTy Go.Proofs.Try.prog 33 (.mk F) = F ⟨false, 1, 8, [.nilf], .other⟩ := withTy_eq tyo_33 F
theorem tyo_34 : tyOf Go.Proofs.Try.prog 34 = some ⟨false, 1, 8, [.nilf], .other⟩ := by kernel_rfl
@[go_sem] theorem ty_34 (F : TyI → Prop) : withTy Go.Proofs.Try.prog 34 (.mk F) = F ⟨false, 1, 8, [.nilf], .other⟩ := withTy_eq tyo_34 F
theorem tyo_35 : tyOf Go.Proofs.Try.prog 35 = some ⟨false, 1, 24, [.nils], .slice 18 18 (u8s (zeros 18))⟩ := by kernel_rfl
@[go_sem] theorem ty_35 (F : TyI → Prop) : withTy Go.Proofs.Try.prog 35 (.mk F) = F ⟨false, 1, 24, [.nils], .slice 18 18 (u8s (zeros 18))⟩ := withTy_eq tyo_35 F
theorem tyo_36 : tyOf Go.Proofs.Try.prog 36 = some ⟨false, 1, 8, [.nilf], .other⟩ := by kernel_rfl
@[go_sem] theorem ty_36 (F : TyI → Prop) : withTy Go.Proofs.Try.prog 36 (.mk F) = F ⟨false, 1, 8, [.nilf], .other⟩ := withTy_eq tyo_36 F
theorem tyo_37 : tyOf Go.Proofs.Try.prog 37 = some ⟨false, 1, 8, [.nilf], .other⟩ := by kernel_rfl
@[go_sem] theorem ty_37 (F : TyI → Prop) : withTy Go.Proofs.Try.prog 37 (.mk F) = F ⟨false, 1, 8, [.nilf], .other⟩ := withTy_eq tyo_37 F
theorem tyo_38 : tyOf Go.Proofs.Try.prog 38 = some ⟨false, 1, 8, [.nilf], .other⟩ := by kernel_rfl
@[go_sem] theorem ty_38 (F : TyI → Prop) : withTy Go.Proofs.Try.prog 38 (.mk F) = F ⟨false, 1, 8, [.nilf], .other⟩ := withTy_eq tyo_38 F
theorem tyo_39 : tyOf Go.Proofs.Try.prog 39 = some ⟨false, 1, 24, [.nils], .slice 27 27 (u8s (zeros 27))⟩ := by kernel_rfl
@[go_sem] theorem ty_39 (F : TyI → Prop) : withTy Go.Proofs.Try.prog 39 (.mk F) = F ⟨false, 1, 24, [.nils], .slice 27 27 (u8s (zeros 27))⟩ := withTy_eq tyo_39 F
theorem tyo_40 : tyOf Go.Proofs.Try.prog 40 = some ⟨true, 5, 56, [.int .i64 0, .int .i64 0, .int .i64 0, .int .i64 0, .nils], .struct [(0, 1), (1, 1), (2, 1), (3, 1), (4, 1)]⟩ := by kernel_rfl
@[go_sem] theorem ty_40 (F : TyI → Prop) : withTy Go.Proofs.Try.prog 40 (.mk F) = F ⟨true, 5, 56, [.int .i64 0, .int .i64 0, .int .i64 0, .int .i64 0, .nils], .struct [(0, 1), (1, 1), (2, 1), (3, 1), (4, 1)]⟩ := withTy_eq tyo_40 F
theorem tyo_41 : tyOf Go.Proofs.Try.prog 41 = some ⟨true, 5, 56, [.int .i64 0, .int .i64 0, .int .i64 0, .int .i64 0, .nils], .struct [(0, 1), (1, 1), (2, 1), (3, 1), (4, 1)]⟩ := by kernel_rfl
@[go_sem] theorem ty_41 (F : TyI → Prop) : withTy Go.Proofs.Try.prog 41 (.mk F) = F ⟨true, 5, 56, [.int .i64 0, .int .i64 0, .int .i64 0, .int .i64 0, .nils], .struct [(0, 1), (1, 1), (2, 1), (3, 1), (4, 1)]⟩ := withTy_eq tyo_41 F
theorem tyo_43 : tyOf Go.Proofs.Try.prog 43 = some ⟨false, 1, 8, [.nilf], .other⟩ := by kernel_rfl
@[go_sem] theorem ty_43 (F : TyI → Prop) : withTy Go.Proofs.Try.prog 43 (.mk F) = F ⟨false, 1, 8, [.nilf], .other⟩ := withTy_eq tyo_43 F
theorem tyo_44 : tyOf Go.Proofs.Try.prog 44 = some ⟨false, 1, 8, [.nilf], .other⟩ := by kernel_rfl
@[go_sem] theorem ty_44 (F : TyI → Prop) : withTy Go.Proofs.Try.prog 44 (.mk F) = F ⟨false, 1, 8, [.nilf], .other⟩ := withTy_eq tyo_44 F
theorem tyo_45 : tyOf Go.Proofs.Try.prog 45 = some ⟨false, 1, 8, [.nilf], .other⟩ := by kernel_rfl
@[go_sem] theorem ty_45 (F : TyI → Prop) : withTy Go.Proofs.Try.prog 45 (.mk F) = F ⟨false, 1, 8, [.nilf], .other⟩ := withTy_eq tyo_45 F
theorem tyo_46 : tyOf Go.Proofs.Try.prog 46 = some ⟨false, 1, 8, [.nilf], .other⟩ := by kernel_rfl
@[go_sem] theorem ty_46 (F : TyI → Prop) : withTy Go.Proofs.Try.prog 46 (.mk F) = F ⟨false, 1, 8, [.nilf], .other⟩ := withTy_eq tyo_46 F
theorem tyo_47 : tyOf Go.Proofs.Try.prog 47 = some ⟨false, 1, 24, [.nils], .slice 27 27 (u8s (zeros 27))⟩ := by kernel_rfl
@[go_sem] theorem ty_47 (F : TyI → Prop) : withTy Go.Proofs.Try.prog 47 (.mk F) = F ⟨false, 1, 24, [.nils], .slice 27 27 (u8s (zeros 27))⟩ := withTy_eq tyo_47 F
theorem tyo_48 : tyOf Go.Proofs.Try.prog 48 = some ⟨true, 5, 56, [.int .i64 0, .int .i64 0, .int .i64 0, .int .i64 0, .nils], .struct [(0, 1), (1, 1), (2, 1), (3, 1), (4, 1)]⟩ := by kernel_rfl
@[go_sem] theorem ty_48 (F : TyI → Prop) : withTy Go.Proofs.Try.prog 48 (.mk F) = F ⟨true, 5, 56, [.int .i64 0, .int .i64 0, .int .i64 0, .int .i64 0, .nils], .struct [(0, 1), (1, 1), (2, 1), (3, 1), (4, 1)]⟩ := withTy_eq tyo_48 F
theorem tyo_49 : tyOf Go.Proofs.Try.prog 49 = some ⟨true, 5, 56, [.int .i64 0, .int .i64 0, .int .i64 0, .int .i64 0, .nils], .struct [(0, 1), (1, 1), (2, 1), (3, 1), (4, 1)]⟩ := by kernel_rfl
@[go_sem] theorem ty_49 (F : TyI → Prop) : withTy Go.Proofs.Try.prog 49 (.mk F) = F ⟨true, 5, 56, [.int .i64 0, .int .i64 0, .int .i64 0, .int .i64 0, .nils], .struct [(0, 1), (1, 1), (2, 1), (3, 1), (4, 1)]⟩ := withTy_eq tyo_49 F
theorem tyo_50 : tyOf Go.Proofs.Try.prog 50 = some ⟨false, 1, 8, [.nilf], .other⟩ := by kernel_rfl
@[go_sem] theorem ty_50 (F : TyI → Prop) : withTy Go.Proofs.Try.prog 50 (.mk F) = F ⟨false, 1, 8, [.nilf], .other⟩ := withTy_eq tyo_50 F
theorem tyo_52 : tyOf Go.Proofs.Try.prog 52 = some ⟨false, 1, 8, [.nilf], .other⟩ := by kernel_rfl
@[go_sem] theorem ty_52 (F : TyI → Prop) : withTy Go.Proofs.Try.prog 52 (.mk F) = F ⟨false, 1, 8, [.nilf], .other⟩ := withTy_eq tyo_52 F
theorem tyo_53 : tyOf Go.Proofs.Try.prog 53 = some ⟨false, 1, 8, [.nilf], .other⟩ := by kernel_rfl
@[go_sem] theorem ty_53 (F : TyI → Prop) : withTy Go.Proofs.Try.prog 53 (.mk F) = F ⟨false, 1, 8, [.nilf], .other⟩ := withTy_eq tyo_53 F
theorem tyo_54 : tyOf Go.Proofs.Try.prog 54 = some ⟨false, 1, 8, [.nilf], .other⟩ := by kernel_rfl
@[go_sem] theorem ty_54 (F : TyI → Prop) : withTy Go.Proofs.Try.prog 54 (.mk F) = F ⟨false, 1, 8, [.nilf], .other⟩ := withTy_eq tyo_54 F
theorem tyo_55 : tyOf Go.Proofs.Try.prog 55 = some ⟨false, 1, 8, [.nilf], .other⟩ := by kernel_rfl
@[go_sem] theorem ty_55 (F : TyI → Prop) : withTy Go.Proofs.Try.prog 55 (.mk F) = F ⟨false, 1, 8, [.nilf], .other⟩ := withTy_eq tyo_55 F
theorem tyo_56 : tyOf Go.Proofs.Try.prog 56 = some ⟨false, 1, 8, [.nilf], .other⟩ := by kernel_rfl
@[go_sem] theorem ty_56 (F : TyI → Prop) : withTy Go.Proofs.Try.prog 56 (.mk F) = F ⟨false, 1, 8, [.nilf], .other⟩ := withTy_eq tyo_56 F
theorem tyo_57 : tyOf Go.Proofs.Try.prog 57 = some ⟨false, 1, 8, [.nilf], .other⟩ := by kernel_rfl
@[go_sem] theorem ty_57 (F : TyI → Prop) : withTy Go.Proofs.Try.prog 57 (.mk F) = F ⟨false, 1, 8, [.nilf], .other⟩ := withTy_eq tyo_57 F
theorem tyo_58 : tyOf Go.Proofs.Try.prog 58 = some ⟨false, 1, 8, [.nilf], .other⟩ := by kernel_rfl
@[go_sem] theorem ty_58 (F : TyI → Prop) : withTy Go.Proofs.Try.prog 58 (.mk F) = F ⟨false, 1, 8, [.nilf], .other⟩ := withTy_eq tyo_58 F
theorem tyo_59 : tyOf Go.Proofs.Try.prog 59 = some ⟨false, 1, 8, [.nilf], .other⟩ := by kernel_rfl
@[go_sem] theorem ty_59 (F : TyI → Prop) : withTy Go.Proofs.Try.prog 59 (.mk F) = F ⟨false, 1, 8, [.nilf], .other⟩ := withTy_eq tyo_59 F
theorem tyo_60 : tyOf Go.Proofs.Try.prog 60 = some ⟨false, 1, 8, [.nilf], .other⟩ := by kernel_rfl
@[go_sem] theorem ty_60 (F : TyI → Prop) : withTy Go.Proofs.Try.prog 60 (.mk F) = F ⟨false, 1, 8, [.nilf], .other⟩ := withTy_eq tyo_60 F
theorem tyo_61 : tyOf Go.Proofs.Try.prog 61 = some ⟨false, 1, 24, [.nils], .slice 1 1 [.int .u8 0]⟩ := by kernel_rfl
@[go_sem] theorem ty_61 (F : TyI → Prop) : withTy Go.Proofs.Try.prog 61 (.mk F) = F ⟨false, 1, 24, [.nils], .slice 1 1 [.int .u8 0]⟩ := withTy_eq tyo_61 F
theorem tyo_62 : tyOf Go.Proofs.Try.prog 62 = some ⟨false, 1, 8, [.nilf], .other⟩ := by kernel_rfl
@[go_sem] theorem ty_62 (F : TyI → Prop) : withTy Go.Proofs.Try.prog 62 (.mk F) = F ⟨false, 1, 8, [.nilf], .other⟩ := withTy_eq tyo_62 F
theorem tyo_64 : tyOf Go.Proofs.Try.prog 64 = some ⟨false, 1, 8, [.nilf], .other⟩ := by kernel_rfl
@[go_sem] theorem ty_64 (F : TyI → Prop) : withTy Go.Proofs.Try.prog 64 (.mk F) = F ⟨false, 1, 8, [.nilf], .other⟩ := withTy_eq tyo_64 F
theorem tyo_66 : tyOf Go.Proofs.Try.prog 66 = some ⟨false, 1, 8, [.nilf], .other⟩ := by kernel_rfl
@[go_sem] theorem ty_66 (F : TyI → Prop) : withTy Go.Proofs.Try.prog 66 (.mk F) = F ⟨false, 1, 8, [.nilf], .other⟩ := withTy_eq tyo_66 F
theorem tyo_67 : tyOf Go.Proofs.Try.prog 67 = some ⟨false, 1, 8, [.nilf], .other⟩ := by kernel_rfl
@[go_sem] theorem ty_67 (F : TyI → Prop) : withTy Go.Proofs.Try.prog 67 (.mk F) = F ⟨false, 1, 8, [.nilf], .other⟩ := withTy_eq tyo_67 F
theorem tyo_69 : tyOf Go.Proofs.Try.prog 69 = some ⟨false, 1, 8, [.nilf], .other⟩ := by kernel_rfl
@[go_sem] theorem ty_69 (F : TyI → Prop) : withTy Go.Proofs.Try.prog 69 (.mk F) = F ⟨false, 1, 8, [.nilf], .other⟩ := withTy_eq tyo_69 F
theorem tyo_70 : tyOf Go.Proofs.Try.prog 70 = some ⟨false, 1, 8, [.nilf], .other⟩ := by kernel_rfl
@[go_sem] theorem ty_70 (F : TyI → Prop) : withTy Go.Proofs.Try.prog 70 (.mk F) = F ⟨false, 1, 8, [.nilf], .other⟩ := withTy_eq tyo_70 F
theorem tyo_71 : tyOf Go.Proofs.Try.prog 71 = some ⟨false, 1, 8, [.nilf], .other⟩ := by kernel_rfl
@[go_sem] theorem ty_71 (F : TyI → Prop) : withTy Go.Proofs.Try.prog 71 (.mk F) = F ⟨false, 1, 8, [.nilf], .other⟩ := withTy_eq tyo_71 F
theorem tyo_72 : tyOf Go.Proofs.Try.prog 72 = some ⟨false, 1, 8, [.nilf], .other⟩ := by kernel_rfl
@[go_sem] theorem ty_72 (F : TyI → Prop) : withTy Go.Proofs.Try.prog 72 (.mk F) = F ⟨false, 1, 8, [.nilf], .other⟩ := withTy_eq tyo_72 F
theorem tyo_74 : tyOf Go.Proofs.Try.prog 74 = some ⟨false, 1, 8, [.nilf], .other⟩ := by kernel_rfl
@[go_sem] theorem ty_74 (F : TyI → Prop) : withTy Go.Proofs.Try.prog 74 (.mk F) = F ⟨false, 1, 8, [.nilf], .other⟩ := withTy_eq tyo_74 F
theorem tyo_75 : tyOf Go.Proofs.Try.prog 75 = some ⟨false, 1, 8, [.nilf], .other⟩ := by kernel_rfl
@[go_sem] theorem ty_75 (F : TyI → Prop) : withTy Go.Proofs.Try.prog 75 (.mk F) = F ⟨false, 1, 8, [.nilf], .other⟩ := withTy_eq tyo_75 F
theorem tyo_76 : tyOf Go.Proofs.Try.prog 76 = some ⟨false, 1, 8, [.nilf], .other⟩ := by kernel_rfl
@[go_sem] theorem ty_76 (F : TyI → Prop) : withTy Go.Proofs.Try.prog 76 (.mk F) = F ⟨false, 1, 8, [.nilf], .other⟩ := withTy_eq tyo_76 F
theorem tyo_77 : tyOf Go.Proofs.Try.prog 77 = some ⟨false, 1, 8, [.nilf], .other⟩ := by kernel_rfl
@[go_sem] theorem ty_77 (F : TyI → Prop) : withTy Go.Proofs.Try.prog 77 (.mk F) = F ⟨false, 1, 8, [.nilf], .other⟩ := withTy_eq tyo_77 F
theorem tyo_78 : tyOf Go.Proofs.Try.prog 78 = some ⟨false, 1, 24, [.nils], .slice 1 24 [.nils]⟩ := by kernel_rfl
@[go_sem] theorem ty_78 (F : TyI → Prop) : withTy Go.Proofs.Try.prog 78 (.mk F) = F ⟨false, 1, 24, [.nils], .slice 1 24 [.nils]⟩ := withTy_eq tyo_78 F
theorem tyo_80 : tyOf Go.Proofs.Try.prog 80 = some ⟨false, 1, 8, [.nilf], .other⟩ := by kernel_rfl
@[go_sem] theorem ty_80 (F : TyI → Prop) : withTy Go.Proofs.Try.prog 80 (.mk F) = F ⟨false, 1, 8, [.nilf], .other⟩ := withTy_eq tyo_80 F
theorem tyo_82 : tyOf Go.Proofs.Try.prog 82 = some ⟨false, 1, 8, [.nilf], .other⟩ := by kernel_rfl
@[go_sem] theorem ty_82 (F : TyI → Prop) : withTy Go.Proofs.Try.prog 82 (.mk F) = F ⟨false, 1, 8, [.nilf], .other⟩ := withTy_eq tyo_82 F
theorem tyo_84 : tyOf Go.Proofs.Try.prog 84 = some ⟨false, 1, 8, [.nilf], .other⟩ := by kernel_rfl
@[go_sem] theorem ty_84 (F : TyI → Prop) : withTy Go.Proofs.Try.prog 84 (.mk F) = F ⟨false, 1, 8, [.nilf], .other⟩ := withTy_eq tyo_84 F
theorem tyo_85 : tyOf Go.Proofs.Try.prog 85 = some ⟨false, 1, 8, [.nilf], .other⟩ := by kernel_rfl
@[go_sem] theorem ty_85 (F : TyI → Prop) : withTy Go.Proofs.Try.prog 85 (.mk F) = F ⟨false, 1, 8, [.nilf], .other⟩ := withTy_eq tyo_85 F
theorem tyo_86 : tyOf Go.Proofs.Try.prog 86 = some ⟨false, 1, 8, [.nilf], .other⟩ := by kernel_rfl
@[go_sem] theorem ty_86 (F : TyI → Prop) : withTy Go.Proofs.Try.prog 86 (.mk F) = F ⟨false, 1, 8, [.nilf], .other⟩ := withTy_eq tyo_86 F
theorem tyo_87 : tyOf Go.Proofs.Try.prog 87 = some ⟨false, 1, 8, [.nilf], .other⟩ := by kernel_rfl
@[go_sem] theorem ty_87 (F : TyI → Prop) : withTy Go.Proofs.Try.prog 87 (.mk F) = F ⟨false, 1, 8, [.nilf], .other⟩ := withTy_eq tyo_87 F
theorem tyo_88 : tyOf Go.Proofs.Try.prog 88 = some ⟨false, 1, 8, [.nilf], .other⟩ := by kernel_rfl
@[go_sem] theorem ty_88 (F : TyI → Prop) : withTy Go.Proofs.Try.prog 88 (.mk F) = F ⟨false, 1, 8, [.nilf], .other⟩ := withTy_eq tyo_88 F
theorem tyo_89 : tyOf Go.Proofs.Try.prog 89 = some ⟨false, 1, 8, [.nilf], .other⟩ := by kernel_rfl
@[go_sem] theorem ty_89 (F : TyI → Prop) : withTy Go.Proofs.Try.prog 89 (.mk F) = F ⟨false, 1, 8, [.nilf], .other⟩ := withTy_eq tyo_89 F
theorem tyo_90 : tyOf Go.Proofs.Try.prog 90 = some ⟨false, 1, 8, [.nilf], .other⟩ := by kernel_rfl
@[go_sem] theorem ty_90 (F : TyI → Prop) : withTy Go.Proofs.Try.prog 90 (.mk F) = F ⟨false, 1, 8, [.nilf], .other⟩ := withTy_eq tyo_90 F
theorem tyo_91 : tyOf Go.Proofs.Try.prog 91 = some ⟨false, 1, 8, [.nilf], .other⟩ := by kernel_rfl
@[go_sem] theorem ty_91 (F : TyI → Prop) : withTy Go.Proofs.Try.prog 91 (.mk F) = F ⟨false, 1, 8, [.nilf], .other⟩ := withTy_eq tyo_91 F
theorem tyo_92 : tyOf Go.Proofs.Try.prog 92 = some ⟨false, 1, 8, [.nilf], .other⟩ := by kernel_rfl
@[go_sem] theorem ty_92 (F : TyI → Prop) : withTy Go.Proofs.Try.prog 92 (.mk F) = F ⟨false, 1, 8, [.nilf], .other⟩ := withTy_eq tyo_92 F
theorem tyo_94 : tyOf Go.Proofs.Try.prog 94 = some ⟨false, 1, 8, [.nilf], .other⟩ := by kernel_rfl
@[go_sem] theorem ty_94 (F : TyI → Prop) : withTy Go.Proofs.Try.prog 94 (.mk F) = F ⟨false, 1, 8, [.nilf], .other⟩ := withTy_eq tyo_94 F
theorem tyo_95 : tyOf Go.Proofs.Try.prog 95 = some ⟨true, 9, 9, u8s (zeros 9), .array 9 1 false⟩ := by kernel_rfl
@[go_sem] theorem ty_95 (F : TyI → Prop) : withTy Go.Proofs.Try.prog 95 (.mk F) = F ⟨true, 9, 9, u8s (zeros 9), .array 9 1 false⟩ := withTy_eq tyo_95 F
theorem tyo_96 : tyOf Go.Proofs.Try.prog 96 = some ⟨true, 9, 9, u8s (zeros 9), .array 9 1 false⟩ := by kernel_rfl
@[go_sem] theorem ty_96 (F : TyI → Prop) : withTy Go.Proofs.Try.prog 96 (.mk F) = F ⟨true, 9, 9, u8s (zeros 9), .array 9 1 false⟩ := withTy_eq tyo_96 F
theorem tyo_97 : tyOf Go.Proofs.Try.prog 97 = some ⟨true, 18, 18, u8s (zeros 18), .struct [(0, 9), (9, 9)]⟩ := by kernel_rfl
@[go_sem] theorem ty_97 (F : TyI → Prop) : withTy Go.Proofs.Try.prog 97 (.mk F) = F ⟨true, 18, 18, u8s (zeros 18), .struct [(0, 9), (9, 9)]⟩ := withTy_eq tyo_97 F
theorem tyo_98 : tyOf Go.Proofs.Try.prog 98 = some ⟨true, 18, 18, u8s (zeros 18), .struct [(0, 9), (9, 9)]⟩ := by kernel_rfl
@[go_sem] theorem ty_98 (F : TyI → Prop) : withTy Go.Proofs.Try.prog 98 (.mk F) = F ⟨true, 18, 18, u8s (zeros 18), .struct [(0, 9), (9, 9)]⟩ := withTy_eq tyo_98 F
theorem tyo_99 : tyOf Go.Proofs.Try.prog 99 = some ⟨false, 1, 8, [.nilf], .other⟩ := by kernel_rfl
@[go_sem] theorem ty_99 (F : TyI → Prop) : withTy Go.Proofs.Try.prog 99 (.mk F) = F ⟨false, 1, 8, [.nilf], .other⟩ := withTy_eq tyo_99 F
theorem tyo_100 : tyOf Go.Proofs.Try.prog 100 = some ⟨true, 18, 18, u8s (zeros 18), .struct [(0, 9), (9, 9)]⟩ := by kernel_rfl
@[go_sem] theorem ty_100 (F : TyI → Prop) : withTy Go.Proofs.Try.prog 100 (.mk F) = F ⟨true, 18, 18, u8s (zeros 18), .struct [(0, 9), (9, 9)]⟩ := withTy_eq tyo_100 F
theorem tyo_101 : tyOf Go.Proofs.Try.prog 101 = some ⟨true, 18, 18, u8s (zeros 18), .struct [(0, 9), (9, 9)]⟩ := by kernel_rfl
@[go_sem] theorem ty_101 (F : TyI → Prop) : withTy Go.Proofs.Try.prog 101 (.mk F) = F ⟨true, 18, 18, u8s (zeros 18), .struct [(0, 9), (9, 9)]⟩ := withTy_eq tyo_101 F
theorem tyo_102 : tyOf Go.Proofs.Try.prog 102 = some ⟨false, 1, 24, [.nils], .slice 1 8 [.int .i64 0]⟩ := by kernel_rfl
@[go_sem] theorem ty_102 (F : TyI → Prop) : withTy Go.Proofs.Try.prog 102 (.mk F) = F ⟨false, 1, 24, [.nils], .slice 1 8 [.int .i64 0]⟩ := withTy_eq tyo_102 F
theorem tyo_103 : tyOf Go.Proofs.Try.prog 103 = some ⟨false, 1, 8, [.nilf], .other⟩ := by kernel_rfl
@[go_sem] theorem ty_103 (F : TyI → Prop) : withTy Go.Proofs.Try.prog 103 (.mk F) = F ⟨false, 1, 8, [.nilf], .other⟩ := withTy_eq tyo_103 F
theorem tyo_104 : tyOf Go.Proofs.Try.prog 104 = some ⟨false, 1, 8, [.nilf], .other⟩ := by kernel_rfl
@[go_sem] theorem ty_104 (F : TyI → Prop) : withTy Go.Proofs.Try.prog 104 (.mk F) = F ⟨false, 1, 8, [.nilf], .other⟩ := withTy_eq tyo_104 F
theorem tyo_105 : tyOf Go.Proofs.Try.prog 105 = some ⟨false, 1, 8, [.nilf], .other⟩ := by kernel_rfl
@[go_sem] theorem ty_105 (F : TyI → Prop) : withTy Go.Proofs.Try.prog 105 (.mk F) = F ⟨false, 1, 8, [.nilf], .other⟩ := withTy_eq tyo_105 F
theorem tyo_107 : tyOf Go.Proofs.Try.prog 107 = some ⟨false, 1, 8, [.nilf], .other⟩ := by kernel_rfl
@[go_sem] theorem ty_107 (F : TyI → Prop) : withTy Go.Proofs.Try.prog 107 (.mk F) = F ⟨false, 1, 8, [.nilf], .other⟩ := withTy_eq tyo_107 F
theorem tyo_108 : tyOf Go.Proofs.Try.prog 108 = some ⟨false, 1, 8, [.nilf], .other⟩ := by kernel_rfl
@[go_sem] theorem ty_108 (F : TyI → Prop) : withTy Go.Proofs.Try.prog 108 (.mk F) = F ⟨false, 1, 8, [.nilf], .other⟩ := withTy_eq tyo_108 F
theorem tyo_109 : tyOf Go.Proofs.Try.prog 109 = some ⟨false, 1, 8, [.nilf], .other⟩ := by kernel_rfl
@[go_sem] theorem ty_109 (F : TyI → Prop) : withTy Go.Proofs.Try.prog 109 (.mk F) = F ⟨false, 1, 8, [.nilf], .other⟩ := withTy_eq tyo_109 F
theorem tyo_110 : tyOf Go.Proofs.Try.prog 110 = some ⟨false, 1, 8, [.nilf], .other⟩ := by kernel_rfl
@[go_sem] theorem ty_110 (F : TyI → Prop) : withTy Go.Proofs.Try.prog 110 (.mk F) = F ⟨false, 1, 8, [.nilf], .other⟩ := withTy_eq tyo_110 F
theorem tyo_111 : tyOf Go.Proofs.Try.prog 111 = some ⟨false, 1, 8, [.nilf], .other⟩ := by kernel_rfl
@[go_sem] theorem ty_111 (F : TyI → Prop) : withTy Go.Proofs.Try.prog 111 (.mk F) = F ⟨false, 1, 8, [.nilf], .other⟩ := withTy_eq tyo_111 F
theorem tyo_112 : tyOf Go.Proofs.Try.prog 112 = some ⟨false, 1, 8, [.nilf], .other⟩ := by kernel_rfl
@[go_sem] theorem ty_112 (F : TyI → Prop) : withTy Go.Proofs.Try.prog 112 (.mk F) = F ⟨false, 1, 8, [.nilf], .other⟩ := withTy_eq tyo_112 F
theorem tyo_113 : tyOf Go.Proofs.Try.prog 113 = some ⟨false, 1, 8, [.nilf], .other⟩ := by kernel_rfl
@[go_sem] theorem ty_113 (F : TyI → Prop) : withTy Go.Proofs.Try.prog 113 (.mk F) = F ⟨false, 1, 8, [.nilf], .other⟩ := withTy_eq tyo_113 F
theorem tyo_114 : tyOf Go.Proofs.Try.prog 114 = some ⟨false, 1, 8, [.nilf], .other⟩ := by kernel_rfl
@[go_sem] theorem ty_114 (F : TyI → Prop) : withTy Go.Proofs.Try.prog 114 (.mk F) = F ⟨false, 1, 8, [.nilf], .other⟩ := withTy_eq tyo_114 F
theorem tyo_115 : tyOf Go.Proofs.Try.prog 115 = some ⟨false, 1, 8, [.nilf], .other⟩ := by kernel_rfl
@[go_sem] theorem ty_115 (F : TyI → Prop) : withTy Go.Proofs.Try.prog 115 (.mk F) = F ⟨false, 1, 8, [.nilf], .other⟩ := withTy_eq tyo_115 F
theorem tyo_116 : tyOf Go.Proofs.Try.prog 116 = some ⟨false, 1, 8, [.nilf], .other⟩ := by kernel_rfl
@[go_sem] theorem ty_116 (F : TyI → Prop) : withTy Go.Proofs.Try.prog 116 (.mk F) = F ⟨false, 1, 8, [.nilf], .other⟩ := withTy_eq tyo_116 F
theorem tyo_117 : tyOf Go.Proofs.Try.prog 117 = some ⟨false, 1, 8, [.nilf], .other⟩ := by kernel_rfl
@[go_sem] theorem ty_117 (F : TyI → Prop) : withTy Go.Proofs.Try.prog 117 (.mk F) = F ⟨false, 1, 8, [.nilf], .other⟩ := withTy_eq tyo_117 F
theorem tyo_118 : tyOf Go.Proofs.Try.prog 118 = some ⟨false, 1, 8, [.nilf], .other⟩ := by kernel_rfl
@[go_sem] theorem ty_118 (F : TyI → Prop) : withTy Go.Proofs.Try.prog 118 (.mk F) = F ⟨false, 1, 8, [.nilf], .other⟩ := withTy_eq tyo_118 F
theorem tyo_119 : tyOf Go.Proofs.Try.prog 119 = some ⟨false, 1, 8, [.nilf], .other⟩ := by kernel_rfl
@[go_sem] theorem ty_119 (F : TyI → Prop) : withTy Go.Proofs.Try.prog 119 (.mk F) = F ⟨false, 1, 8, [.nilf], .other⟩ := withTy_eq tyo_119 F
theorem tyo_120 : tyOf Go.Proofs.Try.prog 120 = some ⟨false, 1, 8, [.nilp], .other⟩ := by kernel_rfl
@[go_sem] theorem ty_120 (F : TyI → Prop) : withTy Go.Proofs.Try.prog 120 (.mk F) = F ⟨false, 1, 8, [.nilp], .other⟩ := withTy_eq tyo_120 F
theorem tyo_121 : tyOf Go.Proofs.Try.prog 121 = some ⟨false, 1, 8, [.nilf], .other⟩ := by kernel_rfl
@[go_sem] theorem ty_121 (F : TyI → Prop) : withTy Go.Proofs.Try.prog 121 (.mk F) = F ⟨false, 1, 8, [.nilf], .other⟩ := withTy_eq tyo_121 F
theorem tyo_122 : tyOf Go.Proofs.Try.prog 122 = some ⟨false, 1, 8, [.nilf], .other⟩ := by kernel_rfl
@[go_sem] theorem ty_122 (F : TyI → Prop) : withTy Go.Proofs.Try.prog 122 (.mk F) = F ⟨false, 1, 8, [.nilf], .other⟩ := withTy_eq tyo_122 F
theorem tyo_123 : tyOf Go.Proofs.Try.prog 123 = some ⟨false, 1, 8, [.nilf], .other⟩ := by kernel_rfl
@[go_sem] theorem ty_123 (F : TyI → Prop) : withTy Go.Proofs.Try.prog 123 (.mk F) = F ⟨false, 1, 8, [.nilf], .other⟩ := withTy_eq tyo_123 F
theorem tyo_124 : tyOf Go.Proofs.Try.prog 124 = some ⟨false, 1, 8, [.nilf], .other⟩ := by kernel_rfl
@[go_sem] theorem ty_124 (F : TyI → Prop) : withTy Go.Proofs.Try.prog 124 (.mk F) = F ⟨false, 1, 8, [.nilf], .other⟩ := withTy_eq tyo_124 F
theorem tyo_125 : tyOf Go.Proofs.Try.prog 125 = some ⟨false, 1, 8, [.nilf], .other⟩ := by kernel_rfl
@[go_sem] theorem ty_125 (F : TyI → Prop) : withTy Go.Proofs.Try.prog 125 (.mk F) = F ⟨false, 1, 8, [.nilf], .other⟩ := withTy_eq tyo_125 F
theorem tyo_126 : tyOf Go.Proofs.Try.prog 126 = some ⟨false, 1, 8, [.nilf], .other⟩ := by kernel_rfl
@[go_sem] theorem ty_126 (F : TyI → Prop) : withTy Go.Proofs.Try.prog 126 (.mk F) = F ⟨false, 1, 8, [.nilf], .other⟩ := withTy_eq tyo_126 F
theorem tyo_127 : tyOf Go.Proofs.Try.prog 127 = some ⟨false, 1, 8, [.nilf], .other⟩ := by kernel_rfl
@[go_sem] theorem ty_127 (F : TyI → Prop) : withTy Go.Proofs.Try.prog 127 (.mk F) = F ⟨false, 1, 8, [.nilf], .other⟩ := withTy_eq tyo_127 F
theorem tyo_128 : tyOf Go.Proofs.Try.prog 128 = some ⟨false, 1, 8, [.nilf], .other⟩ := by kernel_rfl
@[go_sem] theorem ty_128 (F : TyI → Prop) : withTy Go.Proofs.Try.prog 128 (.mk F) = F ⟨false, 1, 8, [.nilf], .other⟩ := withTy_eq tyo_128 F
theorem tyo_129 : tyOf Go.Proofs.Try.prog 129 = some ⟨false, 1, 8, [.nilf], .other⟩ := by kernel_rfl
@[go_sem] theorem ty_129 (F : TyI → Prop) : withTy Go.Proofs.Try.prog 129 (.mk F) = F ⟨false, 1, 8, [.nilf], .other⟩ := withTy_eq tyo_129 F
theorem tyo_130 : tyOf Go.Proofs.Try.prog 130 = some ⟨false, 1, 8, [.nilf], .other⟩ := by kernel_rfl
@[go_sem] theorem ty_130 (F : TyI → Prop) : withTy Go.Proofs.Try.prog 130 (.mk F) = F ⟨false, 1, 8, [.nilf], .other⟩ := withTy_eq tyo_130 F
theorem tyo_131 : tyOf Go.Proofs.Try.prog 131 = some ⟨false, 1, 8, [.nilf], .other⟩ := by kernel_rfl
@[go_sem] theorem ty_131 (F : TyI → Prop) : withTy Go.Proofs.Try.prog 131 (.mk F) = F ⟨false, 1, 8, [.nilf], .other⟩ := withTy_eq tyo_131 F
theorem tyo_132 : tyOf Go.Proofs.Try.prog 132 = some ⟨false, 1, 24, [.nils], .slice 2 16 [.int .i64 0, .int .i64 0]⟩ := by kernel_rfl
@[go_sem] theorem ty_132 (F : TyI → Prop) : withTy Go.Proofs.Try.prog 132 (.mk F) = F ⟨false, 1, 24, [.nils], .slice 2 16 [.int .i64 0, .int .i64 0]⟩ := withTy_eq tyo_132 F
theorem tyo_133 : tyOf Go.Proofs.Try.prog 133 = some ⟨true, 2, 16, [.int .i64 0, .int .i64 0], .array 2 1 false⟩ := by kernel_rfl
@[go_sem] theorem ty_133 (F : TyI → Prop) : withTy Go.Proofs.Try.prog 133 (.mk F) = F ⟨true, 2, 16, [.int .i64 0, .int .i64 0], .array 2 1 false⟩ := withTy_eq tyo_133 F
theorem tyo_134 : tyOf Go.Proofs.Try.prog 134 = some ⟨false, 1, 8, [.nilf], .other⟩ := by kernel_rfl
@[go_sem] theorem ty_134 (F : TyI → Prop) : withTy Go.Proofs.Try.prog 134 (.mk F) = F ⟨false, 1, 8, [.nilf], .other⟩ := withTy_eq tyo_134 F
theorem tyo_135 : tyOf Go.Proofs.Try.prog 135 = some ⟨false, 1, 8, [.nilf], .other⟩ := by kernel_rfl
@[go_sem] theorem ty_135 (F : TyI → Prop) : withTy Go.Proofs.Try.prog 135 (.mk F) = F ⟨false, 1, 8, [.nilf], .other⟩ := withTy_eq tyo_135 F
theorem tyo_136 : tyOf Go.Proofs.Try.prog 136 = some ⟨false, 1, 8, [.nilf], .other⟩ := by kernel_rfl
@[go_sem] theorem ty_136 (F : TyI → Prop) : withTy Go.Proofs.Try.prog 136 (.mk F) = F ⟨false, 1, 8, [.nilf], .other⟩ := withTy_eq tyo_136 F
theorem tyo_137 : tyOf Go.Proofs.Try.prog 137 = some ⟨false, 1, 8, [.nilf], .other⟩ := by kernel_rfl
@[go_sem] theorem ty_137 (F : TyI → Prop) : withTy Go.Proofs.Try.prog 137 (.mk F) = F ⟨false, 1, 8, [.nilf], .other⟩ := withTy_eq tyo_137 F
theorem tyo_138 : tyOf Go.Proofs.Try.prog 138 = some ⟨false, 1, 8, [.nilf], .other⟩ := by kernel_rfl
@[go_sem] theorem ty_138 (F : TyI → Prop) : withTy Go.Proofs.Try.prog 138 (.mk F) = F ⟨false, 1, 8, [.nilf], .other⟩ := withTy_eq tyo_138 F
theorem tyo_139 : tyOf Go.Proofs.Try.prog 139 = some ⟨false, 1, 8, [.nilf], .other⟩ := by kernel_rfl
@[go_sem] theorem ty_139 (F : TyI → Prop) : withTy Go.Proofs.Try.prog 139 (.mk F) = F ⟨false, 1, 8, [.nilf], .other⟩ := withTy_eq tyo_139 F
theorem tyo_140 : tyOf Go.Proofs.Try.prog 140 = some ⟨true, 27, 27, u8s (zeros 27), .struct [(0, 9), (9, 9), (18, 9)]⟩ := by kernel_rfl
@[go_sem] theorem ty_140 (F : TyI → Prop) : withTy Go.Proofs.Try.prog 140 (.mk F) = F ⟨true, 27, 27, u8s (zeros 27), .struct [(0, 9), (9, 9), (18, 9)]⟩ := withTy_eq tyo_140 F
theorem tyo_141 : tyOf Go.Proofs.Try.prog 141 = some ⟨true, 27, 27, u8s (zeros 27), .struct [(0, 9), (9, 9), (18, 9)]⟩ := by kernel_rfl
@[go_sem] theorem ty_141 (F : TyI → Prop) : withTy Go.Proofs.Try.prog 141 (.mk F) = F ⟨true, 27, 27, u8s (zeros 27), .struct [(0, 9), (9, 9), (18, 9)]⟩ := withTy_eq tyo_141 F
theorem tyo_143 : tyOf Go.Proofs.Try.prog 143 = some ⟨false, 1, 8, [.nilf], .other⟩ := by kernel_rfl
@[go_sem] theorem ty_143 (F : TyI → Prop) : withTy Go.Proofs.Try.prog 143 (.mk F) = F ⟨false, 1, 8, [.nilf], .other⟩ := withTy_eq tyo_143 F
theorem tyo_144 : tyOf Go.Proofs.Try.prog 144 = some ⟨false, 1, 8, [.nilf], .other⟩ := by kernel_rfl
@[go_sem] theorem ty_144 (F : TyI → Prop) : withTy Go.Proofs.Try.prog 144 (.mk F) = F ⟨false, 1, 8, [.nilf], .other⟩ := withTy_eq tyo_144 F
theorem tyo_145 : tyOf Go.Proofs.Try.prog 145 = some ⟨false, 1, 8, [.nilf], .other⟩ := by kernel_rfl
@[go_sem] theorem ty_145 (F : TyI → Prop) : withTy Go.Proofs.Try.prog 145 (.mk F) = F ⟨false, 1, 8, [.nilf], .other⟩ := withTy_eq tyo_145 F
theorem tyo_146 : tyOf Go.Proofs.Try.prog 146 = some ⟨false, 1, 8, [.nilf], .other⟩ := by kernel_rfl
@[go_sem] theorem ty_146 (F : TyI → Prop) : withTy Go.Proofs.Try.prog 146 (.mk F) = F ⟨false, 1, 8, [.nilf], .other⟩ := withTy_eq tyo_146 F
theorem tyo_147 : tyOf Go.Proofs.Try.prog 147 = some ⟨false, 1, 8, [.nilf], .other⟩ := by kernel_rfl
@[go_sem] theorem ty_147 (F : TyI → Prop) : withTy Go.Proofs.Try.prog 147 (.mk F) = F ⟨false, 1, 8, [.nilf], .other⟩ := withTy_eq tyo_147 F
theorem tyo_148 : tyOf Go.Proofs.Try.prog 148 = some ⟨false, 1, 8, [.nilf], .other⟩ := by kernel_rfl
@[go_sem] theorem ty_148 (F : TyI → Prop) : withTy Go.Proofs.Try.prog 148 (.mk F) = F ⟨false, 1, 8, [.nilf], .other⟩ := withTy_eq tyo_148 F
theorem tyo_149 : tyOf Go.Proofs.Try.prog 149 = some ⟨false, 1, 8, [.nilf], .other⟩ := by kernel_rfl
@[go_sem] theorem ty_149 (F : TyI → Prop) : withTy Go.Proofs.Try.prog 149 (.mk F) = F ⟨false, 1, 8, [.nilf], .other⟩ := withTy_eq tyo_149 F
theorem tyo_150 : tyOf Go.Proofs.Try.prog 150 = some ⟨false, 1, 8, [.nilf], .other⟩ := by kernel_rfl
@[go_sem] theorem ty_150 (F : TyI → Prop) : withTy Go.Proofs.Try.prog 150 (.mk F) = F ⟨false, 1, 8, [.nilf], .other⟩ := withTy_eq tyo_150 F
theorem tyo_151 : tyOf Go.Proofs.Try.prog 151 = some ⟨false, 1, 8, [.nilf], .other⟩ := by kernel_rfl
@[go_sem] theorem ty_151 (F : TyI → Prop) : withTy Go.Proofs.Try.prog 151 (.mk F) = F ⟨false, 1, 8, [.nilf], .other⟩ := withTy_eq tyo_151 F
theorem tyo_152 : tyOf Go.Proofs.Try.prog 152 = some ⟨false, 1, 8, [.nilf], .other⟩ := by kernel_rfl
@[go_sem] theorem ty_152 (F : TyI → Prop) : withTy Go.Proofs.Try.prog 152 (.mk F) = F ⟨false, 1, 8, [.nilf], .other⟩ := withTy_eq tyo_152 F
theorem tyo_153 : tyOf Go.Proofs.Try.prog 153 = some ⟨false, 1, 8, [.nilf], .other⟩ := by kernel_rfl
@[go_sem] theorem ty_153 (F : TyI → Prop) : withTy Go.Proofs.Try.prog 153 (.mk F) = F ⟨false, 1, 8, [.nilf], .other⟩ := withTy_eq tyo_153 F
theorem tyo_154 : tyOf Go.Proofs.Try.prog 154 = some ⟨false, 1, 8, [.nilf], .other⟩ := by kernel_rfl
@[go_sem] theorem ty_154 (F : TyI → Prop) : withTy Go.Proofs.Try.prog 154 (.mk F) = F ⟨false, 1, 8, [.nilf], .other⟩ := withTy_eq tyo_154 F
theorem tyo_155 : tyOf Go.Proofs.Try.prog 155 = some ⟨false, 1, 8, [.nilf], .other⟩ := by kernel_rfl
@[go_sem] theorem ty_155 (F : TyI → Prop) : withTy Go.Proofs.Try.prog 155 (.mk F) = F ⟨false, 1, 8, [.nilf], .other⟩ := withTy_eq tyo_155 F
theorem tyo_156 : tyOf Go.Proofs.Try.prog 156 = some ⟨false, 1, 8, [.nilf], .other⟩ := by kernel_rfl
@[go_sem] theorem ty_156 (F : TyI → Prop) : withTy Go.Proofs.Try.prog 156 (.mk F) = F ⟨false, 1, 8, [.nilf], .other⟩ := withTy_eq tyo_156 F
theorem tyo_157 : tyOf Go.Proofs.Try.prog 157 = some ⟨true, 3, 24, [.int .i64 0, .int .i64 0, .int .i64 0], .array 3 1 false⟩ := by kernel_rfl
@[go_sem] theorem ty_157 (F : TyI → Prop) : withTy Go.Proofs.Try.prog 157 (.mk F) = F ⟨true, 3, 24, [.int .i64 0, .int .i64 0, .int .i64 0], .array 3 1 false⟩ := withTy_eq tyo_157 F
theorem tyo_158 : tyOf Go.Proofs.Try.prog 158 = some ⟨false, 1, 8, [.nilf], .other⟩ := by kernel_rfl
@[go_sem] theorem ty_158 (F : TyI → Prop) : withTy Go.Proofs.Try.prog 158 (.mk F) = F ⟨false, 1, 8, [.nilf], .other⟩ := withTy_eq tyo_158 F
theorem tyo_159 : tyOf Go.Proofs.Try.prog 159 = some ⟨false, 1, 8, [.nilf], .other⟩ := by kernel_rfl
@[go_sem] theorem ty_159 (F : TyI → Prop) : withTy Go.Proofs.Try.prog 159 (.mk F) = F ⟨false, 1, 8, [.nilf], .other⟩ := withTy_eq tyo_159 F
theorem tyo_160 : tyOf Go.Proofs.Try.prog 160 = some ⟨false, 1, 8, [.nilf], .other⟩ := by kernel_rfl
@[go_sem] theorem ty_160 (F : TyI → Prop) : withTy Go.Proofs.Try.prog 160 (.mk F) = F ⟨false, 1, 8, [.nilf], .other⟩ := withTy_eq tyo_160 F
theorem tyo_161 : tyOf Go.Proofs.Try.prog 161 = some ⟨false, 1, 8, [.nilf], .other⟩ := by kernel_rfl
@[go_sem] theorem ty_161 (F : TyI → Prop) : withTy Go.Proofs.Try.prog 161 (.mk F) = F ⟨false, 1, 8, [.nilf], .other⟩ := withTy_eq tyo_161 F
theorem tyo_162 : tyOf Go.Proofs.Try.prog 162 = some ⟨false, 1, 8, [.nilf], .other⟩ := by kernel_rfl
@[go_sem] theorem ty_162 (F : TyI → Prop) : withTy Go.Proofs.Try.prog 162 (.mk F) = F ⟨false, 1, 8, [.nilf], .other⟩ := withTy_eq tyo_162 F
theorem tyo_163 : tyOf Go.Proofs.Try.prog 163 = some ⟨false, 1, 24, [.nils], .slice 9 9 (u8s (zeros 9))⟩ := by kernel_rfl
@[go_sem] theorem ty_163 (F : TyI → Prop) : withTy Go.Proofs.Try.prog 163 (.mk F) = F ⟨false, 1, 24, [.nils], .slice 9 9 (u8s (zeros 9))⟩ := withTy_eq tyo_163 F
theorem tyo_164 : tyOf Go.Proofs.Try.prog 164 = some ⟨false, 1, 8, [.nilf], .other⟩ := by kernel_rfl
@[go_sem] theorem ty_164 (F : TyI → Prop) : withTy Go.Proofs.Try.prog 164 (.mk F) = F ⟨false, 1, 8, [.nilf], .other⟩ := withTy_eq tyo_164 F
theorem tyo_165 : tyOf Go.Proofs.Try.prog 165 = some ⟨false, 1, 8, [.nilf], .other⟩ := by kernel_rfl
@[go_sem] theorem ty_165 (F : TyI → Prop) : withTy Go.Proofs.Try.prog 165 (.mk F) = F ⟨false, 1, 8, [.nilf], .other⟩ := withTy_eq tyo_165 F
theorem tyo_166 : tyOf Go.Proofs.Try.prog 166 = some ⟨false, 1, 8, [.nilf], .other⟩ := by kernel_rfl
@[go_sem] theorem ty_166 (F : TyI → Prop) : withTy Go.Proofs.Try.prog 166 (.mk F) = F ⟨false, 1, 8, [.nilf], .other⟩ := withTy_eq tyo_166 F
theorem tyo_167 : tyOf Go.Proofs.Try.prog 167 = some ⟨false, 1, 8, [.nilf], .other⟩ := by kernel_rfl
@[go_sem] theorem ty_167 (F : TyI → Prop) : withTy Go.Proofs.Try.prog 167 (.mk F) = F ⟨false, 1, 8, [.nilf], .other⟩ := withTy_eq tyo_167 F
theorem tyo_168 : tyOf Go.Proofs.Try.prog 168 = some ⟨false, 1, 8, [.nilf], .other⟩ := by kernel_rfl
@[go_sem] theorem ty_168 (F : TyI → Prop) : withTy Go.Proofs.Try.prog 168 (.mk F) = F ⟨false, 1, 8, [.nilf], .other⟩ := withTy_eq tyo_168 F
theorem tyo_169 : tyOf Go.Proofs.Try.prog 169 = some ⟨true, 27, 27, u8s (zeros 27), .struct [(0, 9), (9, 9), (18, 9)]⟩ := by kernel_rfl
@[go_sem] theorem ty_169 (F : TyI → Prop) : withTy Go.Proofs.Try.prog 169 (.mk F) = F ⟨true, 27, 27, u8s (zeros 27), .struct [(0, 9), (9, 9), (18, 9)]⟩ := withTy_eq tyo_169 F
theorem tyo_170 : tyOf Go.Proofs.Try.prog 170 = some ⟨true, 27, 27, u8s (zeros 27), .struct [(0, 9), (9, 9), (18, 9)]⟩ := by kernel_rfl
@[go_sem] theorem ty_170 (F : TyI → Prop) : withTy Go.Proofs.Try.prog 170 (.mk F) = F ⟨true, 27, 27, u8s (zeros 27), .struct [(0, 9), (9, 9), (18, 9)]⟩ := withTy_eq tyo_170 F
theorem tyo_171 : tyOf Go.Proofs.Try.prog 171 = some ⟨false, 1, 8, [.nilf], .other⟩ := by kernel_rfl
@[go_sem] theorem ty_171 (F : TyI → Prop) : withTy Go.Proofs.Try.prog 171 (.mk F) = F ⟨false, 1, 8, [.nilf], .other⟩ := withTy_eq tyo_171 F
theorem tyo_172 : tyOf Go.Proofs.Try.prog 172 = some ⟨false, 1, 24, [.nils], .slice 1 24 [.nils]⟩ := by kernel_rfl
@[go_sem] theorem ty_172 (F : TyI → Prop) : withTy Go.Proofs.Try.prog 172 (.mk F) = F ⟨false, 1, 24, [.nils], .slice 1 24 [.nils]⟩ := withTy_eq tyo_172 F
theorem tyo_173 : tyOf Go.Proofs.Try.prog 173 = some ⟨false, 1, 8, [.nilf], .other⟩ := by kernel_rfl
@[go_sem] theorem ty_173 (F : TyI → Prop) : withTy Go.Proofs.Try.prog 173 (.mk F) = F ⟨false, 1, 8, [.nilf], .other⟩ := withTy_eq tyo_173 F
theorem tyo_174 : tyOf Go.Proofs.Try.prog 174 = some ⟨false, 1, 8, [.nilf], .other⟩ := by kernel_rfl
@[go_sem] theorem ty_174 (F : TyI → Prop) : withTy Go.Proofs.Try.prog 174 (.mk F) = F ⟨false, 1, 8, [.nilf], .other⟩ := withTy_eq tyo_174 F
theorem tyo_175 : tyOf Go.Proofs.Try.prog 175 = some ⟨false, 1, 8, [.int .u64 0], .int .u64⟩ := by kernel_rfl
@[go_sem] theorem ty_175 (F : TyI → Prop) : withTy Go.Proofs.Try.prog 175 (.mk F) = F ⟨false, 1, 8, [.int .u64 0], .int .u64⟩ := withTy_eq tyo_175 F
theorem tyo_176 : tyOf Go.Proofs.Try.prog 176 = some ⟨true, 3, 40, [.nils, .int .i64 0, .int .u64 0], .struct [(0, 1), (1, 1), (2, 1)]⟩ := by kernel_rfl
@[go_sem] theorem ty_176 (F : TyI → Prop) : withTy Go.Proofs.Try.prog 176 (.mk F) = F ⟨true, 3, 40, [.nils, .int .i64 0, .int .u64 0], .struct [(0, 1), (1, 1), (2, 1)]⟩ := withTy_eq tyo_176 F
theorem tyo_177 : tyOf Go.Proofs.Try.prog 177 = some ⟨true, 3, 40, [.nils, .int .i64 0, .int .u64 0], .struct [(0, 1), (1, 1), (2, 1)]⟩ := by kernel_rfl
@[go_sem] theorem ty_177 (F : TyI → Prop) : withTy Go.Proofs.Try.prog 177 (.mk F) = F ⟨true, 3, 40, [.nils, .int .i64 0, .int .u64 0], .struct [(0, 1), (1, 1), (2, 1)]⟩ := withTy_eq tyo_177 F
theorem tyo_178 : tyOf Go.Proofs.Try.prog 178 = some ⟨false, 1, 8, [.int .u64 0], .int .u64⟩ := by kernel_rfl
@[go_sem] theorem ty_178 (F : TyI → Prop) : withTy Go.Proofs.Try.prog 178 (.mk F) = F ⟨false, 1, 8, [.int .u64 0], .int .u64⟩ := withTy_eq tyo_178 F
theorem tyo_179 : tyOf Go.Proofs.Try.prog 179 = some ⟨false, 1, 8, [.nilf], .other⟩ := by kernel_rfl
@[go_sem] theorem ty_179 (F : TyI → Prop) : withTy Go.Proofs.Try.prog 179 (.mk F) = F ⟨false, 1, 8, [.nilf], .other⟩ := withTy_eq tyo_179 F
theorem tyo_180 : tyOf Go.Proofs.Try.prog 180 = some ⟨false, 1, 8, [.nilf], .other⟩ := by kernel_rfl
@[go_sem] theorem ty_180 (F : TyI → Prop) : withTy Go.Proofs.Try.prog 180 (.mk F) = F ⟨false, 1, 8, [.nilf], .other⟩ := withTy_eq tyo_180 F
theorem tyo_181 : tyOf Go.Proofs.Try.prog 181 = some ⟨false, 1, 8, [.nilf], .other⟩ := by kernel_rfl
@[go_sem] theorem ty_181 (F : TyI → Prop) : withTy Go.Proofs.Try.prog 181 (.mk F) = F ⟨false, 1, 8, [.nilf], .other⟩ := withTy_eq tyo_181 F
theorem tyo_182 : tyOf Go.Proofs.Try.prog 182 = some ⟨false, 1, 8, [.nilf], .other⟩ := by kernel_rfl
@[go_sem] theorem ty_182 (F : TyI → Prop) : withTy Go.Proofs.Try.prog 182 (.mk F) = F ⟨false, 1, 8, [.nilf], .other⟩ := withTy_eq tyo_182 F
theorem tyo_183 : tyOf Go.Proofs.Try.prog 183 = some ⟨false, 1, 8, [.nilf], .other⟩ := by kernel_rfl
@[go_sem] theorem ty_183 (F : TyI → Prop) : withTy Go.Proofs.Try.prog 183 (.mk F) = F ⟨false, 1, 8, [.nilf], .other⟩ := withTy_eq tyo_183 F
theorem tyo_184 : tyOf Go.Proofs.Try.prog 184 = some ⟨false, 1, 8, [.nilf], .other⟩ := by kernel_rfl
@[go_sem] theorem ty_184 (F : TyI → Prop) : withTy Go.Proofs.Try.prog 184 (.mk F) = F ⟨false, 1, 8, [.nilf], .other⟩ := withTy_eq tyo_184 F
theorem tyo_185 : tyOf Go.Proofs.Try.prog 185 = some ⟨false, 1, 8, [.nilf], .other⟩ := by kernel_rfl
@[go_sem] theorem ty_185 (F : TyI → Prop) : withTy Go.Proofs.Try.prog 185 (.mk F) = F ⟨false, 1, 8, [.nilf], .other⟩ := withTy_eq tyo_185 F
theorem tyo_186 : tyOf Go.Proofs.Try.prog 186 = some ⟨false, 1, 8, [.nilf], .other⟩ := by kernel_rfl
@[go_sem] theorem ty_186 (F : TyI → Prop) : withTy Go.Proofs.Try.prog 186 (.mk F) = F ⟨false, 1, 8, [.nilf], .other⟩ := withTy_eq tyo_186 F
theorem tyo_187 : tyOf Go.Proofs.Try.prog 187 = some ⟨false, 1, 8, [.nilf], .other⟩ := by kernel_rfl
@[go_sem] theorem ty_187 (F : TyI → Prop) : withTy Go.Proofs.Try.prog 187 (.mk F) = F ⟨false, 1, 8, [.nilf], .other⟩ := withTy_eq tyo_187 F
theorem tyo_188 : tyOf Go.Proofs.Try.prog 188 = some ⟨false, 1, 8, [.nilf], .other⟩ := by kernel_rfl
@[go_sem] theorem ty_188 (F : TyI → Prop) : withTy Go.Proofs.Try.prog 188 (.mk F) = F ⟨false, 1, 8, [.nilf], .other⟩ := withTy_eq tyo_188 F
theorem tyo_189 : tyOf Go.Proofs.Try.prog 189 = some ⟨false, 1, 8, [.nilf], .other⟩ := by kernel_rfl
@[go_sem] theorem ty_189 (F : TyI → Prop) : withTy Go.Proofs.Try.prog 189 (.mk F) = F ⟨false, 1, 8, [.nilf], .other⟩ := withTy_eq tyo_189 F
theorem tyo_190 : tyOf Go.Proofs.Try.prog 190 = some ⟨true, 27, 27, u8s (zeros 27), .array 3 9 true⟩ := by kernel_rfl
@[go_sem] theorem ty_190 (F : TyI → Prop) : withTy Go.Proofs.Try.prog 190 (.mk F) = F ⟨true, 27, 27, u8s (zeros 27), .array 3 9 true⟩ := withTy_eq tyo_190 F
theorem tyo_191 : tyOf Go.Proofs.Try.prog 191 = some ⟨false, 1, 8, [.nilf], .other⟩ := by kernel_rfl
@[go_sem] theorem ty_191 (F : TyI → Prop) : withTy Go.Proofs.Try.prog 191 (.mk F) = F ⟨false, 1, 8, [.nilf], .other⟩ := withTy_eq tyo_191 F
theorem tyo_192 : tyOf Go.Proofs.Try.prog 192 = some ⟨false, 1, 8, [.nilf], .other⟩ := by kernel_rfl
@[go_sem] theorem ty_192 (F : TyI → Prop) : withTy Go.Proofs.Try.prog 192 (.mk F) = F ⟨false, 1, 8, [.nilf], .other⟩ := withTy_eq tyo_192 F
theorem tyo_193 : tyOf Go.Proofs.Try.prog 193 = some ⟨false, 1, 8, [.nilf], .other⟩ := by kernel_rfl
@[go_sem] theorem ty_193 (F : TyI → Prop) : withTy Go.Proofs.Try.prog 193 (.mk F) = F ⟨false, 1, 8, [.nilf], .other⟩ := withTy_eq tyo_193 F
theorem tyo_194 : tyOf Go.Proofs.Try.prog 194 = some ⟨false, 1, 8, [.nilf], .other⟩ := by kernel_rfl
@[go_sem] theorem ty_194 (F : TyI → Prop) : withTy Go.Proofs.Try.prog 194 (.mk F) = F ⟨false, 1, 8, [.nilf], .other⟩ := withTy_eq tyo_194 F
theorem tyo_195 : tyOf Go.Proofs.Try.prog 195 = some ⟨false, 1, 24, [.nils], .slice 1 24 [.nils]⟩ := by kernel_rfl
@[go_sem] theorem ty_195 (F : TyI → Prop) : withTy Go.Proofs.Try.prog 195 (.mk F) = F ⟨false, 1, 24, [.nils], .slice 1 24 [.nils]⟩ := withTy_eq tyo_195 F
theorem tyo_196 : tyOf Go.Proofs.Try.prog 196 = some ⟨false, 1, 8, [.nilf], .other⟩ := by kernel_rfl
@[go_sem] theorem ty_196 (F : TyI → Prop) : withTy Go.Proofs.Try.prog 196 (.mk F) = F ⟨false, 1, 8, [.nilf], .other⟩ := withTy_eq tyo_196 F
theorem tyo_197 : tyOf Go.Proofs.Try.prog 197 = some ⟨false, 1, 8, [.nilf], .other⟩ := by kernel_rfl
@[go_sem] theorem ty_197 (F : TyI → Prop) : withTy Go.Proofs.Try.prog 197 (.mk F) = F ⟨false, 1, 8, [.nilf], .other⟩ := withTy_eq tyo_197 F
theorem tyo_198 : tyOf Go.Proofs.Try.prog 198 = some ⟨false, 1, 8, [.nilf], .other⟩ := by kernel_rfl
@[go_sem] theorem ty_198 (F : TyI → Prop) : withTy Go.Proofs.Try.prog 198 (.mk F) = F ⟨false, 1, 8, [.nilf], .other⟩ := withTy_eq tyo_198 F
theorem tyo_199 : tyOf Go.Proofs.Try.prog 199 = some ⟨false, 1, 8, [.nilf], .other⟩ := by kernel_rfl
@[go_sem] theorem ty_199 (F : TyI → Prop) : withTy Go.Proofs.Try.prog 199 (.mk F) = F ⟨false, 1, 8, [.nilf], .other⟩ := withTy_eq tyo_199 F
theorem tyo_200 : tyOf Go.Proofs.Try.prog 200 = some ⟨false, 1, 24, [.nils], .slice 1 16 [.str { data := { toList := [] } }]⟩ := by kernel_rfl
@[go_sem] theorem ty_200 (F : TyI → Prop) : withTy Go.Proofs.Try.prog 200 (.mk F) = F ⟨false, 1, 24, [.nils], .slice 1 16 [.str { data := { toList := [] } }]⟩ := withTy_eq tyo_200 F
theorem tyo_201 : tyOf Go.Proofs.Try.prog 201 = some ⟨false, 1, 8, [.nilf], .other⟩ := by kernel_rfl
@[go_sem] theorem ty_201 (F : TyI → Prop) : withTy Go.Proofs.Try.prog 201 (.mk F) = F ⟨false, 1, 8, [.nilf], .other⟩ := withTy_eq tyo_201 F
theorem tyo_202 : tyOf Go.Proofs.Try.prog 202 = some ⟨false, 1, 8, [.nilf], .other⟩ := by kernel_rfl
@[go_sem] theorem ty_202 (F : TyI → Prop) : withTy Go.Proofs.Try.prog 202 (.mk F) = F ⟨false, 1, 8, [.nilf], .other⟩ := withTy_eq tyo_202 F
theorem tyo_203 : tyOf Go.Proofs.Try.prog 203 = some ⟨false, 1, 8, [.nilf], .other⟩ := by kernel_rfl
@[go_sem] theorem ty_203 (F : TyI → Prop) : withTy Go.Proofs.Try.prog 203 (.mk F) = F ⟨false, 1, 8, [.nilf], .other⟩ := withTy_eq tyo_203 F
theorem tyo_204 : tyOf Go.Proofs.Try.prog 204 = some ⟨false, 1, 8, [.nilf], .other⟩ := by kernel_rfl
@[go_sem] theorem ty_204 (F : TyI → Prop) : withTy Go.Proofs.Try.prog 204 (.mk F) = F ⟨false, 1, 8, [.nilf], .other⟩ := withTy_eq tyo_204 F
theorem tyo_205 : tyOf Go.Proofs.Try.prog 205 = some ⟨false, 1, 8, [.nilf], .other⟩ := by kernel_rfl
@[go_sem] theorem ty_205 (F : TyI → Prop) : withTy Go.Proofs.Try.prog 205 (.mk F) = F ⟨false, 1, 8, [.nilf], .other⟩ := withTy_eq tyo_205 F
theorem tyo_206 : tyOf Go.Proofs.Try.prog 206 = some ⟨false, 1, 8, [.nilf], .other⟩ := by kernel_rfl
@[go_sem] theorem ty_206 (F : TyI → Prop) : withTy Go.Proofs.Try.prog 206 (.mk F) = F ⟨false, 1, 8, [.nilf], .other⟩ := withTy_eq tyo_206 F
theorem tyo_207 : tyOf Go.Proofs.Try.prog 207 = some ⟨false, 1, 8, [.nilf], .other⟩ := by kernel_rfl
@[go_sem] theorem ty_207 (F : TyI → Prop) : withTy Go.Proofs.Try.prog 207 (.mk F) = F ⟨false, 1, 8, [.nilf], .other⟩ := withTy_eq tyo_207 F
theorem tyo_208 : tyOf Go.Proofs.Try.prog 208 = some ⟨true, 4, 40, [.nilp, .nilp, .nilp, .str { data := { toList := [] } }], .struct [(0, 1), (1, 1), (2, 1), (3, 1)]⟩ := by kernel_rfl
@[go_sem] theorem ty_208 (F : TyI → Prop) : withTy Go.Proofs.Try.prog 208 (.mk F) = F ⟨true, 4, 40, [.nilp, .nilp, .nilp, .str { data := { toList := [] } }], .struct [(0, 1), (1, 1), (2, 1), (3, 1)]⟩ := withTy_eq tyo_208 F
theorem tyo_209 : tyOf Go.Proofs.Try.prog 209 = some ⟨true, 4, 40, [.nilp, .nilp, .nilp, .str { data := { toList := [] } }], .struct [(0, 1), (1, 1), (2, 1), (3, 1)]⟩ := by kernel_rfl
@[go_sem] theorem ty_209 (F : TyI → Prop) : withTy Go.Proofs.Try.prog 209 (.mk F) = F ⟨true, 4, 40, [.nilp, .nilp, .nilp, .str { data := { toList := [] } }], .struct [(0, 1), (1, 1), (2, 1), (3, 1)]⟩ := withTy_eq tyo_209 F
theorem tyo_210 : tyOf Go.Proofs.Try.prog 210 = some ⟨true, 0, 0, [], .array 0 1 false⟩ := by kernel_rfl
@[go_sem] theorem ty_210 (F : TyI → Prop) : withTy Go.Proofs.Try.prog 210 (.mk F) = F ⟨true, 0, 0, [], .array 0 1 false⟩ := withTy_eq tyo_210 F
theorem tyo_211 : tyOf Go.Proofs.Try.prog 211 = some ⟨true, 0, 0, [], .struct [(0, 0)]⟩ := by kernel_rfl
@[go_sem] theorem ty_211 (F : TyI → Prop) : withTy Go.Proofs.Try.prog 211 (.mk F) = F ⟨true, 0, 0, [], .struct [(0, 0)]⟩ := withTy_eq tyo_211 F
theorem tyo_212 : tyOf Go.Proofs.Try.prog 212 = some ⟨true, 0, 0, [], .struct [(0, 0)]⟩ := by kernel_rfl
@[go_sem] theorem ty_212 (F : TyI → Prop) : withTy Go.Proofs.Try.prog 212 (.mk F) = F ⟨true, 0, 0, [], .struct [(0, 0)]⟩ := withTy_eq tyo_212 F
theorem tyo_213 : tyOf Go.Proofs.Try.prog 213 = some ⟨false, 1, 8, [.nilf], .other⟩ := by kernel_rfl
@[go_sem] theorem ty_213 (F : TyI → Prop) : withTy Go.Proofs.Try.prog 213 (.mk F) = F ⟨false, 1, 8, [.nilf], .other⟩ := withTy_eq tyo_213 F
theorem tyo_214 : tyOf Go.Proofs.Try.prog 214 = some ⟨false, 1, 4, [.int .u32 0], .int .u32⟩ := by kernel_rfl
@[go_sem] theorem ty_214 (F : TyI → Prop) : withTy Go.Proofs.Try.prog 214 (.mk F) = F ⟨false, 1, 4, [.int .u32 0], .int .u32⟩ := withTy_eq tyo_214 F
theorem tyo_215 : tyOf Go.Proofs.Try.prog 215 = some ⟨false, 1, 1, [.int .u8 0], .int .u8⟩ := by kernel_rfl
@[go_sem] theorem ty_215 (F : TyI → Prop) : withTy Go.Proofs.Try.prog 215 (.mk F) = F ⟨false, 1, 1, [.int .u8 0], .int .u8⟩ := withTy_eq tyo_215 F
theorem tyo_216 : tyOf Go.Proofs.Try.prog 216 = some ⟨false, 1, 1, [.int .u8 0], .int .u8⟩ := by kernel_rfl
@[go_sem] theorem ty_216 (F : TyI → Prop) : withTy Go.Proofs.Try.prog 216 (.mk F) = F ⟨false, 1, 1, [.int .u8 0], .int .u8⟩ := withTy_eq tyo_216 F
theorem tyo_217 : tyOf Go.Proofs.Try.prog 217 = some ⟨false, 1, 8, [.nilf], .other⟩ := by kernel_rfl
@[go_sem] theorem ty_217 (F : TyI → Prop) : withTy Go.Proofs.Try.prog 217 (.mk F) = F ⟨false, 1, 8, [.nilf], .other⟩ := withTy_eq tyo_217 F
theorem tyo_218 : tyOf Go.Proofs.Try.prog 218 = some ⟨false, 1, 8, [.nilp], .other⟩ := by kernel_rfl
@[go_sem] theorem ty_218 (F : TyI → Prop) : withTy Go.Proofs.Try.prog 218 (.mk F) = F ⟨false, 1, 8, [.nilp], .other⟩ := withTy_eq tyo_218 F
theorem tyo_219 : tyOf Go.Proofs.Try.prog 219 = some ⟨false, 1, 4, [.int .i32 0], .int .i32⟩ := by kernel_rfl
@[go_sem] theorem ty_219 (F : TyI → Prop) : withTy Go.Proofs.Try.prog 219 (.mk F) = F ⟨false, 1, 4, [.int .i32 0], .int .i32⟩ := withTy_eq tyo_219 F
theorem tyo_220 : tyOf Go.Proofs.Try.prog 220 = some ⟨false, 1, 4, [.int .i32 0], .int .i32⟩ := by kernel_rfl
@[go_sem] theorem ty_220 (F : TyI → Prop) : withTy Go.Proofs.Try.prog 220 (.mk F) = F ⟨false, 1, 4, [.int .i32 0], .int .i32⟩ := withTy_eq tyo_220 F
theorem tyo_221 : tyOf Go.Proofs.Try.prog 221 = some ⟨true, 11, 48, [.int .u64 0, .int .u64 0, .int .u32 0, .int .u8 0, .int .u8 0, .int .u8 0, .int .u8 0, .nilf, .nilp, .int .i32 0, .int .i32 0], .struct [(0, 1), (1, 1), (2, 1), (3, 1), (4, 1), (5, 1), (6, 1), (7, 1), (8, 1), (9, 1), (10, 1)]⟩ := by kernel_rfl
@[go_sem] theorem ty_221 (F : TyI → Prop) : withTy Go.Proofs.Try.prog 221 (.mk F) = F ⟨true, 11, 48, [.int .u64 0, .int .u64 0, .int .u32 0, .int .u8 0, .int .u8 0, .int .u8 0, .int .u8 0, .nilf, .nilp, .int .i32 0, .int .i32 0], .struct [(0, 1), (1, 1), (2, 1), (3, 1), (4, 1), (5, 1), (6, 1), (7, 1), (8, 1), (9, 1), (10, 1)]⟩ := withTy_eq tyo_221 F
theorem tyo_222 : tyOf Go.Proofs.Try.prog 222 = some ⟨true, 11, 48, [.int .u64 0, .int .u64 0, .int .u32 0, .int .u8 0, .int .u8 0, .int .u8 0, .int .u8 0, .nilf, .nilp, .int .i32 0, .int .i32 0], .struct [(0, 1), (1, 1), (2, 1), (3, 1), (4, 1), (5, 1), (6, 1), (7, 1), (8, 1), (9, 1), (10, 1)]⟩ := by kernel_rfl
@[go_sem] theorem ty_222 (F : TyI → Prop) : withTy Go.Proofs.Try.prog 222 (.mk F) = F ⟨true, 11, 48, [.int .u64 0, .int .u64 0, .int .u32 0, .int .u8 0, .int .u8 0, .int .u8 0, .int .u8 0, .nilf, .nilp, .int .i32 0, .int .i32 0], .struct [(0, 1), (1, 1), (2, 1), (3, 1), (4, 1), (5, 1), (6, 1), (7, 1), (8, 1), (9, 1), (10, 1)]⟩ := withTy_eq tyo_222 F
theorem tyo_223 : tyOf Go.Proofs.Try.prog 223 = some ⟨false, 1, 8, [.nilp], .other⟩ := by kernel_rfl
@[go_sem] theorem ty_223 (F : TyI → Prop) : withTy Go.Proofs.Try.prog 223 (.mk F) = F ⟨false, 1, 8, [.nilp], .other⟩ := withTy_eq tyo_223 F
end Go.Proofs.Ytcmmbnhdfkcpdaa
