/- The types of this seat's program, as far as its walks ask. -/
import Derived.Test.YtaiocnpecaecdaaGreatDoorVLc
import Derived.Test.YtaiocnpecaecdaaGreatDoorProg
set_option maxRecDepth 100000
set_option linter.unusedSimpArgs false
namespace Go.Proofs.YtaiocnpecaecdaaGreatDoor.V
open Go.Proofs.YtaiocnpecaecdaaGreatDoor.VL
def ty0 : TyI := ⟨(.tuple #[]), 1, 0, some (Value.tuple #[])⟩
theorem ok0 : TyOk Tryz.prog 0 ty0 := ⟨Tryz.underlying0, Tryz.t0, info_of Tryz.type0, rfl, rfl, rfl⟩
def ty1 : TyI := ⟨(.func #[] #[] false), 1, 8, some Value.nilFunc⟩
theorem ok1 : TyOk Tryz.prog 1 ty1 := ⟨Tryz.underlying1, Tryz.t1, info_of Tryz.type1, rfl, rfl, rfl⟩
def ty2 : TyI := ⟨(.int .i64), 1, 8, some (Value.int .i64 0)⟩
theorem ok2 : TyOk Tryz.prog 2 ty2 := ⟨Tryz.underlying2, Tryz.t2, info_of Tryz.type2, rfl, rfl, rfl⟩
def ty3 : TyI := ⟨(.int .i64), 1, 8, some (Value.int .i64 0)⟩
theorem ok3 : TyOk Tryz.prog 3 ty3 := ⟨Tryz.underlying3, Tryz.t3, info_of Tryz.type3, rfl, rfl, rfl⟩
def ty4 : TyI := ⟨.bool, 1, 1, some (Value.bool false)⟩
theorem ok4 : TyOk Tryz.prog 4 ty4 := ⟨Tryz.underlying4, Tryz.t4, info_of Tryz.type4, rfl, rfl, rfl⟩
def ty5 : TyI := ⟨(.int .u8), 1, 1, some (Value.int .u8 0)⟩
theorem ok5 : TyOk Tryz.prog 5 ty5 := ⟨Tryz.underlying5, Tryz.t5, info_of Tryz.type5, rfl, rfl, rfl⟩
def ty6 : TyI := ⟨(.int .u8), 1, 1, some (Value.int .u8 0)⟩
theorem ok6 : TyOk Tryz.prog 6 ty6 := ⟨Tryz.underlying6, Tryz.t6, info_of Tryz.type6, rfl, rfl, rfl⟩
def ty7 : TyI := ⟨(.struct #[{ name := "x", type := 2, offset := 0, embedded := false, tag := "", pkgPath := "runtime", byteOffset := 0 }, { name := "y", type := 3, offset := 1, embedded := false, tag := "", pkgPath := "runtime", byteOffset := 8 }, { name := "signed", type := 4, offset := 2, embedded := false, tag := "", pkgPath := "runtime", byteOffset := 16 }, { name := "code", type := 6, offset := 3, embedded := false, tag := "", pkgPath := "runtime", byteOffset := 17 }]), 4, 24, some (Value.agg #[Value.int .i64 0, Value.int .i64 0, Value.bool false, Value.int .u8 0])⟩
theorem ok7 : TyOk Tryz.prog 7 ty7 := ⟨Tryz.underlying7, Tryz.t7, info_of Tryz.type7, rfl, rfl, rfl⟩
def ty8 : TyI := ⟨(.struct #[{ name := "x", type := 2, offset := 0, embedded := false, tag := "", pkgPath := "runtime", byteOffset := 0 }, { name := "y", type := 3, offset := 1, embedded := false, tag := "", pkgPath := "runtime", byteOffset := 8 }, { name := "signed", type := 4, offset := 2, embedded := false, tag := "", pkgPath := "runtime", byteOffset := 16 }, { name := "code", type := 6, offset := 3, embedded := false, tag := "", pkgPath := "runtime", byteOffset := 17 }]), 4, 24, some (Value.agg #[Value.int .i64 0, Value.int .i64 0, Value.bool false, Value.int .u8 0])⟩
theorem ok8 : TyOk Tryz.prog 8 ty8 := ⟨Tryz.underlying8, Tryz.t8, info_of Tryz.type8, rfl, rfl, rfl⟩
def ty9 : TyI := ⟨.string, 1, 16, some (Value.string { data := #[] })⟩
theorem ok9 : TyOk Tryz.prog 9 ty9 := ⟨Tryz.underlying9, Tryz.t9, info_of Tryz.type9, rfl, rfl, rfl⟩
def ty10 : TyI := ⟨.string, 1, 16, some (Value.string { data := #[] })⟩
theorem ok10 : TyOk Tryz.prog 10 ty10 := ⟨Tryz.underlying10, Tryz.t10, info_of Tryz.type10, rfl, rfl, rfl⟩
def ty11 : TyI := ⟨.string, 1, 16, some (Value.string { data := #[] })⟩
theorem ok11 : TyOk Tryz.prog 11 ty11 := ⟨Tryz.underlying11, Tryz.t11, info_of Tryz.type11, rfl, rfl, rfl⟩
def ty12 : TyI := ⟨(.int .u64), 1, 8, some (Value.int .u64 0)⟩
theorem ok12 : TyOk Tryz.prog 12 ty12 := ⟨Tryz.underlying12, Tryz.t12, info_of Tryz.type12, rfl, rfl, rfl⟩
def ty13 : TyI := ⟨(.struct #[{ name := "msg", type := 9, offset := 0, embedded := false, tag := "", pkgPath := "runtime", byteOffset := 0 }, { name := "addr", type := 12, offset := 1, embedded := false, tag := "", pkgPath := "runtime", byteOffset := 16 }]), 2, 24, some (Value.agg #[Value.string { data := #[] }, Value.int .u64 0])⟩
theorem ok13 : TyOk Tryz.prog 13 ty13 := ⟨Tryz.underlying13, Tryz.t13, info_of Tryz.type13, rfl, rfl, rfl⟩
def ty14 : TyI := ⟨(.struct #[{ name := "msg", type := 9, offset := 0, embedded := false, tag := "", pkgPath := "runtime", byteOffset := 0 }, { name := "addr", type := 12, offset := 1, embedded := false, tag := "", pkgPath := "runtime", byteOffset := 16 }]), 2, 24, some (Value.agg #[Value.string { data := #[] }, Value.int .u64 0])⟩
theorem ok14 : TyOk Tryz.prog 14 ty14 := ⟨Tryz.underlying14, Tryz.t14, info_of Tryz.type14, rfl, rfl, rfl⟩
def ty15 : TyI := ⟨(.pointer 319), 1, 8, some (Value.pointer none)⟩
theorem ok15 : TyOk Tryz.prog 15 ty15 := ⟨Tryz.underlying15, Tryz.t15, info_of Tryz.type15, rfl, rfl, rfl⟩
def ty16 : TyI := ⟨(.pointer 322), 1, 8, some (Value.pointer none)⟩
theorem ok16 : TyOk Tryz.prog 16 ty16 := ⟨Tryz.underlying16, Tryz.t16, info_of Tryz.type16, rfl, rfl, rfl⟩
def ty17 : TyI := ⟨(.pointer 329), 1, 8, some (Value.pointer none)⟩
theorem ok17 : TyOk Tryz.prog 17 ty17 := ⟨Tryz.underlying17, Tryz.t17, info_of Tryz.type17, rfl, rfl, rfl⟩
def ty18 : TyI := ⟨(.struct #[{ name := "typ", type := 17, offset := 0, embedded := false, tag := "", pkgPath := "internal/runtime/maps", byteOffset := 0 }]), 1, 8, some (Value.agg #[Value.pointer none])⟩
theorem ok18 : TyOk Tryz.prog 18 ty18 := ⟨Tryz.underlying18, Tryz.t18, info_of Tryz.type18, rfl, rfl, rfl⟩
def ty19 : TyI := ⟨(.struct #[{ name := "typ", type := 17, offset := 0, embedded := false, tag := "", pkgPath := "internal/runtime/maps", byteOffset := 0 }]), 1, 8, some (Value.agg #[Value.pointer none])⟩
theorem ok19 : TyOk Tryz.prog 19 ty19 := ⟨Tryz.underlying19, Tryz.t19, info_of Tryz.type19, rfl, rfl, rfl⟩
def ty20 : TyI := ⟨(.interface #[]), 1, 16, some Value.nilIface⟩
theorem ok20 : TyOk Tryz.prog 20 ty20 := ⟨Tryz.underlying20, Tryz.t20, info_of Tryz.type20, rfl, rfl, rfl⟩
def ty21 : TyI := ⟨(.int .i32), 1, 4, some (Value.int .i32 0)⟩
theorem ok21 : TyOk Tryz.prog 21 ty21 := ⟨Tryz.underlying21, Tryz.t21, info_of Tryz.type21, rfl, rfl, rfl⟩
def ty22 : TyI := ⟨(.pointer 95), 1, 8, some (Value.pointer none)⟩
theorem ok22 : TyOk Tryz.prog 22 ty22 := ⟨Tryz.underlying22, Tryz.t22, info_of Tryz.type22, rfl, rfl, rfl⟩
def ty23 : TyI := ⟨(.int .i64), 1, 8, some (Value.int .i64 0)⟩
theorem ok23 : TyOk Tryz.prog 23 ty23 := ⟨Tryz.underlying23, Tryz.t23, info_of Tryz.type23, rfl, rfl, rfl⟩
def ty24 : TyI := ⟨(.tuple #[22, 23]), 1, 0, some (Value.tuple #[Value.pointer none, Value.int .i64 0])⟩
theorem ok24 : TyOk Tryz.prog 24 ty24 := ⟨Tryz.underlying24, Tryz.t24, info_of Tryz.type24, rfl, rfl, rfl⟩
def ty25 : TyI := ⟨(.func #[3] #[22, 23] false), 1, 8, some Value.nilFunc⟩
theorem ok25 : TyOk Tryz.prog 25 ty25 := ⟨Tryz.underlying25, Tryz.t25, info_of Tryz.type25, rfl, rfl, rfl⟩
def ty26 : TyI := ⟨(.tuple #[3, 23]), 1, 0, some (Value.tuple #[Value.int .i64 0, Value.int .i64 0])⟩
theorem ok26 : TyOk Tryz.prog 26 ty26 := ⟨Tryz.underlying26, Tryz.t26, info_of Tryz.type26, rfl, rfl, rfl⟩
def ty27 : TyI := ⟨(.func #[22] #[3, 23] false), 1, 8, some Value.nilFunc⟩
theorem ok27 : TyOk Tryz.prog 27 ty27 := ⟨Tryz.underlying27, Tryz.t27, info_of Tryz.type27, rfl, rfl, rfl⟩
def ty28 : TyI := ⟨(.func #[] #[4] false), 1, 8, some Value.nilFunc⟩
theorem ok28 : TyOk Tryz.prog 28 ty28 := ⟨Tryz.underlying28, Tryz.t28, info_of Tryz.type28, rfl, rfl, rfl⟩
def ty29 : TyI := ⟨(.func #[3] #[3, 23] false), 1, 8, some Value.nilFunc⟩
theorem ok29 : TyOk Tryz.prog 29 ty29 := ⟨Tryz.underlying29, Tryz.t29, info_of Tryz.type29, rfl, rfl, rfl⟩
def ty30 : TyI := ⟨(.func #[3] #[4] false), 1, 8, some Value.nilFunc⟩
theorem ok30 : TyOk Tryz.prog 30 ty30 := ⟨Tryz.underlying30, Tryz.t30, info_of Tryz.type30, rfl, rfl, rfl⟩
def ty31 : TyI := ⟨(.slice 102), 1, 24, some (Value.slice none 0 0)⟩
theorem ok31 : TyOk Tryz.prog 31 ty31 := ⟨Tryz.underlying31, Tryz.t31, info_of Tryz.type31, rfl, rfl, rfl⟩
def ty32 : TyI := ⟨(.struct #[{ name := "Volume", type := 3, offset := 0, embedded := false, tag := "", pkgPath := "", byteOffset := 0 }, { name := "Epoch", type := 3, offset := 1, embedded := false, tag := "", pkgPath := "", byteOffset := 8 }, { name := "Next", type := 3, offset := 2, embedded := false, tag := "", pkgPath := "", byteOffset := 16 }, { name := "Live", type := 3, offset := 3, embedded := false, tag := "", pkgPath := "", byteOffset := 24 }, { name := "Root", type := 9, offset := 4, embedded := false, tag := "", pkgPath := "", byteOffset := 32 }]), 5, 48, some (Value.agg #[Value.int .i64 0, Value.int .i64 0, Value.int .i64 0, Value.int .i64 0, Value.string { data := #[] }])⟩
theorem ok32 : TyOk Tryz.prog 32 ty32 := ⟨Tryz.underlying32, Tryz.t32, info_of Tryz.type32, rfl, rfl, rfl⟩
def ty33 : TyI := ⟨(.struct #[{ name := "Volume", type := 3, offset := 0, embedded := false, tag := "", pkgPath := "", byteOffset := 0 }, { name := "Epoch", type := 3, offset := 1, embedded := false, tag := "", pkgPath := "", byteOffset := 8 }, { name := "Next", type := 3, offset := 2, embedded := false, tag := "", pkgPath := "", byteOffset := 16 }, { name := "Live", type := 3, offset := 3, embedded := false, tag := "", pkgPath := "", byteOffset := 24 }, { name := "Root", type := 9, offset := 4, embedded := false, tag := "", pkgPath := "", byteOffset := 32 }]), 5, 48, some (Value.agg #[Value.int .i64 0, Value.int .i64 0, Value.int .i64 0, Value.int .i64 0, Value.string { data := #[] }])⟩
theorem ok33 : TyOk Tryz.prog 33 ty33 := ⟨Tryz.underlying33, Tryz.t33, info_of Tryz.type33, rfl, rfl, rfl⟩
def ty34 : TyI := ⟨(.tuple #[33, 4]), 1, 0, some (Value.tuple #[Value.agg #[Value.int .i64 0, Value.int .i64 0, Value.int .i64 0, Value.int .i64 0, Value.string { data := #[] }], Value.bool false])⟩
theorem ok34 : TyOk Tryz.prog 34 ty34 := ⟨Tryz.underlying34, Tryz.t34, info_of Tryz.type34, rfl, rfl, rfl⟩
def ty35 : TyI := ⟨(.func #[31, 3] #[33, 4] false), 1, 8, some Value.nilFunc⟩
theorem ok35 : TyOk Tryz.prog 35 ty35 := ⟨Tryz.underlying35, Tryz.t35, info_of Tryz.type35, rfl, rfl, rfl⟩
def ty36 : TyI := ⟨(.func #[31, 3] #[4] false), 1, 8, some Value.nilFunc⟩
theorem ok36 : TyOk Tryz.prog 36 ty36 := ⟨Tryz.underlying36, Tryz.t36, info_of Tryz.type36, rfl, rfl, rfl⟩
def ty37 : TyI := ⟨(.slice 98), 1, 24, some (Value.slice none 0 0)⟩
theorem ok37 : TyOk Tryz.prog 37 ty37 := ⟨Tryz.underlying37, Tryz.t37, info_of Tryz.type37, rfl, rfl, rfl⟩
def ty38 : TyI := ⟨(.pointer 114), 1, 8, some (Value.pointer none)⟩
theorem ok38 : TyOk Tryz.prog 38 ty38 := ⟨Tryz.underlying38, Tryz.t38, info_of Tryz.type38, rfl, rfl, rfl⟩
def ty39 : TyI := ⟨(.func #[] #[38] false), 1, 8, some Value.nilFunc⟩
theorem ok39 : TyOk Tryz.prog 39 ty39 := ⟨Tryz.underlying39, Tryz.t39, info_of Tryz.type39, rfl, rfl, rfl⟩
def ty40 : TyI := ⟨(.tuple #[33, 3, 23]), 1, 0, some (Value.tuple #[Value.agg #[Value.int .i64 0, Value.int .i64 0, Value.int .i64 0, Value.int .i64 0, Value.string { data := #[] }], Value.int .i64 0, Value.int .i64 0])⟩
theorem ok40 : TyOk Tryz.prog 40 ty40 := ⟨Tryz.underlying40, Tryz.t40, info_of Tryz.type40, rfl, rfl, rfl⟩
def ty41 : TyI := ⟨(.func #[22, 38] #[33, 3, 23] false), 1, 8, some Value.nilFunc⟩
theorem ok41 : TyOk Tryz.prog 41 ty41 := ⟨Tryz.underlying41, Tryz.t41, info_of Tryz.type41, rfl, rfl, rfl⟩
def ty42 : TyI := ⟨(.func #[22, 38, 51, 33] #[23] false), 1, 8, some Value.nilFunc⟩
theorem ok42 : TyOk Tryz.prog 42 ty42 := ⟨Tryz.underlying42, Tryz.t42, info_of Tryz.type42, rfl, rfl, rfl⟩
def ty43 : TyI := ⟨(.func #[3, 3] #[33] false), 1, 8, some Value.nilFunc⟩
theorem ok43 : TyOk Tryz.prog 43 ty43 := ⟨Tryz.underlying43, Tryz.t43, info_of Tryz.type43, rfl, rfl, rfl⟩
def ty44 : TyI := ⟨(.func #[22, 38, 33] #[23] false), 1, 8, some Value.nilFunc⟩
theorem ok44 : TyOk Tryz.prog 44 ty44 := ⟨Tryz.underlying44, Tryz.t44, info_of Tryz.type44, rfl, rfl, rfl⟩
def ty45 : TyI := ⟨(.func #[33, 37] #[4] false), 1, 8, some Value.nilFunc⟩
theorem ok45 : TyOk Tryz.prog 45 ty45 := ⟨Tryz.underlying45, Tryz.t45, info_of Tryz.type45, rfl, rfl, rfl⟩
def ty46 : TyI := ⟨(.slice 4), 1, 24, some (Value.slice none 0 0)⟩
theorem ok46 : TyOk Tryz.prog 46 ty46 := ⟨Tryz.underlying46, Tryz.t46, info_of Tryz.type46, rfl, rfl, rfl⟩
def ty47 : TyI := ⟨(.struct #[{ name := "Fuse", type := 3, offset := 0, embedded := false, tag := "", pkgPath := "", byteOffset := 0 }, { name := "Keep", type := 46, offset := 1, embedded := false, tag := "", pkgPath := "", byteOffset := 8 }]), 2, 32, some (Value.agg #[Value.int .i64 0, Value.slice none 0 0])⟩
theorem ok47 : TyOk Tryz.prog 47 ty47 := ⟨Tryz.underlying47, Tryz.t47, info_of Tryz.type47, rfl, rfl, rfl⟩
def ty48 : TyI := ⟨(.struct #[{ name := "Fuse", type := 3, offset := 0, embedded := false, tag := "", pkgPath := "", byteOffset := 0 }, { name := "Keep", type := 46, offset := 1, embedded := false, tag := "", pkgPath := "", byteOffset := 8 }]), 2, 32, some (Value.agg #[Value.int .i64 0, Value.slice none 0 0])⟩
theorem ok48 : TyOk Tryz.prog 48 ty48 := ⟨Tryz.underlying48, Tryz.t48, info_of Tryz.type48, rfl, rfl, rfl⟩
def ty49 : TyI := ⟨(.slice 48), 1, 24, some (Value.slice none 0 0)⟩
theorem ok49 : TyOk Tryz.prog 49 ty49 := ⟨Tryz.underlying49, Tryz.t49, info_of Tryz.type49, rfl, rfl, rfl⟩
def ty50 : TyI := ⟨(.func #[3] #[3] false), 1, 8, some Value.nilFunc⟩
theorem ok50 : TyOk Tryz.prog 50 ty50 := ⟨Tryz.underlying50, Tryz.t50, info_of Tryz.type50, rfl, rfl, rfl⟩
def ty51 : TyI := ⟨(.slice 54), 1, 24, some (Value.slice none 0 0)⟩
theorem ok51 : TyOk Tryz.prog 51 ty51 := ⟨Tryz.underlying51, Tryz.t51, info_of Tryz.type51, rfl, rfl, rfl⟩
def ty52 : TyI := ⟨(.func #[37] #[51] false), 1, 8, some Value.nilFunc⟩
theorem ok52 : TyOk Tryz.prog 52 ty52 := ⟨Tryz.underlying52, Tryz.t52, info_of Tryz.type52, rfl, rfl, rfl⟩
def ty53 : TyI := ⟨(.struct #[{ name := "Address", type := 3, offset := 0, embedded := false, tag := "", pkgPath := "", byteOffset := 0 }, { name := "Raw", type := 9, offset := 1, embedded := false, tag := "", pkgPath := "", byteOffset := 8 }]), 2, 24, some (Value.agg #[Value.int .i64 0, Value.string { data := #[] }])⟩
theorem ok53 : TyOk Tryz.prog 53 ty53 := ⟨Tryz.underlying53, Tryz.t53, info_of Tryz.type53, rfl, rfl, rfl⟩
def ty54 : TyI := ⟨(.struct #[{ name := "Address", type := 3, offset := 0, embedded := false, tag := "", pkgPath := "", byteOffset := 0 }, { name := "Raw", type := 9, offset := 1, embedded := false, tag := "", pkgPath := "", byteOffset := 8 }]), 2, 24, some (Value.agg #[Value.int .i64 0, Value.string { data := #[] }])⟩
theorem ok54 : TyOk Tryz.prog 54 ty54 := ⟨Tryz.underlying54, Tryz.t54, info_of Tryz.type54, rfl, rfl, rfl⟩
def ty55 : TyI := ⟨(.func #[5, 3] #[9] false), 1, 8, some Value.nilFunc⟩
theorem ok55 : TyOk Tryz.prog 55 ty55 := ⟨Tryz.underlying55, Tryz.t55, info_of Tryz.type55, rfl, rfl, rfl⟩
def ty56 : TyI := ⟨(.func #[3] #[23] false), 1, 8, some Value.nilFunc⟩
theorem ok56 : TyOk Tryz.prog 56 ty56 := ⟨Tryz.underlying56, Tryz.t56, info_of Tryz.type56, rfl, rfl, rfl⟩
def ty57 : TyI := ⟨(.func #[46] #[] false), 1, 8, some Value.nilFunc⟩
theorem ok57 : TyOk Tryz.prog 57 ty57 := ⟨Tryz.underlying57, Tryz.t57, info_of Tryz.type57, rfl, rfl, rfl⟩
def ty58 : TyI := ⟨(.slice 9), 1, 24, some (Value.slice none 0 0)⟩
theorem ok58 : TyOk Tryz.prog 58 ty58 := ⟨Tryz.underlying58, Tryz.t58, info_of Tryz.type58, rfl, rfl, rfl⟩
def ty59 : TyI := ⟨(.slice 3), 1, 24, some (Value.slice none 0 0)⟩
theorem ok59 : TyOk Tryz.prog 59 ty59 := ⟨Tryz.underlying59, Tryz.t59, info_of Tryz.type59, rfl, rfl, rfl⟩
def ty60 : TyI := ⟨(.struct #[{ name := "Raws", type := 58, offset := 0, embedded := false, tag := "", pkgPath := "", byteOffset := 0 }, { name := "Masks", type := 59, offset := 1, embedded := false, tag := "", pkgPath := "", byteOffset := 24 }]), 2, 48, some (Value.agg #[Value.slice none 0 0, Value.slice none 0 0])⟩
theorem ok60 : TyOk Tryz.prog 60 ty60 := ⟨Tryz.underlying60, Tryz.t60, info_of Tryz.type60, rfl, rfl, rfl⟩
def ty61 : TyI := ⟨(.struct #[{ name := "Raws", type := 58, offset := 0, embedded := false, tag := "", pkgPath := "", byteOffset := 0 }, { name := "Masks", type := 59, offset := 1, embedded := false, tag := "", pkgPath := "", byteOffset := 24 }]), 2, 48, some (Value.agg #[Value.slice none 0 0, Value.slice none 0 0])⟩
theorem ok61 : TyOk Tryz.prog 61 ty61 := ⟨Tryz.underlying61, Tryz.t61, info_of Tryz.type61, rfl, rfl, rfl⟩
def ty62 : TyI := ⟨(.func #[22] #[61] false), 1, 8, some Value.nilFunc⟩
theorem ok62 : TyOk Tryz.prog 62 ty62 := ⟨Tryz.underlying62, Tryz.t62, info_of Tryz.type62, rfl, rfl, rfl⟩
def ty63 : TyI := ⟨(.tuple #[9, 3]), 1, 0, some (Value.tuple #[Value.string { data := #[] }, Value.int .i64 0])⟩
theorem ok63 : TyOk Tryz.prog 63 ty63 := ⟨Tryz.underlying63, Tryz.t63, info_of Tryz.type63, rfl, rfl, rfl⟩
def ty64 : TyI := ⟨(.func #[61, 3] #[9, 3] false), 1, 8, some Value.nilFunc⟩
theorem ok64 : TyOk Tryz.prog 64 ty64 := ⟨Tryz.underlying64, Tryz.t64, info_of Tryz.type64, rfl, rfl, rfl⟩
def ty65 : TyI := ⟨(.func #[37, 48, 49] #[4] false), 1, 8, some Value.nilFunc⟩
theorem ok65 : TyOk Tryz.prog 65 ty65 := ⟨Tryz.underlying65, Tryz.t65, info_of Tryz.type65, rfl, rfl, rfl⟩
def ty66 : TyI := ⟨(.pointer 73), 1, 8, some (Value.pointer none)⟩
theorem ok66 : TyOk Tryz.prog 66 ty66 := ⟨Tryz.underlying66, Tryz.t66, info_of Tryz.type66, rfl, rfl, rfl⟩
def ty67 : TyI := ⟨(.func #[3] #[66] false), 1, 8, some Value.nilFunc⟩
theorem ok67 : TyOk Tryz.prog 67 ty67 := ⟨Tryz.underlying67, Tryz.t67, info_of Tryz.type67, rfl, rfl, rfl⟩
def ty68 : TyI := ⟨(.tuple #[54, 23]), 1, 0, some (Value.tuple #[Value.agg #[Value.int .i64 0, Value.string { data := #[] }], Value.int .i64 0])⟩
theorem ok68 : TyOk Tryz.prog 68 ty68 := ⟨Tryz.underlying68, Tryz.t68, info_of Tryz.type68, rfl, rfl, rfl⟩
def ty69 : TyI := ⟨(.func #[38, 33] #[54, 23] false), 1, 8, some Value.nilFunc⟩
theorem ok69 : TyOk Tryz.prog 69 ty69 := ⟨Tryz.underlying69, Tryz.t69, info_of Tryz.type69, rfl, rfl, rfl⟩
def ty70 : TyI := ⟨(.pointer 148), 1, 8, some (Value.pointer none)⟩
theorem ok70 : TyOk Tryz.prog 70 ty70 := ⟨Tryz.underlying70, Tryz.t70, info_of Tryz.type70, rfl, rfl, rfl⟩
def ty71 : TyI := ⟨(.pointer 201), 1, 8, some (Value.pointer none)⟩
theorem ok71 : TyOk Tryz.prog 71 ty71 := ⟨Tryz.underlying71, Tryz.t71, info_of Tryz.type71, rfl, rfl, rfl⟩
def ty72 : TyI := ⟨(.struct #[{ name := "p", type := 22, offset := 0, embedded := false, tag := "", pkgPath := "grapnel/grapnellaw12", byteOffset := 0 }, { name := "q", type := 70, offset := 1, embedded := false, tag := "", pkgPath := "grapnel/grapnellaw12", byteOffset := 8 }, { name := "v", type := 38, offset := 2, embedded := false, tag := "", pkgPath := "grapnel/grapnellaw12", byteOffset := 16 }, { name := "w", type := 71, offset := 3, embedded := false, tag := "", pkgPath := "grapnel/grapnellaw12", byteOffset := 24 }]), 4, 32, some (Value.agg #[Value.pointer none, Value.pointer none, Value.pointer none, Value.pointer none])⟩
theorem ok72 : TyOk Tryz.prog 72 ty72 := ⟨Tryz.underlying72, Tryz.t72, info_of Tryz.type72, rfl, rfl, rfl⟩
def ty73 : TyI := ⟨(.struct #[{ name := "p", type := 22, offset := 0, embedded := false, tag := "", pkgPath := "grapnel/grapnellaw12", byteOffset := 0 }, { name := "q", type := 70, offset := 1, embedded := false, tag := "", pkgPath := "grapnel/grapnellaw12", byteOffset := 8 }, { name := "v", type := 38, offset := 2, embedded := false, tag := "", pkgPath := "grapnel/grapnellaw12", byteOffset := 16 }, { name := "w", type := 71, offset := 3, embedded := false, tag := "", pkgPath := "grapnel/grapnellaw12", byteOffset := 24 }]), 4, 32, some (Value.agg #[Value.pointer none, Value.pointer none, Value.pointer none, Value.pointer none])⟩
theorem ok73 : TyOk Tryz.prog 73 ty73 := ⟨Tryz.underlying73, Tryz.t73, info_of Tryz.type73, rfl, rfl, rfl⟩
def ty74 : TyI := ⟨(.func #[71, 33] #[54, 23] false), 1, 8, some Value.nilFunc⟩
theorem ok74 : TyOk Tryz.prog 74 ty74 := ⟨Tryz.underlying74, Tryz.t74, info_of Tryz.type74, rfl, rfl, rfl⟩
def ty75 : TyI := ⟨(.func #[33] #[4] false), 1, 8, some Value.nilFunc⟩
theorem ok75 : TyOk Tryz.prog 75 ty75 := ⟨Tryz.underlying75, Tryz.t75, info_of Tryz.type75, rfl, rfl, rfl⟩
def ty76 : TyI := ⟨(.func #[48] #[] false), 1, 8, some Value.nilFunc⟩
theorem ok76 : TyOk Tryz.prog 76 ty76 := ⟨Tryz.underlying76, Tryz.t76, info_of Tryz.type76, rfl, rfl, rfl⟩
def ty77 : TyI := ⟨(.func #[70, 71, 33] #[23] false), 1, 8, some Value.nilFunc⟩
theorem ok77 : TyOk Tryz.prog 77 ty77 := ⟨Tryz.underlying77, Tryz.t77, info_of Tryz.type77, rfl, rfl, rfl⟩
def ty78 : TyI := ⟨(.func #[3, 33, 48] #[4] false), 1, 8, some Value.nilFunc⟩
theorem ok78 : TyOk Tryz.prog 78 ty78 := ⟨Tryz.underlying78, Tryz.t78, info_of Tryz.type78, rfl, rfl, rfl⟩
def ty79 : TyI := ⟨(.func #[70, 71, 51, 33] #[23] false), 1, 8, some Value.nilFunc⟩
theorem ok79 : TyOk Tryz.prog 79 ty79 := ⟨Tryz.underlying79, Tryz.t79, info_of Tryz.type79, rfl, rfl, rfl⟩
def ty80 : TyI := ⟨(.func #[3, 37, 33, 48] #[4] false), 1, 8, some Value.nilFunc⟩
theorem ok80 : TyOk Tryz.prog 80 ty80 := ⟨Tryz.underlying80, Tryz.t80, info_of Tryz.type80, rfl, rfl, rfl⟩
def ty81 : TyI := ⟨(.slice 157), 1, 24, some (Value.slice none 0 0)⟩
theorem ok81 : TyOk Tryz.prog 81 ty81 := ⟨Tryz.underlying81, Tryz.t81, info_of Tryz.type81, rfl, rfl, rfl⟩
def ty82 : TyI := ⟨(.func #[81] #[] false), 1, 8, some Value.nilFunc⟩
theorem ok82 : TyOk Tryz.prog 82 ty82 := ⟨Tryz.underlying82, Tryz.t82, info_of Tryz.type82, rfl, rfl, rfl⟩
def ty83 : TyI := ⟨(.struct #[{ name := "Live", type := 3, offset := 0, embedded := false, tag := "", pkgPath := "", byteOffset := 0 }, { name := "Commit", type := 3, offset := 1, embedded := false, tag := "", pkgPath := "", byteOffset := 8 }, { name := "Log", type := 3, offset := 2, embedded := false, tag := "", pkgPath := "", byteOffset := 16 }, { name := "Blocks", type := 3, offset := 3, embedded := false, tag := "", pkgPath := "", byteOffset := 24 }, { name := "Nodes", type := 3, offset := 4, embedded := false, tag := "", pkgPath := "", byteOffset := 32 }, { name := "Table", type := 3, offset := 5, embedded := false, tag := "", pkgPath := "", byteOffset := 40 }, { name := "Inodes", type := 3, offset := 6, embedded := false, tag := "", pkgPath := "", byteOffset := 48 }, { name := "Lost", type := 3, offset := 7, embedded := false, tag := "", pkgPath := "", byteOffset := 56 }, { name := "LostBlocks", type := 3, offset := 8, embedded := false, tag := "", pkgPath := "", byteOffset := 64 }, { name := "Root", type := 3, offset := 9, embedded := false, tag := "", pkgPath := "", byteOffset := 72 }, { name := "Data", type := 3, offset := 10, embedded := false, tag := "", pkgPath := "", byteOffset := 80 }, { name := "Plan", type := 3, offset := 11, embedded := false, tag := "", pkgPath := "", byteOffset := 88 }, { name := "List", type := 3, offset := 12, embedded := false, tag := "", pkgPath := "", byteOffset := 96 }, { name := "ListBlocks", type := 3, offset := 13, embedded := false, tag := "", pkgPath := "", byteOffset := 104 }, { name := "Old", type := 3, offset := 14, embedded := false, tag := "", pkgPath := "", byteOffset := 112 }, { name := "Total", type := 3, offset := 15, embedded := false, tag := "", pkgPath := "", byteOffset := 120 }]), 16, 128, some (Value.agg #[Value.int .i64 0, Value.int .i64 0, Value.int .i64 0, Value.int .i64 0, Value.int .i64 0, Value.int .i64 0, Value.int .i64 0, Value.int .i64 0, Value.int .i64 0, Value.int .i64 0, Value.int .i64 0, Value.int .i64 0, Value.int .i64 0, Value.int .i64 0, Value.int .i64 0, Value.int .i64 0])⟩
theorem ok83 : TyOk Tryz.prog 83 ty83 := ⟨Tryz.underlying83, Tryz.t83, info_of Tryz.type83, rfl, rfl, rfl⟩
def ty84 : TyI := ⟨(.struct #[{ name := "Live", type := 3, offset := 0, embedded := false, tag := "", pkgPath := "", byteOffset := 0 }, { name := "Commit", type := 3, offset := 1, embedded := false, tag := "", pkgPath := "", byteOffset := 8 }, { name := "Log", type := 3, offset := 2, embedded := false, tag := "", pkgPath := "", byteOffset := 16 }, { name := "Blocks", type := 3, offset := 3, embedded := false, tag := "", pkgPath := "", byteOffset := 24 }, { name := "Nodes", type := 3, offset := 4, embedded := false, tag := "", pkgPath := "", byteOffset := 32 }, { name := "Table", type := 3, offset := 5, embedded := false, tag := "", pkgPath := "", byteOffset := 40 }, { name := "Inodes", type := 3, offset := 6, embedded := false, tag := "", pkgPath := "", byteOffset := 48 }, { name := "Lost", type := 3, offset := 7, embedded := false, tag := "", pkgPath := "", byteOffset := 56 }, { name := "LostBlocks", type := 3, offset := 8, embedded := false, tag := "", pkgPath := "", byteOffset := 64 }, { name := "Root", type := 3, offset := 9, embedded := false, tag := "", pkgPath := "", byteOffset := 72 }, { name := "Data", type := 3, offset := 10, embedded := false, tag := "", pkgPath := "", byteOffset := 80 }, { name := "Plan", type := 3, offset := 11, embedded := false, tag := "", pkgPath := "", byteOffset := 88 }, { name := "List", type := 3, offset := 12, embedded := false, tag := "", pkgPath := "", byteOffset := 96 }, { name := "ListBlocks", type := 3, offset := 13, embedded := false, tag := "", pkgPath := "", byteOffset := 104 }, { name := "Old", type := 3, offset := 14, embedded := false, tag := "", pkgPath := "", byteOffset := 112 }, { name := "Total", type := 3, offset := 15, embedded := false, tag := "", pkgPath := "", byteOffset := 120 }]), 16, 128, some (Value.agg #[Value.int .i64 0, Value.int .i64 0, Value.int .i64 0, Value.int .i64 0, Value.int .i64 0, Value.int .i64 0, Value.int .i64 0, Value.int .i64 0, Value.int .i64 0, Value.int .i64 0, Value.int .i64 0, Value.int .i64 0, Value.int .i64 0, Value.int .i64 0, Value.int .i64 0, Value.int .i64 0])⟩
theorem ok84 : TyOk Tryz.prog 84 ty84 := ⟨Tryz.underlying84, Tryz.t84, info_of Tryz.type84, rfl, rfl, rfl⟩
def ty85 : TyI := ⟨(.tuple #[84, 23]), 1, 0, some (Value.tuple #[Value.agg #[Value.int .i64 0, Value.int .i64 0, Value.int .i64 0, Value.int .i64 0, Value.int .i64 0, Value.int .i64 0, Value.int .i64 0, Value.int .i64 0, Value.int .i64 0, Value.int .i64 0, Value.int .i64 0, Value.int .i64 0, Value.int .i64 0, Value.int .i64 0, Value.int .i64 0, Value.int .i64 0], Value.int .i64 0])⟩
theorem ok85 : TyOk Tryz.prog 85 ty85 := ⟨Tryz.underlying85, Tryz.t85, info_of Tryz.type85, rfl, rfl, rfl⟩
def ty86 : TyI := ⟨(.func #[3] #[84, 23] false), 1, 8, some Value.nilFunc⟩
theorem ok86 : TyOk Tryz.prog 86 ty86 := ⟨Tryz.underlying86, Tryz.t86, info_of Tryz.type86, rfl, rfl, rfl⟩
def ty87 : TyI := ⟨(.tuple #[51, 33, 4]), 1, 0, some (Value.tuple #[Value.slice none 0 0, Value.agg #[Value.int .i64 0, Value.int .i64 0, Value.int .i64 0, Value.int .i64 0, Value.string { data := #[] }], Value.bool false])⟩
theorem ok87 : TyOk Tryz.prog 87 ty87 := ⟨Tryz.underlying87, Tryz.t87, info_of Tryz.type87, rfl, rfl, rfl⟩
def ty88 : TyI := ⟨(.func #[38, 84, 61] #[51, 33, 4] false), 1, 8, some Value.nilFunc⟩
theorem ok88 : TyOk Tryz.prog 88 ty88 := ⟨Tryz.underlying88, Tryz.t88, info_of Tryz.type88, rfl, rfl, rfl⟩
def ty89 : TyI := ⟨(.func #[70, 71, 84] #[51, 33, 4] false), 1, 8, some Value.nilFunc⟩
theorem ok89 : TyOk Tryz.prog 89 ty89 := ⟨Tryz.underlying89, Tryz.t89, info_of Tryz.type89, rfl, rfl, rfl⟩
def ty90 : TyI := ⟨(.func #[37, 48, 81] #[4] false), 1, 8, some Value.nilFunc⟩
theorem ok90 : TyOk Tryz.prog 90 ty90 := ⟨Tryz.underlying90, Tryz.t90, info_of Tryz.type90, rfl, rfl, rfl⟩
def ty91 : TyI := ⟨(.func #[70, 71] #[33, 3, 23] false), 1, 8, some Value.nilFunc⟩
theorem ok91 : TyOk Tryz.prog 91 ty91 := ⟨Tryz.underlying91, Tryz.t91, info_of Tryz.type91, rfl, rfl, rfl⟩
def ty92 : TyI := ⟨(.func #[37, 3, 48, 81, 48] #[4] false), 1, 8, some Value.nilFunc⟩
theorem ok92 : TyOk Tryz.prog 92 ty92 := ⟨Tryz.underlying92, Tryz.t92, info_of Tryz.type92, rfl, rfl, rfl⟩
def ty93 : TyI := ⟨(.slice 131), 1, 24, some (Value.slice none 0 0)⟩
theorem ok93 : TyOk Tryz.prog 93 ty93 := ⟨Tryz.underlying93, Tryz.t93, info_of Tryz.type93, rfl, rfl, rfl⟩
def ty94 : TyI := ⟨(.struct #[{ name := "sectors", type := 3, offset := 0, embedded := false, tag := "", pkgPath := "grapnel/plate", byteOffset := 0 }, { name := "held", type := 58, offset := 1, embedded := false, tag := "", pkgPath := "grapnel/plate", byteOffset := 8 }, { name := "dumb", type := 46, offset := 2, embedded := false, tag := "", pkgPath := "grapnel/plate", byteOffset := 32 }, { name := "cache", type := 93, offset := 3, embedded := false, tag := "", pkgPath := "grapnel/plate", byteOffset := 56 }, { name := "fuse", type := 3, offset := 4, embedded := false, tag := "", pkgPath := "grapnel/plate", byteOffset := 80 }, { name := "down", type := 4, offset := 5, embedded := false, tag := "", pkgPath := "grapnel/plate", byteOffset := 88 }, { name := "reads", type := 3, offset := 6, embedded := false, tag := "", pkgPath := "grapnel/plate", byteOffset := 96 }, { name := "writes", type := 3, offset := 7, embedded := false, tag := "", pkgPath := "grapnel/plate", byteOffset := 104 }]), 8, 112, some (Value.agg #[Value.int .i64 0, Value.slice none 0 0, Value.slice none 0 0, Value.slice none 0 0, Value.int .i64 0, Value.bool false, Value.int .i64 0, Value.int .i64 0])⟩
theorem ok94 : TyOk Tryz.prog 94 ty94 := ⟨Tryz.underlying94, Tryz.t94, info_of Tryz.type94, rfl, rfl, rfl⟩
def ty95 : TyI := ⟨(.struct #[{ name := "sectors", type := 3, offset := 0, embedded := false, tag := "", pkgPath := "grapnel/plate", byteOffset := 0 }, { name := "held", type := 58, offset := 1, embedded := false, tag := "", pkgPath := "grapnel/plate", byteOffset := 8 }, { name := "dumb", type := 46, offset := 2, embedded := false, tag := "", pkgPath := "grapnel/plate", byteOffset := 32 }, { name := "cache", type := 93, offset := 3, embedded := false, tag := "", pkgPath := "grapnel/plate", byteOffset := 56 }, { name := "fuse", type := 3, offset := 4, embedded := false, tag := "", pkgPath := "grapnel/plate", byteOffset := 80 }, { name := "down", type := 4, offset := 5, embedded := false, tag := "", pkgPath := "grapnel/plate", byteOffset := 88 }, { name := "reads", type := 3, offset := 6, embedded := false, tag := "", pkgPath := "grapnel/plate", byteOffset := 96 }, { name := "writes", type := 3, offset := 7, embedded := false, tag := "", pkgPath := "grapnel/plate", byteOffset := 104 }]), 8, 112, some (Value.agg #[Value.int .i64 0, Value.slice none 0 0, Value.slice none 0 0, Value.slice none 0 0, Value.int .i64 0, Value.bool false, Value.int .i64 0, Value.int .i64 0])⟩
theorem ok95 : TyOk Tryz.prog 95 ty95 := ⟨Tryz.underlying95, Tryz.t95, info_of Tryz.type95, rfl, rfl, rfl⟩
def ty96 : TyI := ⟨(.func #[] #[3] false), 1, 8, some Value.nilFunc⟩
theorem ok96 : TyOk Tryz.prog 96 ty96 := ⟨Tryz.underlying96, Tryz.t96, info_of Tryz.type96, rfl, rfl, rfl⟩
def ty97 : TyI := ⟨(.struct #[{ name := "At", type := 3, offset := 0, embedded := false, tag := "", pkgPath := "", byteOffset := 0 }, { name := "V", type := 5, offset := 1, embedded := false, tag := "", pkgPath := "", byteOffset := 8 }, { name := "Bad", type := 4, offset := 2, embedded := false, tag := "", pkgPath := "", byteOffset := 9 }]), 3, 16, some (Value.agg #[Value.int .i64 0, Value.int .u8 0, Value.bool false])⟩
theorem ok97 : TyOk Tryz.prog 97 ty97 := ⟨Tryz.underlying97, Tryz.t97, info_of Tryz.type97, rfl, rfl, rfl⟩
def ty98 : TyI := ⟨(.struct #[{ name := "At", type := 3, offset := 0, embedded := false, tag := "", pkgPath := "", byteOffset := 0 }, { name := "V", type := 5, offset := 1, embedded := false, tag := "", pkgPath := "", byteOffset := 8 }, { name := "Bad", type := 4, offset := 2, embedded := false, tag := "", pkgPath := "", byteOffset := 9 }]), 3, 16, some (Value.agg #[Value.int .i64 0, Value.int .u8 0, Value.bool false])⟩
theorem ok98 : TyOk Tryz.prog 98 ty98 := ⟨Tryz.underlying98, Tryz.t98, info_of Tryz.type98, rfl, rfl, rfl⟩
def ty99 : TyI := ⟨(.struct #[{ name := "Volume", type := 3, offset := 0, embedded := false, tag := "", pkgPath := "", byteOffset := 0 }, { name := "Address", type := 3, offset := 1, embedded := false, tag := "", pkgPath := "", byteOffset := 8 }, { name := "Kind", type := 3, offset := 2, embedded := false, tag := "", pkgPath := "", byteOffset := 16 }, { name := "Ino", type := 3, offset := 3, embedded := false, tag := "", pkgPath := "", byteOffset := 24 }, { name := "Gen", type := 3, offset := 4, embedded := false, tag := "", pkgPath := "", byteOffset := 32 }, { name := "Index", type := 3, offset := 5, embedded := false, tag := "", pkgPath := "", byteOffset := 40 }, { name := "Version", type := 3, offset := 6, embedded := false, tag := "", pkgPath := "", byteOffset := 48 }, { name := "Salt", type := 3, offset := 7, embedded := false, tag := "", pkgPath := "", byteOffset := 56 }]), 8, 64, some (Value.agg #[Value.int .i64 0, Value.int .i64 0, Value.int .i64 0, Value.int .i64 0, Value.int .i64 0, Value.int .i64 0, Value.int .i64 0, Value.int .i64 0])⟩
theorem ok99 : TyOk Tryz.prog 99 ty99 := ⟨Tryz.underlying99, Tryz.t99, info_of Tryz.type99, rfl, rfl, rfl⟩
def ty100 : TyI := ⟨(.struct #[{ name := "Volume", type := 3, offset := 0, embedded := false, tag := "", pkgPath := "", byteOffset := 0 }, { name := "Address", type := 3, offset := 1, embedded := false, tag := "", pkgPath := "", byteOffset := 8 }, { name := "Kind", type := 3, offset := 2, embedded := false, tag := "", pkgPath := "", byteOffset := 16 }, { name := "Ino", type := 3, offset := 3, embedded := false, tag := "", pkgPath := "", byteOffset := 24 }, { name := "Gen", type := 3, offset := 4, embedded := false, tag := "", pkgPath := "", byteOffset := 32 }, { name := "Index", type := 3, offset := 5, embedded := false, tag := "", pkgPath := "", byteOffset := 40 }, { name := "Version", type := 3, offset := 6, embedded := false, tag := "", pkgPath := "", byteOffset := 48 }, { name := "Salt", type := 3, offset := 7, embedded := false, tag := "", pkgPath := "", byteOffset := 56 }]), 8, 64, some (Value.agg #[Value.int .i64 0, Value.int .i64 0, Value.int .i64 0, Value.int .i64 0, Value.int .i64 0, Value.int .i64 0, Value.int .i64 0, Value.int .i64 0])⟩
theorem ok100 : TyOk Tryz.prog 100 ty100 := ⟨Tryz.underlying100, Tryz.t100, info_of Tryz.type100, rfl, rfl, rfl⟩
def ty101 : TyI := ⟨(.struct #[{ name := "Ok", type := 4, offset := 0, embedded := false, tag := "", pkgPath := "", byteOffset := 0 }, { name := "Head", type := 100, offset := 1, embedded := false, tag := "", pkgPath := "", byteOffset := 8 }, { name := "Body", type := 9, offset := 9, embedded := false, tag := "", pkgPath := "", byteOffset := 72 }]), 10, 88, some (Value.agg #[Value.bool false, Value.int .i64 0, Value.int .i64 0, Value.int .i64 0, Value.int .i64 0, Value.int .i64 0, Value.int .i64 0, Value.int .i64 0, Value.int .i64 0, Value.string { data := #[] }])⟩
theorem ok101 : TyOk Tryz.prog 101 ty101 := ⟨Tryz.underlying101, Tryz.t101, info_of Tryz.type101, rfl, rfl, rfl⟩
def ty102 : TyI := ⟨(.struct #[{ name := "Ok", type := 4, offset := 0, embedded := false, tag := "", pkgPath := "", byteOffset := 0 }, { name := "Head", type := 100, offset := 1, embedded := false, tag := "", pkgPath := "", byteOffset := 8 }, { name := "Body", type := 9, offset := 9, embedded := false, tag := "", pkgPath := "", byteOffset := 72 }]), 10, 88, some (Value.agg #[Value.bool false, Value.int .i64 0, Value.int .i64 0, Value.int .i64 0, Value.int .i64 0, Value.int .i64 0, Value.int .i64 0, Value.int .i64 0, Value.int .i64 0, Value.string { data := #[] }])⟩
theorem ok102 : TyOk Tryz.prog 102 ty102 := ⟨Tryz.underlying102, Tryz.t102, info_of Tryz.type102, rfl, rfl, rfl⟩
def ty103 : TyI := ⟨(.func #[102, 3, 3] #[33, 4] false), 1, 8, some Value.nilFunc⟩
theorem ok103 : TyOk Tryz.prog 103 ty103 := ⟨Tryz.underlying103, Tryz.t103, info_of Tryz.type103, rfl, rfl, rfl⟩
def ty104 : TyI := ⟨(.tuple #[33, 23]), 1, 0, some (Value.tuple #[Value.agg #[Value.int .i64 0, Value.int .i64 0, Value.int .i64 0, Value.int .i64 0, Value.string { data := #[] }], Value.int .i64 0])⟩
theorem ok104 : TyOk Tryz.prog 104 ty104 := ⟨Tryz.underlying104, Tryz.t104, info_of Tryz.type104, rfl, rfl, rfl⟩
def ty105 : TyI := ⟨(.func #[9] #[33, 23] false), 1, 8, some Value.nilFunc⟩
theorem ok105 : TyOk Tryz.prog 105 ty105 := ⟨Tryz.underlying105, Tryz.t105, info_of Tryz.type105, rfl, rfl, rfl⟩
def ty106 : TyI := ⟨(.pointer 111), 1, 8, some (Value.pointer none)⟩
theorem ok106 : TyOk Tryz.prog 106 ty106 := ⟨Tryz.underlying106, Tryz.t106, info_of Tryz.type106, rfl, rfl, rfl⟩
def ty107 : TyI := ⟨(.map 9 3), 1, 8, some (Value.map none)⟩
theorem ok107 : TyOk Tryz.prog 107 ty107 := ⟨Tryz.underlying107, Tryz.t107, info_of Tryz.type107, rfl, rfl, rfl⟩
def ty108 : TyI := ⟨(.map 331 3), 1, 8, some (Value.map none)⟩
theorem ok108 : TyOk Tryz.prog 108 ty108 := ⟨Tryz.underlying108, Tryz.t108, info_of Tryz.type108, rfl, rfl, rfl⟩
def ty109 : TyI := ⟨(.map 286 3), 1, 8, some (Value.map none)⟩
theorem ok109 : TyOk Tryz.prog 109 ty109 := ⟨Tryz.underlying109, Tryz.t109, info_of Tryz.type109, rfl, rfl, rfl⟩
def ty110 : TyI := ⟨(.struct #[{ name := "hashes", type := 107, offset := 0, embedded := false, tag := "", pkgPath := "grapnel/vault", byteOffset := 0 }, { name := "marks", type := 108, offset := 1, embedded := false, tag := "", pkgPath := "grapnel/vault", byteOffset := 8 }, { name := "seals", type := 109, offset := 2, embedded := false, tag := "", pkgPath := "grapnel/vault", byteOffset := 16 }]), 3, 24, some (Value.agg #[Value.map none, Value.map none, Value.map none])⟩
theorem ok110 : TyOk Tryz.prog 110 ty110 := ⟨Tryz.underlying110, Tryz.t110, info_of Tryz.type110, rfl, rfl, rfl⟩
def ty111 : TyI := ⟨(.struct #[{ name := "hashes", type := 107, offset := 0, embedded := false, tag := "", pkgPath := "grapnel/vault", byteOffset := 0 }, { name := "marks", type := 108, offset := 1, embedded := false, tag := "", pkgPath := "grapnel/vault", byteOffset := 8 }, { name := "seals", type := 109, offset := 2, embedded := false, tag := "", pkgPath := "grapnel/vault", byteOffset := 16 }]), 3, 24, some (Value.agg #[Value.map none, Value.map none, Value.map none])⟩
theorem ok111 : TyOk Tryz.prog 111 ty111 := ⟨Tryz.underlying111, Tryz.t111, info_of Tryz.type111, rfl, rfl, rfl⟩
def ty112 : TyI := ⟨(.pointer 197), 1, 8, some (Value.pointer none)⟩
theorem ok112 : TyOk Tryz.prog 112 ty112 := ⟨Tryz.underlying112, Tryz.t112, info_of Tryz.type112, rfl, rfl, rfl⟩
def ty113 : TyI := ⟨(.struct #[{ name := "real", type := 112, offset := 0, embedded := false, tag := "", pkgPath := "grapnel/vault", byteOffset := 0 }, { name := "ideal", type := 106, offset := 1, embedded := false, tag := "", pkgPath := "grapnel/vault", byteOffset := 8 }]), 2, 16, some (Value.agg #[Value.pointer none, Value.pointer none])⟩
theorem ok113 : TyOk Tryz.prog 113 ty113 := ⟨Tryz.underlying113, Tryz.t113, info_of Tryz.type113, rfl, rfl, rfl⟩
def ty114 : TyI := ⟨(.struct #[{ name := "real", type := 112, offset := 0, embedded := false, tag := "", pkgPath := "grapnel/vault", byteOffset := 0 }, { name := "ideal", type := 106, offset := 1, embedded := false, tag := "", pkgPath := "grapnel/vault", byteOffset := 8 }]), 2, 16, some (Value.agg #[Value.pointer none, Value.pointer none])⟩
theorem ok114 : TyOk Tryz.prog 114 ty114 := ⟨Tryz.underlying114, Tryz.t114, info_of Tryz.type114, rfl, rfl, rfl⟩
def ty115 : TyI := ⟨(.func #[22, 38, 3] #[102] false), 1, 8, some Value.nilFunc⟩
theorem ok115 : TyOk Tryz.prog 115 ty115 := ⟨Tryz.underlying115, Tryz.t115, info_of Tryz.type115, rfl, rfl, rfl⟩
def ty116 : TyI := ⟨(.pointer 120), 1, 8, some (Value.pointer none)⟩
theorem ok116 : TyOk Tryz.prog 116 ty116 := ⟨Tryz.underlying116, Tryz.t116, info_of Tryz.type116, rfl, rfl, rfl⟩
def ty117 : TyI := ⟨(.interface #[("Error", 188)]), 1, 16, some Value.nilIface⟩
theorem ok117 : TyOk Tryz.prog 117 ty117 := ⟨Tryz.underlying117, Tryz.t117, info_of Tryz.type117, rfl, rfl, rfl⟩
def ty118 : TyI := ⟨(.interface #[("Error", 188)]), 1, 16, some Value.nilIface⟩
theorem ok118 : TyOk Tryz.prog 118 ty118 := ⟨Tryz.underlying118, Tryz.t118, info_of Tryz.type118, rfl, rfl, rfl⟩
def ty119 : TyI := ⟨(.struct #[{ name := "p", type := 22, offset := 0, embedded := false, tag := "", pkgPath := "grapnel/journal", byteOffset := 0 }, { name := "err", type := 118, offset := 1, embedded := false, tag := "", pkgPath := "grapnel/journal", byteOffset := 8 }]), 2, 24, some (Value.agg #[Value.pointer none, Value.nilIface])⟩
theorem ok119 : TyOk Tryz.prog 119 ty119 := ⟨Tryz.underlying119, Tryz.t119, info_of Tryz.type119, rfl, rfl, rfl⟩
def ty120 : TyI := ⟨(.struct #[{ name := "p", type := 22, offset := 0, embedded := false, tag := "", pkgPath := "grapnel/journal", byteOffset := 0 }, { name := "err", type := 118, offset := 1, embedded := false, tag := "", pkgPath := "grapnel/journal", byteOffset := 8 }]), 2, 24, some (Value.agg #[Value.pointer none, Value.nilIface])⟩
theorem ok120 : TyOk Tryz.prog 120 ty120 := ⟨Tryz.underlying120, Tryz.t120, info_of Tryz.type120, rfl, rfl, rfl⟩
def ty121 : TyI := ⟨(.func #[116, 51, 54] #[] false), 1, 8, some Value.nilFunc⟩
theorem ok121 : TyOk Tryz.prog 121 ty121 := ⟨Tryz.underlying121, Tryz.t121, info_of Tryz.type121, rfl, rfl, rfl⟩
def ty122 : TyI := ⟨(.func #[118] #[23] false), 1, 8, some Value.nilFunc⟩
theorem ok122 : TyOk Tryz.prog 122 ty122 := ⟨Tryz.underlying122, Tryz.t122, info_of Tryz.type122, rfl, rfl, rfl⟩
def ty123 : TyI := ⟨(.func #[84, 51] #[4] false), 1, 8, some Value.nilFunc⟩
theorem ok123 : TyOk Tryz.prog 123 ty123 := ⟨Tryz.underlying123, Tryz.t123, info_of Tryz.type123, rfl, rfl, rfl⟩
def ty124 : TyI := ⟨(.tuple #[9, 23]), 1, 0, some (Value.tuple #[Value.string { data := #[] }, Value.int .i64 0])⟩
theorem ok124 : TyOk Tryz.prog 124 ty124 := ⟨Tryz.underlying124, Tryz.t124, info_of Tryz.type124, rfl, rfl, rfl⟩
def ty125 : TyI := ⟨(.func #[38, 51, 33] #[9, 23] false), 1, 8, some Value.nilFunc⟩
theorem ok125 : TyOk Tryz.prog 125 ty125 := ⟨Tryz.underlying125, Tryz.t125, info_of Tryz.type125, rfl, rfl, rfl⟩
def ty126 : TyI := ⟨(.func #[3, 9] #[] false), 1, 8, some Value.nilFunc⟩
theorem ok126 : TyOk Tryz.prog 126 ty126 := ⟨Tryz.underlying126, Tryz.t126, info_of Tryz.type126, rfl, rfl, rfl⟩
def ty127 : TyI := ⟨(.func #[9, 3] #[9] false), 1, 8, some Value.nilFunc⟩
theorem ok127 : TyOk Tryz.prog 127 ty127 := ⟨Tryz.underlying127, Tryz.t127, info_of Tryz.type127, rfl, rfl, rfl⟩
def ty128 : TyI := ⟨(.func #[100] #[9, 23] false), 1, 8, some Value.nilFunc⟩
theorem ok128 : TyOk Tryz.prog 128 ty128 := ⟨Tryz.underlying128, Tryz.t128, info_of Tryz.type128, rfl, rfl, rfl⟩
def ty129 : TyI := ⟨(.slice 5), 1, 24, some (Value.slice none 0 0)⟩
theorem ok129 : TyOk Tryz.prog 129 ty129 := ⟨Tryz.underlying129, Tryz.t129, info_of Tryz.type129, rfl, rfl, rfl⟩
def ty130 : TyI := ⟨(.struct #[{ name := "at", type := 3, offset := 0, embedded := false, tag := "", pkgPath := "grapnel/plate", byteOffset := 0 }, { name := "s", type := 9, offset := 1, embedded := false, tag := "", pkgPath := "grapnel/plate", byteOffset := 8 }]), 2, 24, some (Value.agg #[Value.int .i64 0, Value.string { data := #[] }])⟩
theorem ok130 : TyOk Tryz.prog 130 ty130 := ⟨Tryz.underlying130, Tryz.t130, info_of Tryz.type130, rfl, rfl, rfl⟩
def ty131 : TyI := ⟨(.struct #[{ name := "at", type := 3, offset := 0, embedded := false, tag := "", pkgPath := "grapnel/plate", byteOffset := 0 }, { name := "s", type := 9, offset := 1, embedded := false, tag := "", pkgPath := "grapnel/plate", byteOffset := 8 }]), 2, 24, some (Value.agg #[Value.int .i64 0, Value.string { data := #[] }])⟩
theorem ok131 : TyOk Tryz.prog 131 ty131 := ⟨Tryz.underlying131, Tryz.t131, info_of Tryz.type131, rfl, rfl, rfl⟩
def ty132 : TyI := ⟨(.func #[131] #[] false), 1, 8, some Value.nilFunc⟩
theorem ok132 : TyOk Tryz.prog 132 ty132 := ⟨Tryz.underlying132, Tryz.t132, info_of Tryz.type132, rfl, rfl, rfl⟩
def ty133 : TyI := ⟨(.func #[22] #[3] false), 1, 8, some Value.nilFunc⟩
theorem ok133 : TyOk Tryz.prog 133 ty133 := ⟨Tryz.underlying133, Tryz.t133, info_of Tryz.type133, rfl, rfl, rfl⟩
def ty134 : TyI := ⟨(.tuple #[9, 3, 23]), 1, 0, some (Value.tuple #[Value.string { data := #[] }, Value.int .i64 0, Value.int .i64 0])⟩
theorem ok134 : TyOk Tryz.prog 134 ty134 := ⟨Tryz.underlying134, Tryz.t134, info_of Tryz.type134, rfl, rfl, rfl⟩
def ty135 : TyI := ⟨(.func #[22, 3] #[9, 3, 23] false), 1, 8, some Value.nilFunc⟩
theorem ok135 : TyOk Tryz.prog 135 ty135 := ⟨Tryz.underlying135, Tryz.t135, info_of Tryz.type135, rfl, rfl, rfl⟩
def ty136 : TyI := ⟨(.func #[] #[9, 3] false), 1, 8, some Value.nilFunc⟩
theorem ok136 : TyOk Tryz.prog 136 ty136 := ⟨Tryz.underlying136, Tryz.t136, info_of Tryz.type136, rfl, rfl, rfl⟩
def ty137 : TyI := ⟨(.tuple #[70, 23]), 1, 0, some (Value.tuple #[Value.pointer none, Value.int .i64 0])⟩
theorem ok137 : TyOk Tryz.prog 137 ty137 := ⟨Tryz.underlying137, Tryz.t137, info_of Tryz.type137, rfl, rfl, rfl⟩
def ty138 : TyI := ⟨(.func #[3] #[70, 23] false), 1, 8, some Value.nilFunc⟩
theorem ok138 : TyOk Tryz.prog 138 ty138 := ⟨Tryz.underlying138, Tryz.t138, info_of Tryz.type138, rfl, rfl, rfl⟩
def ty139 : TyI := ⟨(.tuple #[38, 23]), 1, 0, some (Value.tuple #[Value.pointer none, Value.int .i64 0])⟩
theorem ok139 : TyOk Tryz.prog 139 ty139 := ⟨Tryz.underlying139, Tryz.t139, info_of Tryz.type139, rfl, rfl, rfl⟩
def ty140 : TyI := ⟨(.func #[9, 9, 3] #[38, 23] false), 1, 8, some Value.nilFunc⟩
theorem ok140 : TyOk Tryz.prog 140 ty140 := ⟨Tryz.underlying140, Tryz.t140, info_of Tryz.type140, rfl, rfl, rfl⟩
def ty141 : TyI := ⟨(.tuple #[71, 23]), 1, 0, some (Value.tuple #[Value.pointer none, Value.int .i64 0])⟩
theorem ok141 : TyOk Tryz.prog 141 ty141 := ⟨Tryz.underlying141, Tryz.t141, info_of Tryz.type141, rfl, rfl, rfl⟩
def ty142 : TyI := ⟨(.func #[9, 9, 3] #[71, 23] false), 1, 8, some Value.nilFunc⟩
theorem ok142 : TyOk Tryz.prog 142 ty142 := ⟨Tryz.underlying142, Tryz.t142, info_of Tryz.type142, rfl, rfl, rfl⟩
def ty143 : TyI := ⟨(.func #[33] #[9, 23] false), 1, 8, some Value.nilFunc⟩
theorem ok143 : TyOk Tryz.prog 143 ty143 := ⟨Tryz.underlying143, Tryz.t143, info_of Tryz.type143, rfl, rfl, rfl⟩
def ty144 : TyI := ⟨(.func #[38, 100, 9] #[9, 23] false), 1, 8, some Value.nilFunc⟩
theorem ok144 : TyOk Tryz.prog 144 ty144 := ⟨Tryz.underlying144, Tryz.t144, info_of Tryz.type144, rfl, rfl, rfl⟩
def ty145 : TyI := ⟨(.func #[71, 100, 9] #[9, 23] false), 1, 8, some Value.nilFunc⟩
theorem ok145 : TyOk Tryz.prog 145 ty145 := ⟨Tryz.underlying145, Tryz.t145, info_of Tryz.type145, rfl, rfl, rfl⟩
def ty146 : TyI := ⟨(.slice 210), 1, 24, some (Value.slice none 0 0)⟩
theorem ok146 : TyOk Tryz.prog 146 ty146 := ⟨Tryz.underlying146, Tryz.t146, info_of Tryz.type146, rfl, rfl, rfl⟩
def ty147 : TyI := ⟨(.struct #[{ name := "Kept", type := 58, offset := 0, embedded := false, tag := "", pkgPath := "", byteOffset := 0 }, { name := "Dumb", type := 46, offset := 1, embedded := false, tag := "", pkgPath := "", byteOffset := 24 }, { name := "Wait", type := 146, offset := 2, embedded := false, tag := "", pkgPath := "", byteOffset := 48 }, { name := "Fuse", type := 3, offset := 3, embedded := false, tag := "", pkgPath := "", byteOffset := 72 }, { name := "Down", type := 4, offset := 4, embedded := false, tag := "", pkgPath := "", byteOffset := 80 }, { name := "Reads", type := 3, offset := 5, embedded := false, tag := "", pkgPath := "", byteOffset := 88 }, { name := "Writes", type := 3, offset := 6, embedded := false, tag := "", pkgPath := "", byteOffset := 96 }]), 7, 104, some (Value.agg #[Value.slice none 0 0, Value.slice none 0 0, Value.slice none 0 0, Value.int .i64 0, Value.bool false, Value.int .i64 0, Value.int .i64 0])⟩
theorem ok147 : TyOk Tryz.prog 147 ty147 := ⟨Tryz.underlying147, Tryz.t147, info_of Tryz.type147, rfl, rfl, rfl⟩
def ty148 : TyI := ⟨(.struct #[{ name := "Kept", type := 58, offset := 0, embedded := false, tag := "", pkgPath := "", byteOffset := 0 }, { name := "Dumb", type := 46, offset := 1, embedded := false, tag := "", pkgPath := "", byteOffset := 24 }, { name := "Wait", type := 146, offset := 2, embedded := false, tag := "", pkgPath := "", byteOffset := 48 }, { name := "Fuse", type := 3, offset := 3, embedded := false, tag := "", pkgPath := "", byteOffset := 72 }, { name := "Down", type := 4, offset := 4, embedded := false, tag := "", pkgPath := "", byteOffset := 80 }, { name := "Reads", type := 3, offset := 5, embedded := false, tag := "", pkgPath := "", byteOffset := 88 }, { name := "Writes", type := 3, offset := 6, embedded := false, tag := "", pkgPath := "", byteOffset := 96 }]), 7, 104, some (Value.agg #[Value.slice none 0 0, Value.slice none 0 0, Value.slice none 0 0, Value.int .i64 0, Value.bool false, Value.int .i64 0, Value.int .i64 0])⟩
theorem ok148 : TyOk Tryz.prog 148 ty148 := ⟨Tryz.underlying148, Tryz.t148, info_of Tryz.type148, rfl, rfl, rfl⟩
def ty149 : TyI := ⟨(.func #[70, 4, 3, 9] #[4] false), 1, 8, some Value.nilFunc⟩
theorem ok149 : TyOk Tryz.prog 149 ty149 := ⟨Tryz.underlying149, Tryz.t149, info_of Tryz.type149, rfl, rfl, rfl⟩
def ty150 : TyI := ⟨(.func #[3] #[9] false), 1, 8, some Value.nilFunc⟩
theorem ok150 : TyOk Tryz.prog 150 ty150 := ⟨Tryz.underlying150, Tryz.t150, info_of Tryz.type150, rfl, rfl, rfl⟩
def ty151 : TyI := ⟨(.func #[70, 4] #[4] false), 1, 8, some Value.nilFunc⟩
theorem ok151 : TyOk Tryz.prog 151 ty151 := ⟨Tryz.underlying151, Tryz.t151, info_of Tryz.type151, rfl, rfl, rfl⟩
def ty152 : TyI := ⟨(.func #[4] #[23] false), 1, 8, some Value.nilFunc⟩
theorem ok152 : TyOk Tryz.prog 152 ty152 := ⟨Tryz.underlying152, Tryz.t152, info_of Tryz.type152, rfl, rfl, rfl⟩
def ty153 : TyI := ⟨(.func #[3] #[9, 23] false), 1, 8, some Value.nilFunc⟩
theorem ok153 : TyOk Tryz.prog 153 ty153 := ⟨Tryz.underlying153, Tryz.t153, info_of Tryz.type153, rfl, rfl, rfl⟩
def ty154 : TyI := ⟨(.func #[71, 51, 33] #[9, 23] false), 1, 8, some Value.nilFunc⟩
theorem ok154 : TyOk Tryz.prog 154 ty154 := ⟨Tryz.underlying154, Tryz.t154, info_of Tryz.type154, rfl, rfl, rfl⟩
def ty155 : TyI := ⟨(.func #[70, 71, 4, 51, 33] #[23] false), 1, 8, some Value.nilFunc⟩
theorem ok155 : TyOk Tryz.prog 155 ty155 := ⟨Tryz.underlying155, Tryz.t155, info_of Tryz.type155, rfl, rfl, rfl⟩
def ty156 : TyI := ⟨(.struct #[{ name := "At", type := 3, offset := 0, embedded := false, tag := "", pkgPath := "", byteOffset := 0 }, { name := "V", type := 5, offset := 1, embedded := false, tag := "", pkgPath := "", byteOffset := 8 }, { name := "Spoilt", type := 4, offset := 2, embedded := false, tag := "", pkgPath := "", byteOffset := 9 }]), 3, 16, some (Value.agg #[Value.int .i64 0, Value.int .u8 0, Value.bool false])⟩
theorem ok156 : TyOk Tryz.prog 156 ty156 := ⟨Tryz.underlying156, Tryz.t156, info_of Tryz.type156, rfl, rfl, rfl⟩
def ty157 : TyI := ⟨(.struct #[{ name := "At", type := 3, offset := 0, embedded := false, tag := "", pkgPath := "", byteOffset := 0 }, { name := "V", type := 5, offset := 1, embedded := false, tag := "", pkgPath := "", byteOffset := 8 }, { name := "Spoilt", type := 4, offset := 2, embedded := false, tag := "", pkgPath := "", byteOffset := 9 }]), 3, 16, some (Value.agg #[Value.int .i64 0, Value.int .u8 0, Value.bool false])⟩
theorem ok157 : TyOk Tryz.prog 157 ty157 := ⟨Tryz.underlying157, Tryz.t157, info_of Tryz.type157, rfl, rfl, rfl⟩
def ty158 : TyI := ⟨(.func #[3, 9] #[23] false), 1, 8, some Value.nilFunc⟩
theorem ok158 : TyOk Tryz.prog 158 ty158 := ⟨Tryz.underlying158, Tryz.t158, info_of Tryz.type158, rfl, rfl, rfl⟩
def ty159 : TyI := ⟨(.func #[3, 3] #[3] false), 1, 8, some Value.nilFunc⟩
theorem ok159 : TyOk Tryz.prog 159 ty159 := ⟨Tryz.underlying159, Tryz.t159, info_of Tryz.type159, rfl, rfl, rfl⟩
def ty160 : TyI := ⟨(.func #[38, 61, 3] #[102] false), 1, 8, some Value.nilFunc⟩
theorem ok160 : TyOk Tryz.prog 160 ty160 := ⟨Tryz.underlying160, Tryz.t160, info_of Tryz.type160, rfl, rfl, rfl⟩
def ty161 : TyI := ⟨(.func #[9, 3, 3] #[3, 23] false), 1, 8, some Value.nilFunc⟩
theorem ok161 : TyOk Tryz.prog 161 ty161 := ⟨Tryz.underlying161, Tryz.t161, info_of Tryz.type161, rfl, rfl, rfl⟩
def ty162 : TyI := ⟨(.func #[9, 3] #[9, 23] false), 1, 8, some Value.nilFunc⟩
theorem ok162 : TyOk Tryz.prog 162 ty162 := ⟨Tryz.underlying162, Tryz.t162, info_of Tryz.type162, rfl, rfl, rfl⟩
def ty163 : TyI := ⟨(.tuple #[100, 23]), 1, 0, some (Value.tuple #[Value.agg #[Value.int .i64 0, Value.int .i64 0, Value.int .i64 0, Value.int .i64 0, Value.int .i64 0, Value.int .i64 0, Value.int .i64 0, Value.int .i64 0], Value.int .i64 0])⟩
theorem ok163 : TyOk Tryz.prog 163 ty163 := ⟨Tryz.underlying163, Tryz.t163, info_of Tryz.type163, rfl, rfl, rfl⟩
def ty164 : TyI := ⟨(.func #[9] #[100, 23] false), 1, 8, some Value.nilFunc⟩
theorem ok164 : TyOk Tryz.prog 164 ty164 := ⟨Tryz.underlying164, Tryz.t164, info_of Tryz.type164, rfl, rfl, rfl⟩
def ty165 : TyI := ⟨(.func #[9] #[9] false), 1, 8, some Value.nilFunc⟩
theorem ok165 : TyOk Tryz.prog 165 ty165 := ⟨Tryz.underlying165, Tryz.t165, info_of Tryz.type165, rfl, rfl, rfl⟩
def ty166 : TyI := ⟨(.func #[51] #[9] false), 1, 8, some Value.nilFunc⟩
theorem ok166 : TyOk Tryz.prog 166 ty166 := ⟨Tryz.underlying166, Tryz.t166, info_of Tryz.type166, rfl, rfl, rfl⟩
def ty167 : TyI := ⟨(.func #[70, 71, 3] #[102] false), 1, 8, some Value.nilFunc⟩
theorem ok167 : TyOk Tryz.prog 167 ty167 := ⟨Tryz.underlying167, Tryz.t167, info_of Tryz.type167, rfl, rfl, rfl⟩
def ty168 : TyI := ⟨(.func #[70, 3] #[9, 3, 23] false), 1, 8, some Value.nilFunc⟩
theorem ok168 : TyOk Tryz.prog 168 ty168 := ⟨Tryz.underlying168, Tryz.t168, info_of Tryz.type168, rfl, rfl, rfl⟩
def ty169 : TyI := ⟨(.func #[9, 3] #[23] false), 1, 8, some Value.nilFunc⟩
theorem ok169 : TyOk Tryz.prog 169 ty169 := ⟨Tryz.underlying169, Tryz.t169, info_of Tryz.type169, rfl, rfl, rfl⟩
def ty170 : TyI := ⟨(.func #[9, 3, 59] #[59] false), 1, 8, some Value.nilFunc⟩
theorem ok170 : TyOk Tryz.prog 170 ty170 := ⟨Tryz.underlying170, Tryz.t170, info_of Tryz.type170, rfl, rfl, rfl⟩
def ty171 : TyI := ⟨(.func #[38, 9, 3] #[102] false), 1, 8, some Value.nilFunc⟩
theorem ok171 : TyOk Tryz.prog 171 ty171 := ⟨Tryz.underlying171, Tryz.t171, info_of Tryz.type171, rfl, rfl, rfl⟩
def ty172 : TyI := ⟨(.func #[118, 118] #[4] false), 1, 8, some Value.nilFunc⟩
theorem ok172 : TyOk Tryz.prog 172 ty172 := ⟨Tryz.underlying172, Tryz.t172, info_of Tryz.type172, rfl, rfl, rfl⟩
def ty173 : TyI := ⟨(.func #[3, 3] #[9, 23] false), 1, 8, some Value.nilFunc⟩
theorem ok173 : TyOk Tryz.prog 173 ty173 := ⟨Tryz.underlying173, Tryz.t173, info_of Tryz.type173, rfl, rfl, rfl⟩
def ty174 : TyI := ⟨(.func #[22, 3, 9] #[23] false), 1, 8, some Value.nilFunc⟩
theorem ok174 : TyOk Tryz.prog 174 ty174 := ⟨Tryz.underlying174, Tryz.t174, info_of Tryz.type174, rfl, rfl, rfl⟩
def ty175 : TyI := ⟨(.struct #[{ name := "err", type := 23, offset := 0, embedded := false, tag := "", pkgPath := "grapnel/journal", byteOffset := 0 }]), 1, 8, some (Value.agg #[Value.int .i64 0])⟩
theorem ok175 : TyOk Tryz.prog 175 ty175 := ⟨Tryz.underlying175, Tryz.t175, info_of Tryz.type175, rfl, rfl, rfl⟩
def ty176 : TyI := ⟨(.struct #[{ name := "err", type := 23, offset := 0, embedded := false, tag := "", pkgPath := "grapnel/journal", byteOffset := 0 }]), 1, 8, some (Value.agg #[Value.int .i64 0])⟩
theorem ok176 : TyOk Tryz.prog 176 ty176 := ⟨Tryz.underlying176, Tryz.t176, info_of Tryz.type176, rfl, rfl, rfl⟩
def ty177 : TyI := ⟨(.func #[] #[23] false), 1, 8, some Value.nilFunc⟩
theorem ok177 : TyOk Tryz.prog 177 ty177 := ⟨Tryz.underlying177, Tryz.t177, info_of Tryz.type177, rfl, rfl, rfl⟩
def ty178 : TyI := ⟨(.int .u64), 1, 8, some (Value.int .u64 0)⟩
theorem ok178 : TyOk Tryz.prog 178 ty178 := ⟨Tryz.underlying178, Tryz.t178, info_of Tryz.type178, rfl, rfl, rfl⟩
def ty179 : TyI := ⟨(.tuple #[178, 178]), 1, 0, some (Value.tuple #[Value.int .u64 0, Value.int .u64 0])⟩
theorem ok179 : TyOk Tryz.prog 179 ty179 := ⟨Tryz.underlying179, Tryz.t179, info_of Tryz.type179, rfl, rfl, rfl⟩
def ty180 : TyI := ⟨(.func #[178, 178] #[178, 178] false), 1, 8, some Value.nilFunc⟩
theorem ok180 : TyOk Tryz.prog 180 ty180 := ⟨Tryz.underlying180, Tryz.t180, info_of Tryz.type180, rfl, rfl, rfl⟩
def ty181 : TyI := ⟨(.func #[9, 9] #[4] false), 1, 8, some Value.nilFunc⟩
theorem ok181 : TyOk Tryz.prog 181 ty181 := ⟨Tryz.underlying181, Tryz.t181, info_of Tryz.type181, rfl, rfl, rfl⟩
def ty182 : TyI := ⟨(.pointer 184), 1, 8, some (Value.pointer none)⟩
theorem ok182 : TyOk Tryz.prog 182 ty182 := ⟨Tryz.underlying182, Tryz.t182, info_of Tryz.type182, rfl, rfl, rfl⟩
def ty183 : TyI := ⟨(.struct #[{ name := "addr", type := 182, offset := 0, embedded := false, tag := "", pkgPath := "strings", byteOffset := 0 }, { name := "buf", type := 129, offset := 1, embedded := false, tag := "", pkgPath := "strings", byteOffset := 8 }]), 2, 32, some (Value.agg #[Value.pointer none, Value.slice none 0 0])⟩
theorem ok183 : TyOk Tryz.prog 183 ty183 := ⟨Tryz.underlying183, Tryz.t183, info_of Tryz.type183, rfl, rfl, rfl⟩
def ty184 : TyI := ⟨(.struct #[{ name := "addr", type := 182, offset := 0, embedded := false, tag := "", pkgPath := "strings", byteOffset := 0 }, { name := "buf", type := 129, offset := 1, embedded := false, tag := "", pkgPath := "strings", byteOffset := 8 }]), 2, 32, some (Value.agg #[Value.pointer none, Value.slice none 0 0])⟩
theorem ok184 : TyOk Tryz.prog 184 ty184 := ⟨Tryz.underlying184, Tryz.t184, info_of Tryz.type184, rfl, rfl, rfl⟩
def ty185 : TyI := ⟨(.func #[3] #[] false), 1, 8, some Value.nilFunc⟩
theorem ok185 : TyOk Tryz.prog 185 ty185 := ⟨Tryz.underlying185, Tryz.t185, info_of Tryz.type185, rfl, rfl, rfl⟩
def ty186 : TyI := ⟨(.tuple #[3, 118]), 1, 0, some (Value.tuple #[Value.int .i64 0, Value.nilIface])⟩
theorem ok186 : TyOk Tryz.prog 186 ty186 := ⟨Tryz.underlying186, Tryz.t186, info_of Tryz.type186, rfl, rfl, rfl⟩
def ty187 : TyI := ⟨(.func #[9] #[3, 118] false), 1, 8, some Value.nilFunc⟩
theorem ok187 : TyOk Tryz.prog 187 ty187 := ⟨Tryz.underlying187, Tryz.t187, info_of Tryz.type187, rfl, rfl, rfl⟩
def ty188 : TyI := ⟨(.func #[] #[9] false), 1, 8, some Value.nilFunc⟩
theorem ok188 : TyOk Tryz.prog 188 ty188 := ⟨Tryz.underlying188, Tryz.t188, info_of Tryz.type188, rfl, rfl, rfl⟩
def ty189 : TyI := ⟨(.tuple #[9, 4]), 1, 0, some (Value.tuple #[Value.string { data := #[] }, Value.bool false])⟩
theorem ok189 : TyOk Tryz.prog 189 ty189 := ⟨Tryz.underlying189, Tryz.t189, info_of Tryz.type189, rfl, rfl, rfl⟩
def ty190 : TyI := ⟨(.func #[59, 59] #[9, 4] false), 1, 8, some Value.nilFunc⟩
theorem ok190 : TyOk Tryz.prog 190 ty190 := ⟨Tryz.underlying190, Tryz.t190, info_of Tryz.type190, rfl, rfl, rfl⟩
def ty191 : TyI := ⟨(.func #[] #[59] false), 1, 8, some Value.nilFunc⟩
theorem ok191 : TyOk Tryz.prog 191 ty191 := ⟨Tryz.underlying191, Tryz.t191, info_of Tryz.type191, rfl, rfl, rfl⟩
def ty192 : TyI := ⟨(.tuple #[9, 118]), 1, 0, some (Value.tuple #[Value.string { data := #[] }, Value.nilIface])⟩
theorem ok192 : TyOk Tryz.prog 192 ty192 := ⟨Tryz.underlying192, Tryz.t192, info_of Tryz.type192, rfl, rfl, rfl⟩
def ty193 : TyI := ⟨(.func #[22, 3, 194, 3] #[9, 118] false), 1, 8, some Value.nilFunc⟩
theorem ok193 : TyOk Tryz.prog 193 ty193 := ⟨Tryz.underlying193, Tryz.t193, info_of Tryz.type193, rfl, rfl, rfl⟩
def ty194 : TyI := ⟨(.pointer 3), 1, 8, some (Value.pointer none)⟩
theorem ok194 : TyOk Tryz.prog 194 ty194 := ⟨Tryz.underlying194, Tryz.t194, info_of Tryz.type194, rfl, rfl, rfl⟩
def ty195 : TyI := ⟨(.func #[9, 9, 3, 3] #[9, 23] false), 1, 8, some Value.nilFunc⟩
theorem ok195 : TyOk Tryz.prog 195 ty195 := ⟨Tryz.underlying195, Tryz.t195, info_of Tryz.type195, rfl, rfl, rfl⟩
def ty196 : TyI := ⟨(.struct #[{ name := "key", type := 9, offset := 0, embedded := false, tag := "", pkgPath := "grapnel/vault", byteOffset := 0 }]), 1, 16, some (Value.agg #[Value.string { data := #[] }])⟩
theorem ok196 : TyOk Tryz.prog 196 ty196 := ⟨Tryz.underlying196, Tryz.t196, info_of Tryz.type196, rfl, rfl, rfl⟩
def ty197 : TyI := ⟨(.struct #[{ name := "key", type := 9, offset := 0, embedded := false, tag := "", pkgPath := "grapnel/vault", byteOffset := 0 }]), 1, 16, some (Value.agg #[Value.string { data := #[] }])⟩
theorem ok197 : TyOk Tryz.prog 197 ty197 := ⟨Tryz.underlying197, Tryz.t197, info_of Tryz.type197, rfl, rfl, rfl⟩
def ty198 : TyI := ⟨(.slice 333), 1, 24, some (Value.slice none 0 0)⟩
theorem ok198 : TyOk Tryz.prog 198 ty198 := ⟨Tryz.underlying198, Tryz.t198, info_of Tryz.type198, rfl, rfl, rfl⟩
def ty199 : TyI := ⟨(.slice 249), 1, 24, some (Value.slice none 0 0)⟩
theorem ok199 : TyOk Tryz.prog 199 ty199 := ⟨Tryz.underlying199, Tryz.t199, info_of Tryz.type199, rfl, rfl, rfl⟩
def ty200 : TyI := ⟨(.struct #[{ name := "Ideal", type := 4, offset := 0, embedded := false, tag := "", pkgPath := "", byteOffset := 0 }, { name := "Key", type := 9, offset := 1, embedded := false, tag := "", pkgPath := "", byteOffset := 8 }, { name := "Hashes", type := 58, offset := 2, embedded := false, tag := "", pkgPath := "", byteOffset := 24 }, { name := "Pairs", type := 198, offset := 3, embedded := false, tag := "", pkgPath := "", byteOffset := 48 }, { name := "Fours", type := 199, offset := 4, embedded := false, tag := "", pkgPath := "", byteOffset := 72 }]), 5, 96, some (Value.agg #[Value.bool false, Value.string { data := #[] }, Value.slice none 0 0, Value.slice none 0 0, Value.slice none 0 0])⟩
theorem ok200 : TyOk Tryz.prog 200 ty200 := ⟨Tryz.underlying200, Tryz.t200, info_of Tryz.type200, rfl, rfl, rfl⟩
def ty201 : TyI := ⟨(.struct #[{ name := "Ideal", type := 4, offset := 0, embedded := false, tag := "", pkgPath := "", byteOffset := 0 }, { name := "Key", type := 9, offset := 1, embedded := false, tag := "", pkgPath := "", byteOffset := 8 }, { name := "Hashes", type := 58, offset := 2, embedded := false, tag := "", pkgPath := "", byteOffset := 24 }, { name := "Pairs", type := 198, offset := 3, embedded := false, tag := "", pkgPath := "", byteOffset := 48 }, { name := "Fours", type := 199, offset := 4, embedded := false, tag := "", pkgPath := "", byteOffset := 72 }]), 5, 96, some (Value.agg #[Value.bool false, Value.string { data := #[] }, Value.slice none 0 0, Value.slice none 0 0, Value.slice none 0 0])⟩
theorem ok201 : TyOk Tryz.prog 201 ty201 := ⟨Tryz.underlying201, Tryz.t201, info_of Tryz.type201, rfl, rfl, rfl⟩
def ty202 : TyI := ⟨(.struct #[{ name := "b", type := 129, offset := 0, embedded := false, tag := "", pkgPath := "grapnel/pack", byteOffset := 0 }, { name := "bad", type := 4, offset := 1, embedded := false, tag := "", pkgPath := "grapnel/pack", byteOffset := 24 }]), 2, 32, some (Value.agg #[Value.slice none 0 0, Value.bool false])⟩
theorem ok202 : TyOk Tryz.prog 202 ty202 := ⟨Tryz.underlying202, Tryz.t202, info_of Tryz.type202, rfl, rfl, rfl⟩
def ty203 : TyI := ⟨(.struct #[{ name := "b", type := 129, offset := 0, embedded := false, tag := "", pkgPath := "grapnel/pack", byteOffset := 0 }, { name := "bad", type := 4, offset := 1, embedded := false, tag := "", pkgPath := "grapnel/pack", byteOffset := 24 }]), 2, 32, some (Value.agg #[Value.slice none 0 0, Value.bool false])⟩
theorem ok203 : TyOk Tryz.prog 203 ty203 := ⟨Tryz.underlying203, Tryz.t203, info_of Tryz.type203, rfl, rfl, rfl⟩
def ty204 : TyI := ⟨(.func #[3, 3] #[] false), 1, 8, some Value.nilFunc⟩
theorem ok204 : TyOk Tryz.prog 204 ty204 := ⟨Tryz.underlying204, Tryz.t204, info_of Tryz.type204, rfl, rfl, rfl⟩
def ty205 : TyI := ⟨(.func #[3, 9, 9, 9] #[9, 23] false), 1, 8, some Value.nilFunc⟩
theorem ok205 : TyOk Tryz.prog 205 ty205 := ⟨Tryz.underlying205, Tryz.t205, info_of Tryz.type205, rfl, rfl, rfl⟩
def ty206 : TyI := ⟨(.func #[100] #[9] false), 1, 8, some Value.nilFunc⟩
theorem ok206 : TyOk Tryz.prog 206 ty206 := ⟨Tryz.underlying206, Tryz.t206, info_of Tryz.type206, rfl, rfl, rfl⟩
def ty207 : TyI := ⟨(.func #[70, 3, 9] #[23] false), 1, 8, some Value.nilFunc⟩
theorem ok207 : TyOk Tryz.prog 207 ty207 := ⟨Tryz.underlying207, Tryz.t207, info_of Tryz.type207, rfl, rfl, rfl⟩
def ty208 : TyI := ⟨(.func #[210] #[] false), 1, 8, some Value.nilFunc⟩
theorem ok208 : TyOk Tryz.prog 208 ty208 := ⟨Tryz.underlying208, Tryz.t208, info_of Tryz.type208, rfl, rfl, rfl⟩
def ty209 : TyI := ⟨(.struct #[{ name := "At", type := 3, offset := 0, embedded := false, tag := "", pkgPath := "", byteOffset := 0 }, { name := "S", type := 9, offset := 1, embedded := false, tag := "", pkgPath := "", byteOffset := 8 }]), 2, 24, some (Value.agg #[Value.int .i64 0, Value.string { data := #[] }])⟩
theorem ok209 : TyOk Tryz.prog 209 ty209 := ⟨Tryz.underlying209, Tryz.t209, info_of Tryz.type209, rfl, rfl, rfl⟩
def ty210 : TyI := ⟨(.struct #[{ name := "At", type := 3, offset := 0, embedded := false, tag := "", pkgPath := "", byteOffset := 0 }, { name := "S", type := 9, offset := 1, embedded := false, tag := "", pkgPath := "", byteOffset := 8 }]), 2, 24, some (Value.agg #[Value.int .i64 0, Value.string { data := #[] }])⟩
theorem ok210 : TyOk Tryz.prog 210 ty210 := ⟨Tryz.underlying210, Tryz.t210, info_of Tryz.type210, rfl, rfl, rfl⟩
def ty211 : TyI := ⟨(.func #[20] #[4] false), 1, 8, some Value.nilFunc⟩
theorem ok211 : TyOk Tryz.prog 211 ty211 := ⟨Tryz.underlying211, Tryz.t211, info_of Tryz.type211, rfl, rfl, rfl⟩
def ty212 : TyI := ⟨(.struct #[{ name := "s", type := 9, offset := 0, embedded := false, tag := "", pkgPath := "grapnel/pack", byteOffset := 0 }, { name := "at", type := 3, offset := 1, embedded := false, tag := "", pkgPath := "grapnel/pack", byteOffset := 16 }]), 2, 24, some (Value.agg #[Value.string { data := #[] }, Value.int .i64 0])⟩
theorem ok212 : TyOk Tryz.prog 212 ty212 := ⟨Tryz.underlying212, Tryz.t212, info_of Tryz.type212, rfl, rfl, rfl⟩
def ty213 : TyI := ⟨(.struct #[{ name := "s", type := 9, offset := 0, embedded := false, tag := "", pkgPath := "grapnel/pack", byteOffset := 0 }, { name := "at", type := 3, offset := 1, embedded := false, tag := "", pkgPath := "grapnel/pack", byteOffset := 16 }]), 2, 24, some (Value.agg #[Value.string { data := #[] }, Value.int .i64 0])⟩
theorem ok213 : TyOk Tryz.prog 213 ty213 := ⟨Tryz.underlying213, Tryz.t213, info_of Tryz.type213, rfl, rfl, rfl⟩
def ty214 : TyI := ⟨(.func #[71, 9, 3] #[102] false), 1, 8, some Value.nilFunc⟩
theorem ok214 : TyOk Tryz.prog 214 ty214 := ⟨Tryz.underlying214, Tryz.t214, info_of Tryz.type214, rfl, rfl, rfl⟩
def ty215 : TyI := ⟨(.func #[3, 3] #[9] false), 1, 8, some Value.nilFunc⟩
theorem ok215 : TyOk Tryz.prog 215 ty215 := ⟨Tryz.underlying215, Tryz.t215, info_of Tryz.type215, rfl, rfl, rfl⟩
def ty216 : TyI := ⟨(.tuple #[100, 9, 23]), 1, 0, some (Value.tuple #[Value.agg #[Value.int .i64 0, Value.int .i64 0, Value.int .i64 0, Value.int .i64 0, Value.int .i64 0, Value.int .i64 0, Value.int .i64 0, Value.int .i64 0], Value.string { data := #[] }, Value.int .i64 0])⟩
theorem ok216 : TyOk Tryz.prog 216 ty216 := ⟨Tryz.underlying216, Tryz.t216, info_of Tryz.type216, rfl, rfl, rfl⟩
def ty217 : TyI := ⟨(.func #[38, 9] #[100, 9, 23] false), 1, 8, some Value.nilFunc⟩
theorem ok217 : TyOk Tryz.prog 217 ty217 := ⟨Tryz.underlying217, Tryz.t217, info_of Tryz.type217, rfl, rfl, rfl⟩
def ty218 : TyI := ⟨(.interface #[("AssignableTo", 282), ("Comparable", 28), ("Elem", 279), ("Implements", 282), ("Kind", 281), ("Name", 188), ("PkgPath", 188), ("Size", 334), ("String", 188), ("internal/reflectlite.common", 323), ("internal/reflectlite.uncommon", 335)]), 1, 16, some Value.nilIface⟩
theorem ok218 : TyOk Tryz.prog 218 ty218 := ⟨Tryz.underlying218, Tryz.t218, info_of Tryz.type218, rfl, rfl, rfl⟩
def ty219 : TyI := ⟨(.interface #[("AssignableTo", 282), ("Comparable", 28), ("Elem", 279), ("Implements", 282), ("Kind", 281), ("Name", 188), ("PkgPath", 188), ("Size", 334), ("String", 188), ("internal/reflectlite.common", 323), ("internal/reflectlite.uncommon", 335)]), 1, 16, some Value.nilIface⟩
theorem ok219 : TyOk Tryz.prog 219 ty219 := ⟨Tryz.underlying219, Tryz.t219, info_of Tryz.type219, rfl, rfl, rfl⟩
def ty220 : TyI := ⟨(.func #[20] #[219] false), 1, 8, some Value.nilFunc⟩
theorem ok220 : TyOk Tryz.prog 220 ty220 := ⟨Tryz.underlying220, Tryz.t220, info_of Tryz.type220, rfl, rfl, rfl⟩
def ty221 : TyI := ⟨(.func #[118, 118, 4] #[4] false), 1, 8, some Value.nilFunc⟩
theorem ok221 : TyOk Tryz.prog 221 ty221 := ⟨Tryz.underlying221, Tryz.t221, info_of Tryz.type221, rfl, rfl, rfl⟩
def ty222 : TyI := ⟨(.func #[22, 3, 9] #[118] false), 1, 8, some Value.nilFunc⟩
theorem ok222 : TyOk Tryz.prog 222 ty222 := ⟨Tryz.underlying222, Tryz.t222, info_of Tryz.type222, rfl, rfl, rfl⟩
def ty223 : TyI := ⟨(.int .u32), 1, 4, some (Value.int .u32 0)⟩
theorem ok223 : TyOk Tryz.prog 223 ty223 := ⟨Tryz.underlying223, Tryz.t223, info_of Tryz.type223, rfl, rfl, rfl⟩
def ty224 : TyI := ⟨(.tuple #[223, 223]), 1, 0, some (Value.tuple #[Value.int .u32 0, Value.int .u32 0])⟩
theorem ok224 : TyOk Tryz.prog 224 ty224 := ⟨Tryz.underlying224, Tryz.t224, info_of Tryz.type224, rfl, rfl, rfl⟩
def ty225 : TyI := ⟨(.func #[223, 223] #[223, 223] false), 1, 8, some Value.nilFunc⟩
theorem ok225 : TyOk Tryz.prog 225 ty225 := ⟨Tryz.underlying225, Tryz.t225, info_of Tryz.type225, rfl, rfl, rfl⟩
def ty226 : TyI := ⟨(.int .u64), 1, 8, some (Value.int .u64 0)⟩
theorem ok226 : TyOk Tryz.prog 226 ty226 := ⟨Tryz.underlying226, Tryz.t226, info_of Tryz.type226, rfl, rfl, rfl⟩
def ty227 : TyI := ⟨(.tuple #[226, 226]), 1, 0, some (Value.tuple #[Value.int .u64 0, Value.int .u64 0])⟩
theorem ok227 : TyOk Tryz.prog 227 ty227 := ⟨Tryz.underlying227, Tryz.t227, info_of Tryz.type227, rfl, rfl, rfl⟩
def ty228 : TyI := ⟨(.func #[226, 226] #[226, 226] false), 1, 8, some Value.nilFunc⟩
theorem ok228 : TyOk Tryz.prog 228 ty228 := ⟨Tryz.underlying228, Tryz.t228, info_of Tryz.type228, rfl, rfl, rfl⟩
def ty229 : TyI := ⟨(.pointer 5), 1, 8, some (Value.pointer none)⟩
theorem ok229 : TyOk Tryz.prog 229 ty229 := ⟨Tryz.underlying229, Tryz.t229, info_of Tryz.type229, rfl, rfl, rfl⟩
def ty230 : TyI := ⟨(.pointer 232), 1, 8, some (Value.pointer none)⟩
theorem ok230 : TyOk Tryz.prog 230 ty230 := ⟨Tryz.underlying230, Tryz.t230, info_of Tryz.type230, rfl, rfl, rfl⟩
def ty231 : TyI := ⟨(.struct #[{ name := "sector", type := 3, offset := 0, embedded := false, tag := "", pkgPath := "grapnel/block", byteOffset := 0 }, { name := "err", type := 23, offset := 1, embedded := false, tag := "", pkgPath := "grapnel/block", byteOffset := 8 }]), 2, 16, some (Value.agg #[Value.int .i64 0, Value.int .i64 0])⟩
theorem ok231 : TyOk Tryz.prog 231 ty231 := ⟨Tryz.underlying231, Tryz.t231, info_of Tryz.type231, rfl, rfl, rfl⟩
def ty232 : TyI := ⟨(.struct #[{ name := "sector", type := 3, offset := 0, embedded := false, tag := "", pkgPath := "grapnel/block", byteOffset := 0 }, { name := "err", type := 23, offset := 1, embedded := false, tag := "", pkgPath := "grapnel/block", byteOffset := 8 }]), 2, 16, some (Value.agg #[Value.int .i64 0, Value.int .i64 0])⟩
theorem ok232 : TyOk Tryz.prog 232 ty232 := ⟨Tryz.underlying232, Tryz.t232, info_of Tryz.type232, rfl, rfl, rfl⟩
def ty233 : TyI := ⟨(.func #[118, 20] #[4] false), 1, 8, some Value.nilFunc⟩
theorem ok233 : TyOk Tryz.prog 233 ty233 := ⟨Tryz.underlying233, Tryz.t233, info_of Tryz.type233, rfl, rfl, rfl⟩
def ty234 : TyI := ⟨(.pointer 23), 1, 8, some (Value.pointer none)⟩
theorem ok234 : TyOk Tryz.prog 234 ty234 := ⟨Tryz.underlying234, Tryz.t234, info_of Tryz.type234, rfl, rfl, rfl⟩
def ty235 : TyI := ⟨(.array 8 223), 8, 32, some (Value.agg #[Value.int .u32 0, Value.int .u32 0, Value.int .u32 0, Value.int .u32 0, Value.int .u32 0, Value.int .u32 0, Value.int .u32 0, Value.int .u32 0])⟩
theorem ok235 : TyOk Tryz.prog 235 ty235 := ⟨Tryz.underlying235, Tryz.t235, info_of Tryz.type235, rfl, rfl, rfl⟩
def ty236 : TyI := ⟨(.array 64 5), 64, 64, some (Value.agg #[Value.int .u8 0, Value.int .u8 0, Value.int .u8 0, Value.int .u8 0, Value.int .u8 0, Value.int .u8 0, Value.int .u8 0, Value.int .u8 0, Value.int .u8 0, Value.int .u8 0, Value.int .u8 0, Value.int .u8 0, Value.int .u8 0, Value.int .u8 0, Value.int .u8 0, Value.int .u8 0, Value.int .u8 0, Value.int .u8 0, Value.int .u8 0, Value.int .u8 0, Value.int .u8 0, Value.int .u8 0, Value.int .u8 0, Value.int .u8 0, Value.int .u8 0, Value.int .u8 0, Value.int .u8 0, Value.int .u8 0, Value.int .u8 0, Value.int .u8 0, Value.int .u8 0, Value.int .u8 0, Value.int .u8 0, Value.int .u8 0, Value.int .u8 0, Value.int .u8 0, Value.int .u8 0, Value.int .u8 0, Value.int .u8 0, Value.int .u8 0, Value.int .u8 0, Value.int .u8 0, Value.int .u8 0, Value.int .u8 0, Value.int .u8 0, Value.int .u8 0, Value.int .u8 0, Value.int .u8 0, Value.int .u8 0, Value.int .u8 0, Value.int .u8 0, Value.int .u8 0, Value.int .u8 0, Value.int .u8 0, Value.int .u8 0, Value.int .u8 0, Value.int .u8 0, Value.int .u8 0, Value.int .u8 0, Value.int .u8 0, Value.int .u8 0, Value.int .u8 0, Value.int .u8 0, Value.int .u8 0])⟩
theorem ok236 : TyOk Tryz.prog 236 ty236 := ⟨Tryz.underlying236, Tryz.t236, info_of Tryz.type236, rfl, rfl, rfl⟩
def ty237 : TyI := ⟨(.struct #[{ name := "state", type := 235, offset := 0, embedded := false, tag := "", pkgPath := "grapnel/sum", byteOffset := 0 }, { name := "part", type := 236, offset := 8, embedded := false, tag := "", pkgPath := "grapnel/sum", byteOffset := 32 }, { name := "held", type := 3, offset := 72, embedded := false, tag := "", pkgPath := "grapnel/sum", byteOffset := 96 }, { name := "all", type := 226, offset := 73, embedded := false, tag := "", pkgPath := "grapnel/sum", byteOffset := 104 }, { name := "made", type := 4, offset := 74, embedded := false, tag := "", pkgPath := "grapnel/sum", byteOffset := 112 }]), 75, 120, some (Value.agg ([Value.int .u32 0, Value.int .u32 0, Value.int .u32 0, Value.int .u32 0, Value.int .u32 0, Value.int .u32 0, Value.int .u32 0, Value.int .u32 0, Value.int .u8 0, Value.int .u8 0, Value.int .u8 0, Value.int .u8 0, Value.int .u8 0, Value.int .u8 0, Value.int .u8 0, Value.int .u8 0, Value.int .u8 0, Value.int .u8 0, Value.int .u8 0, Value.int .u8 0, Value.int .u8 0, Value.int .u8 0, Value.int .u8 0, Value.int .u8 0, Value.int .u8 0, Value.int .u8 0, Value.int .u8 0, Value.int .u8 0, Value.int .u8 0, Value.int .u8 0, Value.int .u8 0, Value.int .u8 0, Value.int .u8 0, Value.int .u8 0, Value.int .u8 0, Value.int .u8 0, Value.int .u8 0].append [Value.int .u8 0, Value.int .u8 0, Value.int .u8 0, Value.int .u8 0, Value.int .u8 0, Value.int .u8 0, Value.int .u8 0, Value.int .u8 0, Value.int .u8 0, Value.int .u8 0, Value.int .u8 0, Value.int .u8 0, Value.int .u8 0, Value.int .u8 0, Value.int .u8 0, Value.int .u8 0, Value.int .u8 0, Value.int .u8 0, Value.int .u8 0, Value.int .u8 0, Value.int .u8 0, Value.int .u8 0, Value.int .u8 0, Value.int .u8 0, Value.int .u8 0, Value.int .u8 0, Value.int .u8 0, Value.int .u8 0, Value.int .u8 0, Value.int .u8 0, Value.int .u8 0, Value.int .u8 0, Value.int .u8 0, Value.int .u8 0, Value.int .u8 0, Value.int .i64 0, Value.int .u64 0, Value.bool false]).toArray)⟩
theorem ok237 : TyOk Tryz.prog 237 ty237 := ⟨Tryz.underlying237, Tryz.t237, info_of Tryz.type237, rfl, rfl, rfl⟩
def ty238 : TyI := ⟨(.struct #[{ name := "state", type := 235, offset := 0, embedded := false, tag := "", pkgPath := "grapnel/sum", byteOffset := 0 }, { name := "part", type := 236, offset := 8, embedded := false, tag := "", pkgPath := "grapnel/sum", byteOffset := 32 }, { name := "held", type := 3, offset := 72, embedded := false, tag := "", pkgPath := "grapnel/sum", byteOffset := 96 }, { name := "all", type := 226, offset := 73, embedded := false, tag := "", pkgPath := "grapnel/sum", byteOffset := 104 }, { name := "made", type := 4, offset := 74, embedded := false, tag := "", pkgPath := "grapnel/sum", byteOffset := 112 }]), 75, 120, some (Value.agg ([Value.int .u32 0, Value.int .u32 0, Value.int .u32 0, Value.int .u32 0, Value.int .u32 0, Value.int .u32 0, Value.int .u32 0, Value.int .u32 0, Value.int .u8 0, Value.int .u8 0, Value.int .u8 0, Value.int .u8 0, Value.int .u8 0, Value.int .u8 0, Value.int .u8 0, Value.int .u8 0, Value.int .u8 0, Value.int .u8 0, Value.int .u8 0, Value.int .u8 0, Value.int .u8 0, Value.int .u8 0, Value.int .u8 0, Value.int .u8 0, Value.int .u8 0, Value.int .u8 0, Value.int .u8 0, Value.int .u8 0, Value.int .u8 0, Value.int .u8 0, Value.int .u8 0, Value.int .u8 0, Value.int .u8 0, Value.int .u8 0, Value.int .u8 0, Value.int .u8 0, Value.int .u8 0].append [Value.int .u8 0, Value.int .u8 0, Value.int .u8 0, Value.int .u8 0, Value.int .u8 0, Value.int .u8 0, Value.int .u8 0, Value.int .u8 0, Value.int .u8 0, Value.int .u8 0, Value.int .u8 0, Value.int .u8 0, Value.int .u8 0, Value.int .u8 0, Value.int .u8 0, Value.int .u8 0, Value.int .u8 0, Value.int .u8 0, Value.int .u8 0, Value.int .u8 0, Value.int .u8 0, Value.int .u8 0, Value.int .u8 0, Value.int .u8 0, Value.int .u8 0, Value.int .u8 0, Value.int .u8 0, Value.int .u8 0, Value.int .u8 0, Value.int .u8 0, Value.int .u8 0, Value.int .u8 0, Value.int .u8 0, Value.int .u8 0, Value.int .u8 0, Value.int .i64 0, Value.int .u64 0, Value.bool false]).toArray)⟩
theorem ok238 : TyOk Tryz.prog 238 ty238 := ⟨Tryz.underlying238, Tryz.t238, info_of Tryz.type238, rfl, rfl, rfl⟩
def ty239 : TyI := ⟨(.tuple #[238, 238]), 1, 0, some (Value.tuple #[Value.agg ([Value.int .u32 0, Value.int .u32 0, Value.int .u32 0, Value.int .u32 0, Value.int .u32 0, Value.int .u32 0, Value.int .u32 0, Value.int .u32 0, Value.int .u8 0, Value.int .u8 0, Value.int .u8 0, Value.int .u8 0, Value.int .u8 0, Value.int .u8 0, Value.int .u8 0, Value.int .u8 0, Value.int .u8 0, Value.int .u8 0, Value.int .u8 0, Value.int .u8 0, Value.int .u8 0, Value.int .u8 0, Value.int .u8 0, Value.int .u8 0, Value.int .u8 0, Value.int .u8 0, Value.int .u8 0, Value.int .u8 0, Value.int .u8 0, Value.int .u8 0, Value.int .u8 0, Value.int .u8 0, Value.int .u8 0, Value.int .u8 0, Value.int .u8 0, Value.int .u8 0, Value.int .u8 0].append [Value.int .u8 0, Value.int .u8 0, Value.int .u8 0, Value.int .u8 0, Value.int .u8 0, Value.int .u8 0, Value.int .u8 0, Value.int .u8 0, Value.int .u8 0, Value.int .u8 0, Value.int .u8 0, Value.int .u8 0, Value.int .u8 0, Value.int .u8 0, Value.int .u8 0, Value.int .u8 0, Value.int .u8 0, Value.int .u8 0, Value.int .u8 0, Value.int .u8 0, Value.int .u8 0, Value.int .u8 0, Value.int .u8 0, Value.int .u8 0, Value.int .u8 0, Value.int .u8 0, Value.int .u8 0, Value.int .u8 0, Value.int .u8 0, Value.int .u8 0, Value.int .u8 0, Value.int .u8 0, Value.int .u8 0, Value.int .u8 0, Value.int .u8 0, Value.int .i64 0, Value.int .u64 0, Value.bool false]).toArray, Value.agg ([Value.int .u32 0, Value.int .u32 0, Value.int .u32 0, Value.int .u32 0, Value.int .u32 0, Value.int .u32 0, Value.int .u32 0, Value.int .u32 0, Value.int .u8 0, Value.int .u8 0, Value.int .u8 0, Value.int .u8 0, Value.int .u8 0, Value.int .u8 0, Value.int .u8 0, Value.int .u8 0, Value.int .u8 0, Value.int .u8 0, Value.int .u8 0, Value.int .u8 0, Value.int .u8 0, Value.int .u8 0, Value.int .u8 0, Value.int .u8 0, Value.int .u8 0, Value.int .u8 0, Value.int .u8 0, Value.int .u8 0, Value.int .u8 0, Value.int .u8 0, Value.int .u8 0, Value.int .u8 0, Value.int .u8 0, Value.int .u8 0, Value.int .u8 0, Value.int .u8 0, Value.int .u8 0].append [Value.int .u8 0, Value.int .u8 0, Value.int .u8 0, Value.int .u8 0, Value.int .u8 0, Value.int .u8 0, Value.int .u8 0, Value.int .u8 0, Value.int .u8 0, Value.int .u8 0, Value.int .u8 0, Value.int .u8 0, Value.int .u8 0, Value.int .u8 0, Value.int .u8 0, Value.int .u8 0, Value.int .u8 0, Value.int .u8 0, Value.int .u8 0, Value.int .u8 0, Value.int .u8 0, Value.int .u8 0, Value.int .u8 0, Value.int .u8 0, Value.int .u8 0, Value.int .u8 0, Value.int .u8 0, Value.int .u8 0, Value.int .u8 0, Value.int .u8 0, Value.int .u8 0, Value.int .u8 0, Value.int .u8 0, Value.int .u8 0, Value.int .u8 0, Value.int .i64 0, Value.int .u64 0, Value.bool false]).toArray])⟩
theorem ok239 : TyOk Tryz.prog 239 ty239 := ⟨Tryz.underlying239, Tryz.t239, info_of Tryz.type239, rfl, rfl, rfl⟩
def ty240 : TyI := ⟨(.func #[9] #[238, 238] false), 1, 8, some Value.nilFunc⟩
theorem ok240 : TyOk Tryz.prog 240 ty240 := ⟨Tryz.underlying240, Tryz.t240, info_of Tryz.type240, rfl, rfl, rfl⟩
def ty241 : TyI := ⟨(.func #[238, 238, 9] #[9] false), 1, 8, some Value.nilFunc⟩
theorem ok241 : TyOk Tryz.prog 241 ty241 := ⟨Tryz.underlying241, Tryz.t241, info_of Tryz.type241, rfl, rfl, rfl⟩
def ty242 : TyI := ⟨(.func #[9, 9] #[9] false), 1, 8, some Value.nilFunc⟩
theorem ok242 : TyOk Tryz.prog 242 ty242 := ⟨Tryz.underlying242, Tryz.t242, info_of Tryz.type242, rfl, rfl, rfl⟩
def ty243 : TyI := ⟨(.pointer 203), 1, 8, some (Value.pointer none)⟩
theorem ok243 : TyOk Tryz.prog 243 ty243 := ⟨Tryz.underlying243, Tryz.t243, info_of Tryz.type243, rfl, rfl, rfl⟩
def ty244 : TyI := ⟨(.func #[3, 9] #[4] false), 1, 8, some Value.nilFunc⟩
theorem ok244 : TyOk Tryz.prog 244 ty244 := ⟨Tryz.underlying244, Tryz.t244, info_of Tryz.type244, rfl, rfl, rfl⟩
def ty245 : TyI := ⟨(.func #[3, 9, 9, 9] #[9] false), 1, 8, some Value.nilFunc⟩
theorem ok245 : TyOk Tryz.prog 245 ty245 := ⟨Tryz.underlying245, Tryz.t245, info_of Tryz.type245, rfl, rfl, rfl⟩
def ty246 : TyI := ⟨(.func #[9, 9, 9, 9] #[9, 23] false), 1, 8, some Value.nilFunc⟩
theorem ok246 : TyOk Tryz.prog 246 ty246 := ⟨Tryz.underlying246, Tryz.t246, info_of Tryz.type246, rfl, rfl, rfl⟩
def ty247 : TyI := ⟨(.func #[249] #[3] false), 1, 8, some Value.nilFunc⟩
theorem ok247 : TyOk Tryz.prog 247 ty247 := ⟨Tryz.underlying247, Tryz.t247, info_of Tryz.type247, rfl, rfl, rfl⟩
def ty248 : TyI := ⟨(.struct #[{ name := "Salt", type := 3, offset := 0, embedded := false, tag := "", pkgPath := "", byteOffset := 0 }, { name := "Nonce", type := 9, offset := 1, embedded := false, tag := "", pkgPath := "", byteOffset := 8 }, { name := "Ad", type := 9, offset := 2, embedded := false, tag := "", pkgPath := "", byteOffset := 24 }, { name := "Text", type := 9, offset := 3, embedded := false, tag := "", pkgPath := "", byteOffset := 40 }]), 4, 56, some (Value.agg #[Value.int .i64 0, Value.string { data := #[] }, Value.string { data := #[] }, Value.string { data := #[] }])⟩
theorem ok248 : TyOk Tryz.prog 248 ty248 := ⟨Tryz.underlying248, Tryz.t248, info_of Tryz.type248, rfl, rfl, rfl⟩
def ty249 : TyI := ⟨(.struct #[{ name := "Salt", type := 3, offset := 0, embedded := false, tag := "", pkgPath := "", byteOffset := 0 }, { name := "Nonce", type := 9, offset := 1, embedded := false, tag := "", pkgPath := "", byteOffset := 8 }, { name := "Ad", type := 9, offset := 2, embedded := false, tag := "", pkgPath := "", byteOffset := 24 }, { name := "Text", type := 9, offset := 3, embedded := false, tag := "", pkgPath := "", byteOffset := 40 }]), 4, 56, some (Value.agg #[Value.int .i64 0, Value.string { data := #[] }, Value.string { data := #[] }, Value.string { data := #[] }])⟩
theorem ok249 : TyOk Tryz.prog 249 ty249 := ⟨Tryz.underlying249, Tryz.t249, info_of Tryz.type249, rfl, rfl, rfl⟩
def ty250 : TyI := ⟨(.struct #[]), 0, 0, some (Value.agg #[])⟩
theorem ok250 : TyOk Tryz.prog 250 ty250 := ⟨Tryz.underlying250, Tryz.t250, info_of Tryz.type250, rfl, rfl, rfl⟩
def ty251 : TyI := ⟨(.struct #[]), 0, 0, some (Value.agg #[])⟩
theorem ok251 : TyOk Tryz.prog 251 ty251 := ⟨Tryz.underlying251, Tryz.t251, info_of Tryz.type251, rfl, rfl, rfl⟩
def ty252 : TyI := ⟨(.tuple #[251, 4]), 1, 0, some (Value.tuple #[Value.agg #[], Value.bool false])⟩
theorem ok252 : TyOk Tryz.prog 252 ty252 := ⟨Tryz.underlying252, Tryz.t252, info_of Tryz.type252, rfl, rfl, rfl⟩
def ty253 : TyI := ⟨(.pointer 213), 1, 8, some (Value.pointer none)⟩
theorem ok253 : TyOk Tryz.prog 253 ty253 := ⟨Tryz.underlying253, Tryz.t253, info_of Tryz.type253, rfl, rfl, rfl⟩
def ty254 : TyI := ⟨(.func #[107, 9] #[3] false), 1, 8, some Value.nilFunc⟩
theorem ok254 : TyOk Tryz.prog 254 ty254 := ⟨Tryz.underlying254, Tryz.t254, info_of Tryz.type254, rfl, rfl, rfl⟩
def ty255 : TyI := ⟨(.pointer 238), 1, 8, some (Value.pointer none)⟩
theorem ok255 : TyOk Tryz.prog 255 ty255 := ⟨Tryz.underlying255, Tryz.t255, info_of Tryz.type255, rfl, rfl, rfl⟩
def ty256 : TyI := ⟨(.func #[] #[255] false), 1, 8, some Value.nilFunc⟩
theorem ok256 : TyOk Tryz.prog 256 ty256 := ⟨Tryz.underlying256, Tryz.t256, info_of Tryz.type256, rfl, rfl, rfl⟩
def ty257 : TyI := ⟨(.func #[9] #[] false), 1, 8, some Value.nilFunc⟩
theorem ok257 : TyOk Tryz.prog 257 ty257 := ⟨Tryz.underlying257, Tryz.t257, info_of Tryz.type257, rfl, rfl, rfl⟩
def ty258 : TyI := ⟨(.func #[71, 9] #[100, 9, 23] false), 1, 8, some Value.nilFunc⟩
theorem ok258 : TyOk Tryz.prog 258 ty258 := ⟨Tryz.underlying258, Tryz.t258, info_of Tryz.type258, rfl, rfl, rfl⟩
def ty259 : TyI := ⟨(.func #[9] #[129] false), 1, 8, some Value.nilFunc⟩
theorem ok259 : TyOk Tryz.prog 259 ty259 := ⟨Tryz.underlying259, Tryz.t259, info_of Tryz.type259, rfl, rfl, rfl⟩
def ty260 : TyI := ⟨(.func #[129] #[59] false), 1, 8, some Value.nilFunc⟩
theorem ok260 : TyOk Tryz.prog 260 ty260 := ⟨Tryz.underlying260, Tryz.t260, info_of Tryz.type260, rfl, rfl, rfl⟩
def ty261 : TyI := ⟨(.struct #[{ name := "Type", type := 17, offset := 0, embedded := true, tag := "", pkgPath := "", byteOffset := 0 }]), 1, 8, some (Value.agg #[Value.pointer none])⟩
theorem ok261 : TyOk Tryz.prog 261 ty261 := ⟨Tryz.underlying261, Tryz.t261, info_of Tryz.type261, rfl, rfl, rfl⟩
def ty262 : TyI := ⟨(.struct #[{ name := "Type", type := 17, offset := 0, embedded := true, tag := "", pkgPath := "", byteOffset := 0 }]), 1, 8, some (Value.agg #[Value.pointer none])⟩
theorem ok262 : TyOk Tryz.prog 262 ty262 := ⟨Tryz.underlying262, Tryz.t262, info_of Tryz.type262, rfl, rfl, rfl⟩
def ty263 : TyI := ⟨(.pointer 337), 1, 8, some (Value.pointer none)⟩
theorem ok263 : TyOk Tryz.prog 263 ty263 := ⟨Tryz.underlying263, Tryz.t263, info_of Tryz.type263, rfl, rfl, rfl⟩
def ty264 : TyI := ⟨(.interface #[("Is", 266)]), 1, 16, some Value.nilIface⟩
theorem ok264 : TyOk Tryz.prog 264 ty264 := ⟨Tryz.underlying264, Tryz.t264, info_of Tryz.type264, rfl, rfl, rfl⟩
def ty265 : TyI := ⟨(.tuple #[264, 4]), 1, 0, some (Value.tuple #[Value.nilIface, Value.bool false])⟩
theorem ok265 : TyOk Tryz.prog 265 ty265 := ⟨Tryz.underlying265, Tryz.t265, info_of Tryz.type265, rfl, rfl, rfl⟩
def ty266 : TyI := ⟨(.func #[118] #[4] false), 1, 8, some Value.nilFunc⟩
theorem ok266 : TyOk Tryz.prog 266 ty266 := ⟨Tryz.underlying266, Tryz.t266, info_of Tryz.type266, rfl, rfl, rfl⟩
def ty267 : TyI := ⟨(.interface #[("Unwrap", 268)]), 1, 16, some Value.nilIface⟩
theorem ok267 : TyOk Tryz.prog 267 ty267 := ⟨Tryz.underlying267, Tryz.t267, info_of Tryz.type267, rfl, rfl, rfl⟩
def ty268 : TyI := ⟨(.func #[] #[118] false), 1, 8, some Value.nilFunc⟩
theorem ok268 : TyOk Tryz.prog 268 ty268 := ⟨Tryz.underlying268, Tryz.t268, info_of Tryz.type268, rfl, rfl, rfl⟩
def ty269 : TyI := ⟨(.interface #[("Unwrap", 271)]), 1, 16, some Value.nilIface⟩
theorem ok269 : TyOk Tryz.prog 269 ty269 := ⟨Tryz.underlying269, Tryz.t269, info_of Tryz.type269, rfl, rfl, rfl⟩
def ty270 : TyI := ⟨(.slice 118), 1, 24, some (Value.slice none 0 0)⟩
theorem ok270 : TyOk Tryz.prog 270 ty270 := ⟨Tryz.underlying270, Tryz.t270, info_of Tryz.type270, rfl, rfl, rfl⟩
def ty271 : TyI := ⟨(.func #[] #[270] false), 1, 8, some Value.nilFunc⟩
theorem ok271 : TyOk Tryz.prog 271 ty271 := ⟨Tryz.underlying271, Tryz.t271, info_of Tryz.type271, rfl, rfl, rfl⟩
def ty272 : TyI := ⟨.unsafePointer, 1, 8, some (Value.pointer none)⟩
theorem ok272 : TyOk Tryz.prog 272 ty272 := ⟨Tryz.underlying272, Tryz.t272, info_of Tryz.type272, rfl, rfl, rfl⟩
def ty273 : TyI := ⟨(.func #[272] #[272] false), 1, 8, some Value.nilFunc⟩
theorem ok273 : TyOk Tryz.prog 273 ty273 := ⟨Tryz.underlying273, Tryz.t273, info_of Tryz.type273, rfl, rfl, rfl⟩
def ty274 : TyI := ⟨(.func #[3] #[129] false), 1, 8, some Value.nilFunc⟩
theorem ok274 : TyOk Tryz.prog 274 ty274 := ⟨Tryz.underlying274, Tryz.t274, info_of Tryz.type274, rfl, rfl, rfl⟩
def ty275 : TyI := ⟨(.int .u64), 1, 8, some (Value.int .u64 0)⟩
theorem ok275 : TyOk Tryz.prog 275 ty275 := ⟨Tryz.underlying275, Tryz.t275, info_of Tryz.type275, rfl, rfl, rfl⟩
def ty276 : TyI := ⟨(.struct #[{ name := "typ_", type := 17, offset := 0, embedded := false, tag := "", pkgPath := "internal/reflectlite", byteOffset := 0 }, { name := "ptr", type := 272, offset := 1, embedded := false, tag := "", pkgPath := "internal/reflectlite", byteOffset := 8 }, { name := "flag", type := 275, offset := 2, embedded := true, tag := "", pkgPath := "internal/reflectlite", byteOffset := 16 }]), 3, 24, some (Value.agg #[Value.pointer none, Value.pointer none, Value.int .u64 0])⟩
theorem ok276 : TyOk Tryz.prog 276 ty276 := ⟨Tryz.underlying276, Tryz.t276, info_of Tryz.type276, rfl, rfl, rfl⟩
def ty277 : TyI := ⟨(.struct #[{ name := "typ_", type := 17, offset := 0, embedded := false, tag := "", pkgPath := "internal/reflectlite", byteOffset := 0 }, { name := "ptr", type := 272, offset := 1, embedded := false, tag := "", pkgPath := "internal/reflectlite", byteOffset := 8 }, { name := "flag", type := 275, offset := 2, embedded := true, tag := "", pkgPath := "internal/reflectlite", byteOffset := 16 }]), 3, 24, some (Value.agg #[Value.pointer none, Value.pointer none, Value.int .u64 0])⟩
theorem ok277 : TyOk Tryz.prog 277 ty277 := ⟨Tryz.underlying277, Tryz.t277, info_of Tryz.type277, rfl, rfl, rfl⟩
def ty278 : TyI := ⟨(.func #[20] #[277] false), 1, 8, some Value.nilFunc⟩
theorem ok278 : TyOk Tryz.prog 278 ty278 := ⟨Tryz.underlying278, Tryz.t278, info_of Tryz.type278, rfl, rfl, rfl⟩
def ty279 : TyI := ⟨(.func #[] #[219] false), 1, 8, some Value.nilFunc⟩
theorem ok279 : TyOk Tryz.prog 279 ty279 := ⟨Tryz.underlying279, Tryz.t279, info_of Tryz.type279, rfl, rfl, rfl⟩
def ty280 : TyI := ⟨(.int .u8), 1, 1, some (Value.int .u8 0)⟩
theorem ok280 : TyOk Tryz.prog 280 ty280 := ⟨Tryz.underlying280, Tryz.t280, info_of Tryz.type280, rfl, rfl, rfl⟩
def ty281 : TyI := ⟨(.func #[] #[280] false), 1, 8, some Value.nilFunc⟩
theorem ok281 : TyOk Tryz.prog 281 ty281 := ⟨Tryz.underlying281, Tryz.t281, info_of Tryz.type281, rfl, rfl, rfl⟩
def ty282 : TyI := ⟨(.func #[219] #[4] false), 1, 8, some Value.nilFunc⟩
theorem ok282 : TyOk Tryz.prog 282 ty282 := ⟨Tryz.underlying282, Tryz.t282, info_of Tryz.type282, rfl, rfl, rfl⟩
def ty283 : TyI := ⟨(.func #[118, 20, 277, 219] #[4] false), 1, 8, some Value.nilFunc⟩
theorem ok283 : TyOk Tryz.prog 283 ty283 := ⟨Tryz.underlying283, Tryz.t283, info_of Tryz.type283, rfl, rfl, rfl⟩
def ty284 : TyI := ⟨(.func #[109, 286] #[3] false), 1, 8, some Value.nilFunc⟩
theorem ok284 : TyOk Tryz.prog 284 ty284 := ⟨Tryz.underlying284, Tryz.t284, info_of Tryz.type284, rfl, rfl, rfl⟩
def ty285 : TyI := ⟨(.struct #[{ name := "salt", type := 3, offset := 0, embedded := false, tag := "", pkgPath := "grapnel/vault", byteOffset := 0 }, { name := "nonce", type := 9, offset := 1, embedded := false, tag := "", pkgPath := "grapnel/vault", byteOffset := 8 }, { name := "ad", type := 9, offset := 2, embedded := false, tag := "", pkgPath := "grapnel/vault", byteOffset := 24 }, { name := "text", type := 9, offset := 3, embedded := false, tag := "", pkgPath := "grapnel/vault", byteOffset := 40 }]), 4, 56, some (Value.agg #[Value.int .i64 0, Value.string { data := #[] }, Value.string { data := #[] }, Value.string { data := #[] }])⟩
theorem ok285 : TyOk Tryz.prog 285 ty285 := ⟨Tryz.underlying285, Tryz.t285, info_of Tryz.type285, rfl, rfl, rfl⟩
def ty286 : TyI := ⟨(.struct #[{ name := "salt", type := 3, offset := 0, embedded := false, tag := "", pkgPath := "grapnel/vault", byteOffset := 0 }, { name := "nonce", type := 9, offset := 1, embedded := false, tag := "", pkgPath := "grapnel/vault", byteOffset := 8 }, { name := "ad", type := 9, offset := 2, embedded := false, tag := "", pkgPath := "grapnel/vault", byteOffset := 24 }, { name := "text", type := 9, offset := 3, embedded := false, tag := "", pkgPath := "grapnel/vault", byteOffset := 40 }]), 4, 56, some (Value.agg #[Value.int .i64 0, Value.string { data := #[] }, Value.string { data := #[] }, Value.string { data := #[] }])⟩
theorem ok286 : TyOk Tryz.prog 286 ty286 := ⟨Tryz.underlying286, Tryz.t286, info_of Tryz.type286, rfl, rfl, rfl⟩
def ty287 : TyI := ⟨(.func #[9, 9, 3, 9] #[9, 23] false), 1, 8, some Value.nilFunc⟩
theorem ok287 : TyOk Tryz.prog 287 ty287 := ⟨Tryz.underlying287, Tryz.t287, info_of Tryz.type287, rfl, rfl, rfl⟩
def ty288 : TyI := ⟨(.func #[9, 9, 9, 9] #[9] false), 1, 8, some Value.nilFunc⟩
theorem ok288 : TyOk Tryz.prog 288 ty288 := ⟨Tryz.underlying288, Tryz.t288, info_of Tryz.type288, rfl, rfl, rfl⟩
def ty289 : TyI := ⟨(.func #[9, 9, 3] #[9, 23] false), 1, 8, some Value.nilFunc⟩
theorem ok289 : TyOk Tryz.prog 289 ty289 := ⟨Tryz.underlying289, Tryz.t289, info_of Tryz.type289, rfl, rfl, rfl⟩
def ty290 : TyI := ⟨(.tuple #[3, 4]), 1, 0, some (Value.tuple #[Value.int .i64 0, Value.bool false])⟩
theorem ok290 : TyOk Tryz.prog 290 ty290 := ⟨Tryz.underlying290, Tryz.t290, info_of Tryz.type290, rfl, rfl, rfl⟩
def ty291 : TyI := ⟨(.func #[235, 236] #[235] false), 1, 8, some Value.nilFunc⟩
theorem ok291 : TyOk Tryz.prog 291 ty291 := ⟨Tryz.underlying291, Tryz.t291, info_of Tryz.type291, rfl, rfl, rfl⟩
def ty292 : TyI := ⟨(.array 8 5), 8, 8, some (Value.agg #[Value.int .u8 0, Value.int .u8 0, Value.int .u8 0, Value.int .u8 0, Value.int .u8 0, Value.int .u8 0, Value.int .u8 0, Value.int .u8 0])⟩
theorem ok292 : TyOk Tryz.prog 292 ty292 := ⟨Tryz.underlying292, Tryz.t292, info_of Tryz.type292, rfl, rfl, rfl⟩
def ty293 : TyI := ⟨(.func #[] #[277] false), 1, 8, some Value.nilFunc⟩
theorem ok293 : TyOk Tryz.prog 293 ty293 := ⟨Tryz.underlying293, Tryz.t293, info_of Tryz.type293, rfl, rfl, rfl⟩
def ty294 : TyI := ⟨(.func #[277] #[] false), 1, 8, some Value.nilFunc⟩
theorem ok294 : TyOk Tryz.prog 294 ty294 := ⟨Tryz.underlying294, Tryz.t294, info_of Tryz.type294, rfl, rfl, rfl⟩
def ty295 : TyI := ⟨(.interface #[("As", 211)]), 1, 16, some Value.nilIface⟩
theorem ok295 : TyOk Tryz.prog 295 ty295 := ⟨Tryz.underlying295, Tryz.t295, info_of Tryz.type295, rfl, rfl, rfl⟩
def ty296 : TyI := ⟨(.tuple #[295, 4]), 1, 0, some (Value.tuple #[Value.nilIface, Value.bool false])⟩
theorem ok296 : TyOk Tryz.prog 296 ty296 := ⟨Tryz.underlying296, Tryz.t296, info_of Tryz.type296, rfl, rfl, rfl⟩
def ty297 : TyI := ⟨(.func #[9, 9, 3] #[9] false), 1, 8, some Value.nilFunc⟩
theorem ok297 : TyOk Tryz.prog 297 ty297 := ⟨Tryz.underlying297, Tryz.t297, info_of Tryz.type297, rfl, rfl, rfl⟩
def ty298 : TyI := ⟨(.func #[9, 9] #[9, 23] false), 1, 8, some Value.nilFunc⟩
theorem ok298 : TyOk Tryz.prog 298 ty298 := ⟨Tryz.underlying298, Tryz.t298, info_of Tryz.type298, rfl, rfl, rfl⟩
def ty299 : TyI := ⟨(.array 64 223), 64, 256, some (Value.agg #[Value.int .u32 0, Value.int .u32 0, Value.int .u32 0, Value.int .u32 0, Value.int .u32 0, Value.int .u32 0, Value.int .u32 0, Value.int .u32 0, Value.int .u32 0, Value.int .u32 0, Value.int .u32 0, Value.int .u32 0, Value.int .u32 0, Value.int .u32 0, Value.int .u32 0, Value.int .u32 0, Value.int .u32 0, Value.int .u32 0, Value.int .u32 0, Value.int .u32 0, Value.int .u32 0, Value.int .u32 0, Value.int .u32 0, Value.int .u32 0, Value.int .u32 0, Value.int .u32 0, Value.int .u32 0, Value.int .u32 0, Value.int .u32 0, Value.int .u32 0, Value.int .u32 0, Value.int .u32 0, Value.int .u32 0, Value.int .u32 0, Value.int .u32 0, Value.int .u32 0, Value.int .u32 0, Value.int .u32 0, Value.int .u32 0, Value.int .u32 0, Value.int .u32 0, Value.int .u32 0, Value.int .u32 0, Value.int .u32 0, Value.int .u32 0, Value.int .u32 0, Value.int .u32 0, Value.int .u32 0, Value.int .u32 0, Value.int .u32 0, Value.int .u32 0, Value.int .u32 0, Value.int .u32 0, Value.int .u32 0, Value.int .u32 0, Value.int .u32 0, Value.int .u32 0, Value.int .u32 0, Value.int .u32 0, Value.int .u32 0, Value.int .u32 0, Value.int .u32 0, Value.int .u32 0, Value.int .u32 0])⟩
theorem ok299 : TyOk Tryz.prog 299 ty299 := ⟨Tryz.underlying299, Tryz.t299, info_of Tryz.type299, rfl, rfl, rfl⟩
def ty300 : TyI := ⟨(.func #[223, 3] #[223] false), 1, 8, some Value.nilFunc⟩
theorem ok300 : TyOk Tryz.prog 300 ty300 := ⟨Tryz.underlying300, Tryz.t300, info_of Tryz.type300, rfl, rfl, rfl⟩
def ty301 : TyI := ⟨(.func #[] #[299] false), 1, 8, some Value.nilFunc⟩
theorem ok301 : TyOk Tryz.prog 301 ty301 := ⟨Tryz.underlying301, Tryz.t301, info_of Tryz.type301, rfl, rfl, rfl⟩
def ty302 : TyI := ⟨(.func #[9, 9, 223] #[236] false), 1, 8, some Value.nilFunc⟩
theorem ok302 : TyOk Tryz.prog 302 ty302 := ⟨Tryz.underlying302, Tryz.t302, info_of Tryz.type302, rfl, rfl, rfl⟩
def ty303 : TyI := ⟨(.func #[9, 3] #[3] false), 1, 8, some Value.nilFunc⟩
theorem ok303 : TyOk Tryz.prog 303 ty303 := ⟨Tryz.underlying303, Tryz.t303, info_of Tryz.type303, rfl, rfl, rfl⟩
def ty304 : TyI := ⟨(.func #[59, 3, 3, 3, 3] #[59] false), 1, 8, some Value.nilFunc⟩
theorem ok304 : TyOk Tryz.prog 304 ty304 := ⟨Tryz.underlying304, Tryz.t304, info_of Tryz.type304, rfl, rfl, rfl⟩
def ty305 : TyI := ⟨(.func #[9, 3] #[59] false), 1, 8, some Value.nilFunc⟩
theorem ok305 : TyOk Tryz.prog 305 ty305 := ⟨Tryz.underlying305, Tryz.t305, info_of Tryz.type305, rfl, rfl, rfl⟩
def ty306 : TyI := ⟨(.func #[59, 59] #[59] false), 1, 8, some Value.nilFunc⟩
theorem ok306 : TyOk Tryz.prog 306 ty306 := ⟨Tryz.underlying306, Tryz.t306, info_of Tryz.type306, rfl, rfl, rfl⟩
def ty307 : TyI := ⟨(.func #[59] #[59] false), 1, 8, some Value.nilFunc⟩
theorem ok307 : TyOk Tryz.prog 307 ty307 := ⟨Tryz.underlying307, Tryz.t307, info_of Tryz.type307, rfl, rfl, rfl⟩
def ty308 : TyI := ⟨(.array 16 223), 16, 64, some (Value.agg #[Value.int .u32 0, Value.int .u32 0, Value.int .u32 0, Value.int .u32 0, Value.int .u32 0, Value.int .u32 0, Value.int .u32 0, Value.int .u32 0, Value.int .u32 0, Value.int .u32 0, Value.int .u32 0, Value.int .u32 0, Value.int .u32 0, Value.int .u32 0, Value.int .u32 0, Value.int .u32 0])⟩
theorem ok308 : TyOk Tryz.prog 308 ty308 := ⟨Tryz.underlying308, Tryz.t308, info_of Tryz.type308, rfl, rfl, rfl⟩
def ty309 : TyI := ⟨(.func #[9, 3] #[223] false), 1, 8, some Value.nilFunc⟩
theorem ok309 : TyOk Tryz.prog 309 ty309 := ⟨Tryz.underlying309, Tryz.t309, info_of Tryz.type309, rfl, rfl, rfl⟩
def ty310 : TyI := ⟨(.func #[311, 3, 3, 3, 3] #[] false), 1, 8, some Value.nilFunc⟩
theorem ok310 : TyOk Tryz.prog 310 ty310 := ⟨Tryz.underlying310, Tryz.t310, info_of Tryz.type310, rfl, rfl, rfl⟩
def ty311 : TyI := ⟨(.pointer 308), 1, 8, some (Value.pointer none)⟩
theorem ok311 : TyOk Tryz.prog 311 ty311 := ⟨Tryz.underlying311, Tryz.t311, info_of Tryz.type311, rfl, rfl, rfl⟩
def ty312 : TyI := ⟨(.array 17 5), 17, 17, some (Value.agg #[Value.int .u8 0, Value.int .u8 0, Value.int .u8 0, Value.int .u8 0, Value.int .u8 0, Value.int .u8 0, Value.int .u8 0, Value.int .u8 0, Value.int .u8 0, Value.int .u8 0, Value.int .u8 0, Value.int .u8 0, Value.int .u8 0, Value.int .u8 0, Value.int .u8 0, Value.int .u8 0, Value.int .u8 0])⟩
theorem ok312 : TyOk Tryz.prog 312 ty312 := ⟨Tryz.underlying312, Tryz.t312, info_of Tryz.type312, rfl, rfl, rfl⟩
def ty313 : TyI := ⟨(.array 5 226), 5, 40, some (Value.agg #[Value.int .u64 0, Value.int .u64 0, Value.int .u64 0, Value.int .u64 0, Value.int .u64 0])⟩
theorem ok313 : TyOk Tryz.prog 313 ty313 := ⟨Tryz.underlying313, Tryz.t313, info_of Tryz.type313, rfl, rfl, rfl⟩
def ty314 : TyI := ⟨(.func #[312] #[313] false), 1, 8, some Value.nilFunc⟩
theorem ok314 : TyOk Tryz.prog 314 ty314 := ⟨Tryz.underlying314, Tryz.t314, info_of Tryz.type314, rfl, rfl, rfl⟩
def ty315 : TyI := ⟨(.func #[313, 313] #[313] false), 1, 8, some Value.nilFunc⟩
theorem ok315 : TyOk Tryz.prog 315 ty315 := ⟨Tryz.underlying315, Tryz.t315, info_of Tryz.type315, rfl, rfl, rfl⟩
def ty316 : TyI := ⟨(.func #[313] #[313] false), 1, 8, some Value.nilFunc⟩
theorem ok316 : TyOk Tryz.prog 316 ty316 := ⟨Tryz.underlying316, Tryz.t316, info_of Tryz.type316, rfl, rfl, rfl⟩
def ty317 : TyI := ⟨(.func #[59, 59] #[4] false), 1, 8, some Value.nilFunc⟩
theorem ok317 : TyOk Tryz.prog 317 ty317 := ⟨Tryz.underlying317, Tryz.t317, info_of Tryz.type317, rfl, rfl, rfl⟩
def ty318 : TyI := ⟨(.struct #[{ name := "_interface", type := 17, offset := 0, embedded := false, tag := "", pkgPath := "runtime", byteOffset := 0 }, { name := "concrete", type := 17, offset := 1, embedded := false, tag := "", pkgPath := "runtime", byteOffset := 8 }, { name := "asserted", type := 17, offset := 2, embedded := false, tag := "", pkgPath := "runtime", byteOffset := 16 }, { name := "missingMethod", type := 9, offset := 3, embedded := false, tag := "", pkgPath := "runtime", byteOffset := 24 }]), 4, 40, some (Value.agg #[Value.pointer none, Value.pointer none, Value.pointer none, Value.string { data := #[] }])⟩
theorem ok318 : TyOk Tryz.prog 318 ty318 := ⟨Tryz.underlying318, Tryz.t318, info_of Tryz.type318, rfl, rfl, rfl⟩
def ty319 : TyI := ⟨(.struct #[{ name := "_interface", type := 17, offset := 0, embedded := false, tag := "", pkgPath := "runtime", byteOffset := 0 }, { name := "concrete", type := 17, offset := 1, embedded := false, tag := "", pkgPath := "runtime", byteOffset := 8 }, { name := "asserted", type := 17, offset := 2, embedded := false, tag := "", pkgPath := "runtime", byteOffset := 16 }, { name := "missingMethod", type := 9, offset := 3, embedded := false, tag := "", pkgPath := "runtime", byteOffset := 24 }]), 4, 40, some (Value.agg #[Value.pointer none, Value.pointer none, Value.pointer none, Value.string { data := #[] }])⟩
theorem ok319 : TyOk Tryz.prog 319 ty319 := ⟨Tryz.underlying319, Tryz.t319, info_of Tryz.type319, rfl, rfl, rfl⟩
def ty320 : TyI := ⟨(.array 0 16), 0, 0, some (Value.agg #[])⟩
theorem ok320 : TyOk Tryz.prog 320 ty320 := ⟨Tryz.underlying320, Tryz.t320, info_of Tryz.type320, rfl, rfl, rfl⟩
def ty321 : TyI := ⟨(.struct #[{ name := "_", type := 320, offset := 0, embedded := false, tag := "", pkgPath := "runtime", byteOffset := 0 }]), 0, 0, some (Value.agg #[])⟩
theorem ok321 : TyOk Tryz.prog 321 ty321 := ⟨Tryz.underlying321, Tryz.t321, info_of Tryz.type321, rfl, rfl, rfl⟩
def ty322 : TyI := ⟨(.struct #[{ name := "_", type := 320, offset := 0, embedded := false, tag := "", pkgPath := "runtime", byteOffset := 0 }]), 0, 0, some (Value.agg #[])⟩
theorem ok322 : TyOk Tryz.prog 322 ty322 := ⟨Tryz.underlying322, Tryz.t322, info_of Tryz.type322, rfl, rfl, rfl⟩
def ty323 : TyI := ⟨(.func #[] #[17] false), 1, 8, some Value.nilFunc⟩
theorem ok323 : TyOk Tryz.prog 323 ty323 := ⟨Tryz.underlying323, Tryz.t323, info_of Tryz.type323, rfl, rfl, rfl⟩
def ty324 : TyI := ⟨(.int .u8), 1, 1, some (Value.int .u8 0)⟩
theorem ok324 : TyOk Tryz.prog 324 ty324 := ⟨Tryz.underlying324, Tryz.t324, info_of Tryz.type324, rfl, rfl, rfl⟩
def ty325 : TyI := ⟨(.func #[272, 272] #[4] false), 1, 8, some Value.nilFunc⟩
theorem ok325 : TyOk Tryz.prog 325 ty325 := ⟨Tryz.underlying325, Tryz.t325, info_of Tryz.type325, rfl, rfl, rfl⟩
def ty326 : TyI := ⟨(.int .i32), 1, 4, some (Value.int .i32 0)⟩
theorem ok326 : TyOk Tryz.prog 326 ty326 := ⟨Tryz.underlying326, Tryz.t326, info_of Tryz.type326, rfl, rfl, rfl⟩
def ty327 : TyI := ⟨(.int .i32), 1, 4, some (Value.int .i32 0)⟩
theorem ok327 : TyOk Tryz.prog 327 ty327 := ⟨Tryz.underlying327, Tryz.t327, info_of Tryz.type327, rfl, rfl, rfl⟩
def ty328 : TyI := ⟨(.struct #[{ name := "Size_", type := 12, offset := 0, embedded := false, tag := "", pkgPath := "", byteOffset := 0 }, { name := "PtrBytes", type := 12, offset := 1, embedded := false, tag := "", pkgPath := "", byteOffset := 8 }, { name := "Hash", type := 223, offset := 2, embedded := false, tag := "", pkgPath := "", byteOffset := 16 }, { name := "TFlag", type := 324, offset := 3, embedded := false, tag := "", pkgPath := "", byteOffset := 20 }, { name := "Align_", type := 5, offset := 4, embedded := false, tag := "", pkgPath := "", byteOffset := 21 }, { name := "FieldAlign_", type := 5, offset := 5, embedded := false, tag := "", pkgPath := "", byteOffset := 22 }, { name := "Kind_", type := 280, offset := 6, embedded := false, tag := "", pkgPath := "", byteOffset := 23 }, { name := "Equal", type := 325, offset := 7, embedded := false, tag := "", pkgPath := "", byteOffset := 24 }, { name := "GCData", type := 229, offset := 8, embedded := false, tag := "", pkgPath := "", byteOffset := 32 }, { name := "Str", type := 326, offset := 9, embedded := false, tag := "", pkgPath := "", byteOffset := 40 }, { name := "PtrToThis", type := 327, offset := 10, embedded := false, tag := "", pkgPath := "", byteOffset := 44 }]), 11, 48, some (Value.agg #[Value.int .u64 0, Value.int .u64 0, Value.int .u32 0, Value.int .u8 0, Value.int .u8 0, Value.int .u8 0, Value.int .u8 0, Value.nilFunc, Value.pointer none, Value.int .i32 0, Value.int .i32 0])⟩
theorem ok328 : TyOk Tryz.prog 328 ty328 := ⟨Tryz.underlying328, Tryz.t328, info_of Tryz.type328, rfl, rfl, rfl⟩
def ty329 : TyI := ⟨(.struct #[{ name := "Size_", type := 12, offset := 0, embedded := false, tag := "", pkgPath := "", byteOffset := 0 }, { name := "PtrBytes", type := 12, offset := 1, embedded := false, tag := "", pkgPath := "", byteOffset := 8 }, { name := "Hash", type := 223, offset := 2, embedded := false, tag := "", pkgPath := "", byteOffset := 16 }, { name := "TFlag", type := 324, offset := 3, embedded := false, tag := "", pkgPath := "", byteOffset := 20 }, { name := "Align_", type := 5, offset := 4, embedded := false, tag := "", pkgPath := "", byteOffset := 21 }, { name := "FieldAlign_", type := 5, offset := 5, embedded := false, tag := "", pkgPath := "", byteOffset := 22 }, { name := "Kind_", type := 280, offset := 6, embedded := false, tag := "", pkgPath := "", byteOffset := 23 }, { name := "Equal", type := 325, offset := 7, embedded := false, tag := "", pkgPath := "", byteOffset := 24 }, { name := "GCData", type := 229, offset := 8, embedded := false, tag := "", pkgPath := "", byteOffset := 32 }, { name := "Str", type := 326, offset := 9, embedded := false, tag := "", pkgPath := "", byteOffset := 40 }, { name := "PtrToThis", type := 327, offset := 10, embedded := false, tag := "", pkgPath := "", byteOffset := 44 }]), 11, 48, some (Value.agg #[Value.int .u64 0, Value.int .u64 0, Value.int .u32 0, Value.int .u8 0, Value.int .u8 0, Value.int .u8 0, Value.int .u8 0, Value.nilFunc, Value.pointer none, Value.int .i32 0, Value.int .i32 0])⟩
theorem ok329 : TyOk Tryz.prog 329 ty329 := ⟨Tryz.underlying329, Tryz.t329, info_of Tryz.type329, rfl, rfl, rfl⟩
def ty330 : TyI := ⟨(.struct #[{ name := "label", type := 9, offset := 0, embedded := false, tag := "", pkgPath := "grapnel/vault", byteOffset := 0 }, { name := "text", type := 9, offset := 1, embedded := false, tag := "", pkgPath := "grapnel/vault", byteOffset := 16 }]), 2, 32, some (Value.agg #[Value.string { data := #[] }, Value.string { data := #[] }])⟩
theorem ok330 : TyOk Tryz.prog 330 ty330 := ⟨Tryz.underlying330, Tryz.t330, info_of Tryz.type330, rfl, rfl, rfl⟩
def ty331 : TyI := ⟨(.struct #[{ name := "label", type := 9, offset := 0, embedded := false, tag := "", pkgPath := "grapnel/vault", byteOffset := 0 }, { name := "text", type := 9, offset := 1, embedded := false, tag := "", pkgPath := "grapnel/vault", byteOffset := 16 }]), 2, 32, some (Value.agg #[Value.string { data := #[] }, Value.string { data := #[] }])⟩
theorem ok331 : TyOk Tryz.prog 331 ty331 := ⟨Tryz.underlying331, Tryz.t331, info_of Tryz.type331, rfl, rfl, rfl⟩
def ty332 : TyI := ⟨(.struct #[{ name := "Label", type := 9, offset := 0, embedded := false, tag := "", pkgPath := "", byteOffset := 0 }, { name := "Text", type := 9, offset := 1, embedded := false, tag := "", pkgPath := "", byteOffset := 16 }]), 2, 32, some (Value.agg #[Value.string { data := #[] }, Value.string { data := #[] }])⟩
theorem ok332 : TyOk Tryz.prog 332 ty332 := ⟨Tryz.underlying332, Tryz.t332, info_of Tryz.type332, rfl, rfl, rfl⟩
def ty333 : TyI := ⟨(.struct #[{ name := "Label", type := 9, offset := 0, embedded := false, tag := "", pkgPath := "", byteOffset := 0 }, { name := "Text", type := 9, offset := 1, embedded := false, tag := "", pkgPath := "", byteOffset := 16 }]), 2, 32, some (Value.agg #[Value.string { data := #[] }, Value.string { data := #[] }])⟩
theorem ok333 : TyOk Tryz.prog 333 ty333 := ⟨Tryz.underlying333, Tryz.t333, info_of Tryz.type333, rfl, rfl, rfl⟩
def ty334 : TyI := ⟨(.func #[] #[12] false), 1, 8, some Value.nilFunc⟩
theorem ok334 : TyOk Tryz.prog 334 ty334 := ⟨Tryz.underlying334, Tryz.t334, info_of Tryz.type334, rfl, rfl, rfl⟩
def ty335 : TyI := ⟨(.func #[] #[338] false), 1, 8, some Value.nilFunc⟩
theorem ok335 : TyOk Tryz.prog 335 ty335 := ⟨Tryz.underlying335, Tryz.t335, info_of Tryz.type335, rfl, rfl, rfl⟩
def ty336 : TyI := ⟨(.struct #[{ name := "Method", type := 9, offset := 0, embedded := false, tag := "", pkgPath := "", byteOffset := 0 }, { name := "Kind", type := 280, offset := 1, embedded := false, tag := "", pkgPath := "", byteOffset := 16 }]), 2, 24, some (Value.agg #[Value.string { data := #[] }, Value.int .u8 0])⟩
theorem ok336 : TyOk Tryz.prog 336 ty336 := ⟨Tryz.underlying336, Tryz.t336, info_of Tryz.type336, rfl, rfl, rfl⟩
def ty337 : TyI := ⟨(.struct #[{ name := "Method", type := 9, offset := 0, embedded := false, tag := "", pkgPath := "", byteOffset := 0 }, { name := "Kind", type := 280, offset := 1, embedded := false, tag := "", pkgPath := "", byteOffset := 16 }]), 2, 24, some (Value.agg #[Value.string { data := #[] }, Value.int .u8 0])⟩
theorem ok337 : TyOk Tryz.prog 337 ty337 := ⟨Tryz.underlying337, Tryz.t337, info_of Tryz.type337, rfl, rfl, rfl⟩
def ty338 : TyI := ⟨(.pointer 342), 1, 8, some (Value.pointer none)⟩
theorem ok338 : TyOk Tryz.prog 338 ty338 := ⟨Tryz.underlying338, Tryz.t338, info_of Tryz.type338, rfl, rfl, rfl⟩
def ty339 : TyI := ⟨(.func #[] #[343] false), 1, 8, some Value.nilFunc⟩
theorem ok339 : TyOk Tryz.prog 339 ty339 := ⟨Tryz.underlying339, Tryz.t339, info_of Tryz.type339, rfl, rfl, rfl⟩
def ty340 : TyI := ⟨(.int .u16), 1, 2, some (Value.int .u16 0)⟩
theorem ok340 : TyOk Tryz.prog 340 ty340 := ⟨Tryz.underlying340, Tryz.t340, info_of Tryz.type340, rfl, rfl, rfl⟩
def ty341 : TyI := ⟨(.struct #[{ name := "PkgPath", type := 326, offset := 0, embedded := false, tag := "", pkgPath := "", byteOffset := 0 }, { name := "Mcount", type := 340, offset := 1, embedded := false, tag := "", pkgPath := "", byteOffset := 4 }, { name := "Xcount", type := 340, offset := 2, embedded := false, tag := "", pkgPath := "", byteOffset := 6 }, { name := "Moff", type := 223, offset := 3, embedded := false, tag := "", pkgPath := "", byteOffset := 8 }, { name := "_", type := 223, offset := 4, embedded := false, tag := "", pkgPath := "internal/abi", byteOffset := 12 }]), 5, 16, some (Value.agg #[Value.int .i32 0, Value.int .u16 0, Value.int .u16 0, Value.int .u32 0, Value.int .u32 0])⟩
theorem ok341 : TyOk Tryz.prog 341 ty341 := ⟨Tryz.underlying341, Tryz.t341, info_of Tryz.type341, rfl, rfl, rfl⟩
def ty342 : TyI := ⟨(.struct #[{ name := "PkgPath", type := 326, offset := 0, embedded := false, tag := "", pkgPath := "", byteOffset := 0 }, { name := "Mcount", type := 340, offset := 1, embedded := false, tag := "", pkgPath := "", byteOffset := 4 }, { name := "Xcount", type := 340, offset := 2, embedded := false, tag := "", pkgPath := "", byteOffset := 6 }, { name := "Moff", type := 223, offset := 3, embedded := false, tag := "", pkgPath := "", byteOffset := 8 }, { name := "_", type := 223, offset := 4, embedded := false, tag := "", pkgPath := "internal/abi", byteOffset := 12 }]), 5, 16, some (Value.agg #[Value.int .i32 0, Value.int .u16 0, Value.int .u16 0, Value.int .u32 0, Value.int .u32 0])⟩
theorem ok342 : TyOk Tryz.prog 342 ty342 := ⟨Tryz.underlying342, Tryz.t342, info_of Tryz.type342, rfl, rfl, rfl⟩
def ty343 : TyI := ⟨(.slice 346), 1, 24, some (Value.slice none 0 0)⟩
theorem ok343 : TyOk Tryz.prog 343 ty343 := ⟨Tryz.underlying343, Tryz.t343, info_of Tryz.type343, rfl, rfl, rfl⟩
def ty344 : TyI := ⟨(.int .i32), 1, 4, some (Value.int .i32 0)⟩
theorem ok344 : TyOk Tryz.prog 344 ty344 := ⟨Tryz.underlying344, Tryz.t344, info_of Tryz.type344, rfl, rfl, rfl⟩
def ty345 : TyI := ⟨(.struct #[{ name := "Name", type := 326, offset := 0, embedded := false, tag := "", pkgPath := "", byteOffset := 0 }, { name := "Mtyp", type := 327, offset := 1, embedded := false, tag := "", pkgPath := "", byteOffset := 4 }, { name := "Ifn", type := 344, offset := 2, embedded := false, tag := "", pkgPath := "", byteOffset := 8 }, { name := "Tfn", type := 344, offset := 3, embedded := false, tag := "", pkgPath := "", byteOffset := 12 }]), 4, 16, some (Value.agg #[Value.int .i32 0, Value.int .i32 0, Value.int .i32 0, Value.int .i32 0])⟩
theorem ok345 : TyOk Tryz.prog 345 ty345 := ⟨Tryz.underlying345, Tryz.t345, info_of Tryz.type345, rfl, rfl, rfl⟩
def ty346 : TyI := ⟨(.struct #[{ name := "Name", type := 326, offset := 0, embedded := false, tag := "", pkgPath := "", byteOffset := 0 }, { name := "Mtyp", type := 327, offset := 1, embedded := false, tag := "", pkgPath := "", byteOffset := 4 }, { name := "Ifn", type := 344, offset := 2, embedded := false, tag := "", pkgPath := "", byteOffset := 8 }, { name := "Tfn", type := 344, offset := 3, embedded := false, tag := "", pkgPath := "", byteOffset := 12 }]), 4, 16, some (Value.agg #[Value.int .i32 0, Value.int .i32 0, Value.int .i32 0, Value.int .i32 0])⟩
theorem ok346 : TyOk Tryz.prog 346 ty346 := ⟨Tryz.underlying346, Tryz.t346, info_of Tryz.type346, rfl, rfl, rfl⟩
def ty347 : TyI := ⟨(.pointer 118) , 1, 8, some (Value.pointer none)⟩
theorem ok347 : TyOk Tryz.prog 347 ty347 := ⟨Tryz.underlying347, Tryz.t347, info_of Tryz.type347, rfl, rfl, rfl⟩
def tab : List (Nat × TyI) := [(0, ty0), (1, ty1), (2, ty2), (3, ty3), (4, ty4), (5, ty5), (6, ty6), (7, ty7), (8, ty8), (9, ty9), (10, ty10), (11, ty11), (12, ty12), (13, ty13), (14, ty14), (15, ty15), (16, ty16), (17, ty17), (18, ty18), (19, ty19), (20, ty20), (21, ty21), (22, ty22), (23, ty23), (24, ty24), (25, ty25), (26, ty26), (27, ty27), (28, ty28), (29, ty29), (30, ty30), (31, ty31), (32, ty32), (33, ty33), (34, ty34), (35, ty35), (36, ty36), (37, ty37), (38, ty38), (39, ty39), (40, ty40), (41, ty41), (42, ty42), (43, ty43), (44, ty44), (45, ty45), (46, ty46), (47, ty47), (48, ty48), (49, ty49), (50, ty50), (51, ty51), (52, ty52), (53, ty53), (54, ty54), (55, ty55), (56, ty56), (57, ty57), (58, ty58), (59, ty59), (60, ty60), (61, ty61), (62, ty62), (63, ty63), (64, ty64), (65, ty65), (66, ty66), (67, ty67), (68, ty68), (69, ty69), (70, ty70), (71, ty71), (72, ty72), (73, ty73), (74, ty74), (75, ty75), (76, ty76), (77, ty77), (78, ty78), (79, ty79), (80, ty80), (81, ty81), (82, ty82), (83, ty83), (84, ty84), (85, ty85), (86, ty86), (87, ty87), (88, ty88), (89, ty89), (90, ty90), (91, ty91), (92, ty92), (93, ty93), (94, ty94), (95, ty95), (96, ty96), (97, ty97), (98, ty98), (99, ty99), (100, ty100), (101, ty101), (102, ty102), (103, ty103), (104, ty104), (105, ty105), (106, ty106), (107, ty107), (108, ty108), (109, ty109), (110, ty110), (111, ty111), (112, ty112), (113, ty113), (114, ty114), (115, ty115), (116, ty116), (117, ty117), (118, ty118), (119, ty119), (120, ty120), (121, ty121), (122, ty122), (123, ty123), (124, ty124), (125, ty125), (126, ty126), (127, ty127), (128, ty128), (129, ty129), (130, ty130), (131, ty131), (132, ty132), (133, ty133), (134, ty134), (135, ty135), (136, ty136), (137, ty137), (138, ty138), (139, ty139), (140, ty140), (141, ty141), (142, ty142), (143, ty143), (144, ty144), (145, ty145), (146, ty146), (147, ty147), (148, ty148), (149, ty149), (150, ty150), (151, ty151), (152, ty152), (153, ty153), (154, ty154), (155, ty155), (156, ty156), (157, ty157), (158, ty158), (159, ty159), (160, ty160), (161, ty161), (162, ty162), (163, ty163), (164, ty164), (165, ty165), (166, ty166), (167, ty167), (168, ty168), (169, ty169), (170, ty170), (171, ty171), (172, ty172), (173, ty173), (174, ty174), (175, ty175), (176, ty176), (177, ty177), (178, ty178), (179, ty179), (180, ty180), (181, ty181), (182, ty182), (183, ty183), (184, ty184), (185, ty185), (186, ty186), (187, ty187), (188, ty188), (189, ty189), (190, ty190), (191, ty191), (192, ty192), (193, ty193), (194, ty194), (195, ty195), (196, ty196), (197, ty197), (198, ty198), (199, ty199), (200, ty200), (201, ty201), (202, ty202), (203, ty203), (204, ty204), (205, ty205), (206, ty206), (207, ty207), (208, ty208), (209, ty209), (210, ty210), (211, ty211), (212, ty212), (213, ty213), (214, ty214), (215, ty215), (216, ty216), (217, ty217), (218, ty218), (219, ty219), (220, ty220), (221, ty221), (222, ty222), (223, ty223), (224, ty224), (225, ty225), (226, ty226), (227, ty227), (228, ty228), (229, ty229), (230, ty230), (231, ty231), (232, ty232), (233, ty233), (234, ty234), (235, ty235), (236, ty236), (237, ty237), (238, ty238), (239, ty239), (240, ty240), (241, ty241), (242, ty242), (243, ty243), (244, ty244), (245, ty245), (246, ty246), (247, ty247), (248, ty248), (249, ty249), (250, ty250), (251, ty251), (252, ty252), (253, ty253), (254, ty254), (255, ty255), (256, ty256), (257, ty257), (258, ty258), (259, ty259), (260, ty260), (261, ty261), (262, ty262), (263, ty263), (264, ty264), (265, ty265), (266, ty266), (267, ty267), (268, ty268), (269, ty269), (270, ty270), (271, ty271), (272, ty272), (273, ty273), (274, ty274), (275, ty275), (276, ty276), (277, ty277), (278, ty278), (279, ty279), (280, ty280), (281, ty281), (282, ty282), (283, ty283), (284, ty284), (285, ty285), (286, ty286), (287, ty287), (288, ty288), (289, ty289), (290, ty290), (291, ty291), (292, ty292), (293, ty293), (294, ty294), (295, ty295), (296, ty296), (297, ty297), (298, ty298), (299, ty299), (300, ty300), (301, ty301), (302, ty302), (303, ty303), (304, ty304), (305, ty305), (306, ty306), (307, ty307), (308, ty308), (309, ty309), (310, ty310), (311, ty311), (312, ty312), (313, ty313), (314, ty314), (315, ty315), (316, ty316), (317, ty317), (318, ty318), (319, ty319), (320, ty320), (321, ty321), (322, ty322), (323, ty323), (324, ty324), (325, ty325), (326, ty326), (327, ty327), (328, ty328), (329, ty329), (330, ty330), (331, ty331), (332, ty332), (333, ty333), (334, ty334), (335, ty335), (336, ty336), (337, ty337), (338, ty338), (339, ty339), (340, ty340), (341, ty341), (342, ty342), (343, ty343), (344, ty344), (345, ty345), (346, ty346), (347, ty347)]
theorem tabOk : TabOk Tryz.prog (lookupT tab) := AllTy.ok (.cons ok0 (.cons ok1 (.cons ok2 (.cons ok3 (.cons ok4 (.cons ok5 (.cons ok6 (.cons ok7 (.cons ok8 (.cons ok9 (.cons ok10 (.cons ok11 (.cons ok12 (.cons ok13 (.cons ok14 (.cons ok15 (.cons ok16 (.cons ok17 (.cons ok18 (.cons ok19 (.cons ok20 (.cons ok21 (.cons ok22 (.cons ok23 (.cons ok24 (.cons ok25 (.cons ok26 (.cons ok27 (.cons ok28 (.cons ok29 (.cons ok30 (.cons ok31 (.cons ok32 (.cons ok33 (.cons ok34 (.cons ok35 (.cons ok36 (.cons ok37 (.cons ok38 (.cons ok39 (.cons ok40 (.cons ok41 (.cons ok42 (.cons ok43 (.cons ok44 (.cons ok45 (.cons ok46 (.cons ok47 (.cons ok48 (.cons ok49 (.cons ok50 (.cons ok51 (.cons ok52 (.cons ok53 (.cons ok54 (.cons ok55 (.cons ok56 (.cons ok57 (.cons ok58 (.cons ok59 (.cons ok60 (.cons ok61 (.cons ok62 (.cons ok63 (.cons ok64 (.cons ok65 (.cons ok66 (.cons ok67 (.cons ok68 (.cons ok69 (.cons ok70 (.cons ok71 (.cons ok72 (.cons ok73 (.cons ok74 (.cons ok75 (.cons ok76 (.cons ok77 (.cons ok78 (.cons ok79 (.cons ok80 (.cons ok81 (.cons ok82 (.cons ok83 (.cons ok84 (.cons ok85 (.cons ok86 (.cons ok87 (.cons ok88 (.cons ok89 (.cons ok90 (.cons ok91 (.cons ok92 (.cons ok93 (.cons ok94 (.cons ok95 (.cons ok96 (.cons ok97 (.cons ok98 (.cons ok99 (.cons ok100 (.cons ok101 (.cons ok102 (.cons ok103 (.cons ok104 (.cons ok105 (.cons ok106 (.cons ok107 (.cons ok108 (.cons ok109 (.cons ok110 (.cons ok111 (.cons ok112 (.cons ok113 (.cons ok114 (.cons ok115 (.cons ok116 (.cons ok117 (.cons ok118 (.cons ok119 (.cons ok120 (.cons ok121 (.cons ok122 (.cons ok123 (.cons ok124 (.cons ok125 (.cons ok126 (.cons ok127 (.cons ok128 (.cons ok129 (.cons ok130 (.cons ok131 (.cons ok132 (.cons ok133 (.cons ok134 (.cons ok135 (.cons ok136 (.cons ok137 (.cons ok138 (.cons ok139 (.cons ok140 (.cons ok141 (.cons ok142 (.cons ok143 (.cons ok144 (.cons ok145 (.cons ok146 (.cons ok147 (.cons ok148 (.cons ok149 (.cons ok150 (.cons ok151 (.cons ok152 (.cons ok153 (.cons ok154 (.cons ok155 (.cons ok156 (.cons ok157 (.cons ok158 (.cons ok159 (.cons ok160 (.cons ok161 (.cons ok162 (.cons ok163 (.cons ok164 (.cons ok165 (.cons ok166 (.cons ok167 (.cons ok168 (.cons ok169 (.cons ok170 (.cons ok171 (.cons ok172 (.cons ok173 (.cons ok174 (.cons ok175 (.cons ok176 (.cons ok177 (.cons ok178 (.cons ok179 (.cons ok180 (.cons ok181 (.cons ok182 (.cons ok183 (.cons ok184 (.cons ok185 (.cons ok186 (.cons ok187 (.cons ok188 (.cons ok189 (.cons ok190 (.cons ok191 (.cons ok192 (.cons ok193 (.cons ok194 (.cons ok195 (.cons ok196 (.cons ok197 (.cons ok198 (.cons ok199 (.cons ok200 (.cons ok201 (.cons ok202 (.cons ok203 (.cons ok204 (.cons ok205 (.cons ok206 (.cons ok207 (.cons ok208 (.cons ok209 (.cons ok210 (.cons ok211 (.cons ok212 (.cons ok213 (.cons ok214 (.cons ok215 (.cons ok216 (.cons ok217 (.cons ok218 (.cons ok219 (.cons ok220 (.cons ok221 (.cons ok222 (.cons ok223 (.cons ok224 (.cons ok225 (.cons ok226 (.cons ok227 (.cons ok228 (.cons ok229 (.cons ok230 (.cons ok231 (.cons ok232 (.cons ok233 (.cons ok234 (.cons ok235 (.cons ok236 (.cons ok237 (.cons ok238 (.cons ok239 (.cons ok240 (.cons ok241 (.cons ok242 (.cons ok243 (.cons ok244 (.cons ok245 (.cons ok246 (.cons ok247 (.cons ok248 (.cons ok249 (.cons ok250 (.cons ok251 (.cons ok252 (.cons ok253 (.cons ok254 (.cons ok255 (.cons ok256 (.cons ok257 (.cons ok258 (.cons ok259 (.cons ok260 (.cons ok261 (.cons ok262 (.cons ok263 (.cons ok264 (.cons ok265 (.cons ok266 (.cons ok267 (.cons ok268 (.cons ok269 (.cons ok270 (.cons ok271 (.cons ok272 (.cons ok273 (.cons ok274 (.cons ok275 (.cons ok276 (.cons ok277 (.cons ok278 (.cons ok279 (.cons ok280 (.cons ok281 (.cons ok282 (.cons ok283 (.cons ok284 (.cons ok285 (.cons ok286 (.cons ok287 (.cons ok288 (.cons ok289 (.cons ok290 (.cons ok291 (.cons ok292 (.cons ok293 (.cons ok294 (.cons ok295 (.cons ok296 (.cons ok297 (.cons ok298 (.cons ok299 (.cons ok300 (.cons ok301 (.cons ok302 (.cons ok303 (.cons ok304 (.cons ok305 (.cons ok306 (.cons ok307 (.cons ok308 (.cons ok309 (.cons ok310 (.cons ok311 (.cons ok312 (.cons ok313 (.cons ok314 (.cons ok315 (.cons ok316 (.cons ok317 (.cons ok318 (.cons ok319 (.cons ok320 (.cons ok321 (.cons ok322 (.cons ok323 (.cons ok324 (.cons ok325 (.cons ok326 (.cons ok327 (.cons ok328 (.cons ok329 (.cons ok330 (.cons ok331 (.cons ok332 (.cons ok333 (.cons ok334 (.cons ok335 (.cons ok336 (.cons ok337 (.cons ok338 (.cons ok339 (.cons ok340 (.cons ok341 (.cons ok342 (.cons ok343 (.cons ok344 (.cons ok345 (.cons ok346 (.cons ok347 (.nil)))))))))))))))))))))))))))))))))))))))))))))))))))))))))))))))))))))))))))))))))))))))))))))))))))))))))))))))))))))))))))))))))))))))))))))))))))))))))))))))))))))))))))))))))))))))))))))))))))))))))))))))))))))))))))))))))))))))))))))))))))))))))))))))))))))))))))))))))))))))))))))))))))))))))))))))))))))))))))))))))))))))))))))))))))))))))))))
theorem mixed : Tryz.prog.follows .mixedOrders = true := by kernel_rfl
end Go.Proofs.YtaiocnpecaecdaaGreatDoor.V
