/- The types of this seat's program, as far as its walks ask. -/
import Derived.Test.YtajndpddlpnbkaaVLc
import Derived.Test.YtajndpddlpnbkaaProg
set_option linter.unusedSimpArgs false
namespace Go.Proofs.Ytajndpddlpnbkaa.V
open Go.Proofs.Ytajndpddlpnbkaa.VL
def ty0 : TyI := ⟨(.tuple #[]), 1, 0, some (Value.tuple #[])⟩
theorem ok0 : TyOk Try.prog 0 ty0 := ⟨Try.underlying0, Try.t0, info_of Try.type0, rfl, rfl, rfl⟩
def ty1 : TyI := ⟨(.func #[] #[] false), 1, 8, some Value.nilFunc⟩
theorem ok1 : TyOk Try.prog 1 ty1 := ⟨Try.underlying1, Try.t1, info_of Try.type1, rfl, rfl, rfl⟩
def ty2 : TyI := ⟨(.int .i64), 1, 8, some (Value.int .i64 0)⟩
theorem ok2 : TyOk Try.prog 2 ty2 := ⟨Try.underlying2, Try.t2, info_of Try.type2, rfl, rfl, rfl⟩
def ty3 : TyI := ⟨(.int .i64), 1, 8, some (Value.int .i64 0)⟩
theorem ok3 : TyOk Try.prog 3 ty3 := ⟨Try.underlying3, Try.t3, info_of Try.type3, rfl, rfl, rfl⟩
def ty4 : TyI := ⟨.bool, 1, 1, some (Value.bool false)⟩
theorem ok4 : TyOk Try.prog 4 ty4 := ⟨Try.underlying4, Try.t4, info_of Try.type4, rfl, rfl, rfl⟩
def ty5 : TyI := ⟨(.int .u8), 1, 1, some (Value.int .u8 0)⟩
theorem ok5 : TyOk Try.prog 5 ty5 := ⟨Try.underlying5, Try.t5, info_of Try.type5, rfl, rfl, rfl⟩
def ty6 : TyI := ⟨(.int .u8), 1, 1, some (Value.int .u8 0)⟩
theorem ok6 : TyOk Try.prog 6 ty6 := ⟨Try.underlying6, Try.t6, info_of Try.type6, rfl, rfl, rfl⟩
def ty7 : TyI := ⟨(.struct #[{ name := "x", type := 2, offset := 0, embedded := false, tag := "", pkgPath := "runtime", byteOffset := 0 }, { name := "y", type := 3, offset := 1, embedded := false, tag := "", pkgPath := "runtime", byteOffset := 8 }, { name := "signed", type := 4, offset := 2, embedded := false, tag := "", pkgPath := "runtime", byteOffset := 16 }, { name := "code", type := 6, offset := 3, embedded := false, tag := "", pkgPath := "runtime", byteOffset := 17 }]), 4, 24, some (Value.agg #[Value.int .i64 0, Value.int .i64 0, Value.bool false, Value.int .u8 0])⟩
theorem ok7 : TyOk Try.prog 7 ty7 := ⟨Try.underlying7, Try.t7, info_of Try.type7, rfl, rfl, rfl⟩
def ty8 : TyI := ⟨(.struct #[{ name := "x", type := 2, offset := 0, embedded := false, tag := "", pkgPath := "runtime", byteOffset := 0 }, { name := "y", type := 3, offset := 1, embedded := false, tag := "", pkgPath := "runtime", byteOffset := 8 }, { name := "signed", type := 4, offset := 2, embedded := false, tag := "", pkgPath := "runtime", byteOffset := 16 }, { name := "code", type := 6, offset := 3, embedded := false, tag := "", pkgPath := "runtime", byteOffset := 17 }]), 4, 24, some (Value.agg #[Value.int .i64 0, Value.int .i64 0, Value.bool false, Value.int .u8 0])⟩
theorem ok8 : TyOk Try.prog 8 ty8 := ⟨Try.underlying8, Try.t8, info_of Try.type8, rfl, rfl, rfl⟩
def ty9 : TyI := ⟨.string, 1, 16, some (Value.string { data := #[] })⟩
theorem ok9 : TyOk Try.prog 9 ty9 := ⟨Try.underlying9, Try.t9, info_of Try.type9, rfl, rfl, rfl⟩
def ty10 : TyI := ⟨.string, 1, 16, some (Value.string { data := #[] })⟩
theorem ok10 : TyOk Try.prog 10 ty10 := ⟨Try.underlying10, Try.t10, info_of Try.type10, rfl, rfl, rfl⟩
def ty11 : TyI := ⟨.string, 1, 16, some (Value.string { data := #[] })⟩
theorem ok11 : TyOk Try.prog 11 ty11 := ⟨Try.underlying11, Try.t11, info_of Try.type11, rfl, rfl, rfl⟩
def ty12 : TyI := ⟨(.int .u64), 1, 8, some (Value.int .u64 0)⟩
theorem ok12 : TyOk Try.prog 12 ty12 := ⟨Try.underlying12, Try.t12, info_of Try.type12, rfl, rfl, rfl⟩
def ty13 : TyI := ⟨(.struct #[{ name := "msg", type := 9, offset := 0, embedded := false, tag := "", pkgPath := "runtime", byteOffset := 0 }, { name := "addr", type := 12, offset := 1, embedded := false, tag := "", pkgPath := "runtime", byteOffset := 16 }]), 2, 24, some (Value.agg #[Value.string { data := #[] }, Value.int .u64 0])⟩
theorem ok13 : TyOk Try.prog 13 ty13 := ⟨Try.underlying13, Try.t13, info_of Try.type13, rfl, rfl, rfl⟩
def ty14 : TyI := ⟨(.struct #[{ name := "msg", type := 9, offset := 0, embedded := false, tag := "", pkgPath := "runtime", byteOffset := 0 }, { name := "addr", type := 12, offset := 1, embedded := false, tag := "", pkgPath := "runtime", byteOffset := 16 }]), 2, 24, some (Value.agg #[Value.string { data := #[] }, Value.int .u64 0])⟩
theorem ok14 : TyOk Try.prog 14 ty14 := ⟨Try.underlying14, Try.t14, info_of Try.type14, rfl, rfl, rfl⟩
def ty15 : TyI := ⟨(.pointer 174), 1, 8, some (Value.pointer none)⟩
theorem ok15 : TyOk Try.prog 15 ty15 := ⟨Try.underlying15, Try.t15, info_of Try.type15, rfl, rfl, rfl⟩
def ty16 : TyI := ⟨(.pointer 177), 1, 8, some (Value.pointer none)⟩
theorem ok16 : TyOk Try.prog 16 ty16 := ⟨Try.underlying16, Try.t16, info_of Try.type16, rfl, rfl, rfl⟩
def ty17 : TyI := ⟨(.pointer 184), 1, 8, some (Value.pointer none)⟩
theorem ok17 : TyOk Try.prog 17 ty17 := ⟨Try.underlying17, Try.t17, info_of Try.type17, rfl, rfl, rfl⟩
def ty18 : TyI := ⟨(.struct #[{ name := "typ", type := 17, offset := 0, embedded := false, tag := "", pkgPath := "internal/runtime/maps", byteOffset := 0 }]), 1, 8, some (Value.agg #[Value.pointer none])⟩
theorem ok18 : TyOk Try.prog 18 ty18 := ⟨Try.underlying18, Try.t18, info_of Try.type18, rfl, rfl, rfl⟩
def ty19 : TyI := ⟨(.struct #[{ name := "typ", type := 17, offset := 0, embedded := false, tag := "", pkgPath := "internal/runtime/maps", byteOffset := 0 }]), 1, 8, some (Value.agg #[Value.pointer none])⟩
theorem ok19 : TyOk Try.prog 19 ty19 := ⟨Try.underlying19, Try.t19, info_of Try.type19, rfl, rfl, rfl⟩
def ty20 : TyI := ⟨(.interface #[]), 1, 16, some Value.nilIface⟩
theorem ok20 : TyOk Try.prog 20 ty20 := ⟨Try.underlying20, Try.t20, info_of Try.type20, rfl, rfl, rfl⟩
def ty21 : TyI := ⟨(.int .i32), 1, 4, some (Value.int .i32 0)⟩
theorem ok21 : TyOk Try.prog 21 ty21 := ⟨Try.underlying21, Try.t21, info_of Try.type21, rfl, rfl, rfl⟩
def ty22 : TyI := ⟨(.struct #[{ name := "Volume", type := 3, offset := 0, embedded := false, tag := "", pkgPath := "", byteOffset := 0 }, { name := "Address", type := 3, offset := 1, embedded := false, tag := "", pkgPath := "", byteOffset := 8 }, { name := "Kind", type := 3, offset := 2, embedded := false, tag := "", pkgPath := "", byteOffset := 16 }, { name := "Ino", type := 3, offset := 3, embedded := false, tag := "", pkgPath := "", byteOffset := 24 }, { name := "Gen", type := 3, offset := 4, embedded := false, tag := "", pkgPath := "", byteOffset := 32 }, { name := "Index", type := 3, offset := 5, embedded := false, tag := "", pkgPath := "", byteOffset := 40 }, { name := "Version", type := 3, offset := 6, embedded := false, tag := "", pkgPath := "", byteOffset := 48 }, { name := "Salt", type := 3, offset := 7, embedded := false, tag := "", pkgPath := "", byteOffset := 56 }]), 8, 64, some (Value.agg #[Value.int .i64 0, Value.int .i64 0, Value.int .i64 0, Value.int .i64 0, Value.int .i64 0, Value.int .i64 0, Value.int .i64 0, Value.int .i64 0])⟩
theorem ok22 : TyOk Try.prog 22 ty22 := ⟨Try.underlying22, Try.t22, info_of Try.type22, rfl, rfl, rfl⟩
def ty23 : TyI := ⟨(.struct #[{ name := "Volume", type := 3, offset := 0, embedded := false, tag := "", pkgPath := "", byteOffset := 0 }, { name := "Address", type := 3, offset := 1, embedded := false, tag := "", pkgPath := "", byteOffset := 8 }, { name := "Kind", type := 3, offset := 2, embedded := false, tag := "", pkgPath := "", byteOffset := 16 }, { name := "Ino", type := 3, offset := 3, embedded := false, tag := "", pkgPath := "", byteOffset := 24 }, { name := "Gen", type := 3, offset := 4, embedded := false, tag := "", pkgPath := "", byteOffset := 32 }, { name := "Index", type := 3, offset := 5, embedded := false, tag := "", pkgPath := "", byteOffset := 40 }, { name := "Version", type := 3, offset := 6, embedded := false, tag := "", pkgPath := "", byteOffset := 48 }, { name := "Salt", type := 3, offset := 7, embedded := false, tag := "", pkgPath := "", byteOffset := 56 }]), 8, 64, some (Value.agg #[Value.int .i64 0, Value.int .i64 0, Value.int .i64 0, Value.int .i64 0, Value.int .i64 0, Value.int .i64 0, Value.int .i64 0, Value.int .i64 0])⟩
theorem ok23 : TyOk Try.prog 23 ty23 := ⟨Try.underlying23, Try.t23, info_of Try.type23, rfl, rfl, rfl⟩
def ty24 : TyI := ⟨(.pointer 66), 1, 8, some (Value.pointer none)⟩
theorem ok24 : TyOk Try.prog 24 ty24 := ⟨Try.underlying24, Try.t24, info_of Try.type24, rfl, rfl, rfl⟩
def ty25 : TyI := ⟨(.func #[] #[24] false), 1, 8, some Value.nilFunc⟩
theorem ok25 : TyOk Try.prog 25 ty25 := ⟨Try.underlying25, Try.t25, info_of Try.type25, rfl, rfl, rfl⟩
def ty26 : TyI := ⟨(.int .i64), 1, 8, some (Value.int .i64 0)⟩
theorem ok26 : TyOk Try.prog 26 ty26 := ⟨Try.underlying26, Try.t26, info_of Try.type26, rfl, rfl, rfl⟩
def ty27 : TyI := ⟨(.tuple #[9, 26]), 1, 0, some (Value.tuple #[Value.string { data := #[] }, Value.int .i64 0])⟩
theorem ok27 : TyOk Try.prog 27 ty27 := ⟨Try.underlying27, Try.t27, info_of Try.type27, rfl, rfl, rfl⟩
def ty28 : TyI := ⟨(.func #[24, 23, 9] #[9, 26] false), 1, 8, some Value.nilFunc⟩
theorem ok28 : TyOk Try.prog 28 ty28 := ⟨Try.underlying28, Try.t28, info_of Try.type28, rfl, rfl, rfl⟩
def ty29 : TyI := ⟨(.func #[9] #[9] false), 1, 8, some Value.nilFunc⟩
theorem ok29 : TyOk Try.prog 29 ty29 := ⟨Try.underlying29, Try.t29, info_of Try.type29, rfl, rfl, rfl⟩
def ty30 : TyI := ⟨(.func #[] #[4] false), 1, 8, some Value.nilFunc⟩
theorem ok30 : TyOk Try.prog 30 ty30 := ⟨Try.underlying30, Try.t30, info_of Try.type30, rfl, rfl, rfl⟩
def ty31 : TyI := ⟨(.struct #[{ name := "Ok", type := 4, offset := 0, embedded := false, tag := "", pkgPath := "", byteOffset := 0 }, { name := "Head", type := 23, offset := 1, embedded := false, tag := "", pkgPath := "", byteOffset := 8 }, { name := "Body", type := 9, offset := 9, embedded := false, tag := "", pkgPath := "", byteOffset := 72 }]), 10, 88, some (Value.agg #[Value.bool false, Value.int .i64 0, Value.int .i64 0, Value.int .i64 0, Value.int .i64 0, Value.int .i64 0, Value.int .i64 0, Value.int .i64 0, Value.int .i64 0, Value.string { data := #[] }])⟩
theorem ok31 : TyOk Try.prog 31 ty31 := ⟨Try.underlying31, Try.t31, info_of Try.type31, rfl, rfl, rfl⟩
def ty32 : TyI := ⟨(.struct #[{ name := "Ok", type := 4, offset := 0, embedded := false, tag := "", pkgPath := "", byteOffset := 0 }, { name := "Head", type := 23, offset := 1, embedded := false, tag := "", pkgPath := "", byteOffset := 8 }, { name := "Body", type := 9, offset := 9, embedded := false, tag := "", pkgPath := "", byteOffset := 72 }]), 10, 88, some (Value.agg #[Value.bool false, Value.int .i64 0, Value.int .i64 0, Value.int .i64 0, Value.int .i64 0, Value.int .i64 0, Value.int .i64 0, Value.int .i64 0, Value.int .i64 0, Value.string { data := #[] }])⟩
theorem ok32 : TyOk Try.prog 32 ty32 := ⟨Try.underlying32, Try.t32, info_of Try.type32, rfl, rfl, rfl⟩
def ty33 : TyI := ⟨(.func #[24, 9, 3] #[32] false), 1, 8, some Value.nilFunc⟩
theorem ok33 : TyOk Try.prog 33 ty33 := ⟨Try.underlying33, Try.t33, info_of Try.type33, rfl, rfl, rfl⟩
def ty34 : TyI := ⟨(.func #[23, 9, 3, 23] #[4] false), 1, 8, some Value.nilFunc⟩
theorem ok34 : TyOk Try.prog 34 ty34 := ⟨Try.underlying34, Try.t34, info_of Try.type34, rfl, rfl, rfl⟩
def ty35 : TyI := ⟨(.slice 4), 1, 24, some (Value.slice none 0 0)⟩
theorem ok35 : TyOk Try.prog 35 ty35 := ⟨Try.underlying35, Try.t35, info_of Try.type35, rfl, rfl, rfl⟩
def ty36 : TyI := ⟨(.tuple #[23, 9, 26]), 1, 0, some (Value.tuple #[Value.agg #[Value.int .i64 0, Value.int .i64 0, Value.int .i64 0, Value.int .i64 0, Value.int .i64 0, Value.int .i64 0, Value.int .i64 0, Value.int .i64 0], Value.string { data := #[] }, Value.int .i64 0])⟩
theorem ok36 : TyOk Try.prog 36 ty36 := ⟨Try.underlying36, Try.t36, info_of Try.type36, rfl, rfl, rfl⟩
def ty37 : TyI := ⟨(.func #[24, 9] #[23, 9, 26] false), 1, 8, some Value.nilFunc⟩
theorem ok37 : TyOk Try.prog 37 ty37 := ⟨Try.underlying37, Try.t37, info_of Try.type37, rfl, rfl, rfl⟩
def ty38 : TyI := ⟨(.func #[23, 23, 9, 9, 35] #[4] false), 1, 8, some Value.nilFunc⟩
theorem ok38 : TyOk Try.prog 38 ty38 := ⟨Try.underlying38, Try.t38, info_of Try.type38, rfl, rfl, rfl⟩
def ty39 : TyI := ⟨(.func #[40, 23, 9] #[9, 26] false), 1, 8, some Value.nilFunc⟩
theorem ok39 : TyOk Try.prog 39 ty39 := ⟨Try.underlying39, Try.t39, info_of Try.type39, rfl, rfl, rfl⟩
def ty40 : TyI := ⟨(.pointer 45), 1, 8, some (Value.pointer none)⟩
theorem ok40 : TyOk Try.prog 40 ty40 := ⟨Try.underlying40, Try.t40, info_of Try.type40, rfl, rfl, rfl⟩
def ty41 : TyI := ⟨(.slice 9), 1, 24, some (Value.slice none 0 0)⟩
theorem ok41 : TyOk Try.prog 41 ty41 := ⟨Try.underlying41, Try.t41, info_of Try.type41, rfl, rfl, rfl⟩
def ty42 : TyI := ⟨(.slice 186), 1, 24, some (Value.slice none 0 0)⟩
theorem ok42 : TyOk Try.prog 42 ty42 := ⟨Try.underlying42, Try.t42, info_of Try.type42, rfl, rfl, rfl⟩
def ty43 : TyI := ⟨(.slice 96), 1, 24, some (Value.slice none 0 0)⟩
theorem ok43 : TyOk Try.prog 43 ty43 := ⟨Try.underlying43, Try.t43, info_of Try.type43, rfl, rfl, rfl⟩
def ty44 : TyI := ⟨(.struct #[{ name := "Ideal", type := 4, offset := 0, embedded := false, tag := "", pkgPath := "", byteOffset := 0 }, { name := "Key", type := 9, offset := 1, embedded := false, tag := "", pkgPath := "", byteOffset := 8 }, { name := "Hashes", type := 41, offset := 2, embedded := false, tag := "", pkgPath := "", byteOffset := 24 }, { name := "Pairs", type := 42, offset := 3, embedded := false, tag := "", pkgPath := "", byteOffset := 48 }, { name := "Fours", type := 43, offset := 4, embedded := false, tag := "", pkgPath := "", byteOffset := 72 }]), 5, 96, some (Value.agg #[Value.bool false, Value.string { data := #[] }, Value.slice none 0 0, Value.slice none 0 0, Value.slice none 0 0])⟩
theorem ok44 : TyOk Try.prog 44 ty44 := ⟨Try.underlying44, Try.t44, info_of Try.type44, rfl, rfl, rfl⟩
def ty45 : TyI := ⟨(.struct #[{ name := "Ideal", type := 4, offset := 0, embedded := false, tag := "", pkgPath := "", byteOffset := 0 }, { name := "Key", type := 9, offset := 1, embedded := false, tag := "", pkgPath := "", byteOffset := 8 }, { name := "Hashes", type := 41, offset := 2, embedded := false, tag := "", pkgPath := "", byteOffset := 24 }, { name := "Pairs", type := 42, offset := 3, embedded := false, tag := "", pkgPath := "", byteOffset := 48 }, { name := "Fours", type := 43, offset := 4, embedded := false, tag := "", pkgPath := "", byteOffset := 72 }]), 5, 96, some (Value.agg #[Value.bool false, Value.string { data := #[] }, Value.slice none 0 0, Value.slice none 0 0, Value.slice none 0 0])⟩
theorem ok45 : TyOk Try.prog 45 ty45 := ⟨Try.underlying45, Try.t45, info_of Try.type45, rfl, rfl, rfl⟩
def ty46 : TyI := ⟨(.func #[23, 9, 4] #[4] false), 1, 8, some Value.nilFunc⟩
theorem ok46 : TyOk Try.prog 46 ty46 := ⟨Try.underlying46, Try.t46, info_of Try.type46, rfl, rfl, rfl⟩
def ty47 : TyI := ⟨(.tuple #[24, 26]), 1, 0, some (Value.tuple #[Value.pointer none, Value.int .i64 0])⟩
theorem ok47 : TyOk Try.prog 47 ty47 := ⟨Try.underlying47, Try.t47, info_of Try.type47, rfl, rfl, rfl⟩
def ty48 : TyI := ⟨(.func #[9, 9, 3] #[24, 26] false), 1, 8, some Value.nilFunc⟩
theorem ok48 : TyOk Try.prog 48 ty48 := ⟨Try.underlying48, Try.t48, info_of Try.type48, rfl, rfl, rfl⟩
def ty49 : TyI := ⟨(.tuple #[40, 26]), 1, 0, some (Value.tuple #[Value.pointer none, Value.int .i64 0])⟩
theorem ok49 : TyOk Try.prog 49 ty49 := ⟨Try.underlying49, Try.t49, info_of Try.type49, rfl, rfl, rfl⟩
def ty50 : TyI := ⟨(.func #[9, 9, 3] #[40, 26] false), 1, 8, some Value.nilFunc⟩
theorem ok50 : TyOk Try.prog 50 ty50 := ⟨Try.underlying50, Try.t50, info_of Try.type50, rfl, rfl, rfl⟩
def ty51 : TyI := ⟨(.func #[9, 23, 9] #[4] false), 1, 8, some Value.nilFunc⟩
theorem ok51 : TyOk Try.prog 51 ty51 := ⟨Try.underlying51, Try.t51, info_of Try.type51, rfl, rfl, rfl⟩
def ty52 : TyI := ⟨(.slice 23), 1, 24, some (Value.slice none 0 0)⟩
theorem ok52 : TyOk Try.prog 52 ty52 := ⟨Try.underlying52, Try.t52, info_of Try.type52, rfl, rfl, rfl⟩
def ty53 : TyI := ⟨(.slice 3), 1, 24, some (Value.slice none 0 0)⟩
theorem ok53 : TyOk Try.prog 53 ty53 := ⟨Try.underlying53, Try.t53, info_of Try.type53, rfl, rfl, rfl⟩
def ty54 : TyI := ⟨(.struct #[{ name := "Raws", type := 41, offset := 0, embedded := false, tag := "", pkgPath := "", byteOffset := 0 }, { name := "Masks", type := 53, offset := 1, embedded := false, tag := "", pkgPath := "", byteOffset := 24 }]), 2, 48, some (Value.agg #[Value.slice none 0 0, Value.slice none 0 0])⟩
theorem ok54 : TyOk Try.prog 54 ty54 := ⟨Try.underlying54, Try.t54, info_of Try.type54, rfl, rfl, rfl⟩
def ty55 : TyI := ⟨(.struct #[{ name := "Raws", type := 41, offset := 0, embedded := false, tag := "", pkgPath := "", byteOffset := 0 }, { name := "Masks", type := 53, offset := 1, embedded := false, tag := "", pkgPath := "", byteOffset := 24 }]), 2, 48, some (Value.agg #[Value.slice none 0 0, Value.slice none 0 0])⟩
theorem ok55 : TyOk Try.prog 55 ty55 := ⟨Try.underlying55, Try.t55, info_of Try.type55, rfl, rfl, rfl⟩
def ty56 : TyI := ⟨(.func #[24, 55, 3] #[32] false), 1, 8, some Value.nilFunc⟩
theorem ok56 : TyOk Try.prog 56 ty56 := ⟨Try.underlying56, Try.t56, info_of Try.type56, rfl, rfl, rfl⟩
def ty57 : TyI := ⟨(.func #[52, 53, 3, 3] #[4] false), 1, 8, some Value.nilFunc⟩
theorem ok57 : TyOk Try.prog 57 ty57 := ⟨Try.underlying57, Try.t57, info_of Try.type57, rfl, rfl, rfl⟩
def ty58 : TyI := ⟨(.pointer 63), 1, 8, some (Value.pointer none)⟩
theorem ok58 : TyOk Try.prog 58 ty58 := ⟨Try.underlying58, Try.t58, info_of Try.type58, rfl, rfl, rfl⟩
def ty59 : TyI := ⟨(.map 9 3), 1, 8, some (Value.map none)⟩
theorem ok59 : TyOk Try.prog 59 ty59 := ⟨Try.underlying59, Try.t59, info_of Try.type59, rfl, rfl, rfl⟩
def ty60 : TyI := ⟨(.map 188 3), 1, 8, some (Value.map none)⟩
theorem ok60 : TyOk Try.prog 60 ty60 := ⟨Try.underlying60, Try.t60, info_of Try.type60, rfl, rfl, rfl⟩
def ty61 : TyI := ⟨(.map 112 3), 1, 8, some (Value.map none)⟩
theorem ok61 : TyOk Try.prog 61 ty61 := ⟨Try.underlying61, Try.t61, info_of Try.type61, rfl, rfl, rfl⟩
def ty62 : TyI := ⟨(.struct #[{ name := "hashes", type := 59, offset := 0, embedded := false, tag := "", pkgPath := "grapnel/vault", byteOffset := 0 }, { name := "marks", type := 60, offset := 1, embedded := false, tag := "", pkgPath := "grapnel/vault", byteOffset := 8 }, { name := "seals", type := 61, offset := 2, embedded := false, tag := "", pkgPath := "grapnel/vault", byteOffset := 16 }]), 3, 24, some (Value.agg #[Value.map none, Value.map none, Value.map none])⟩
theorem ok62 : TyOk Try.prog 62 ty62 := ⟨Try.underlying62, Try.t62, info_of Try.type62, rfl, rfl, rfl⟩
def ty63 : TyI := ⟨(.struct #[{ name := "hashes", type := 59, offset := 0, embedded := false, tag := "", pkgPath := "grapnel/vault", byteOffset := 0 }, { name := "marks", type := 60, offset := 1, embedded := false, tag := "", pkgPath := "grapnel/vault", byteOffset := 8 }, { name := "seals", type := 61, offset := 2, embedded := false, tag := "", pkgPath := "grapnel/vault", byteOffset := 16 }]), 3, 24, some (Value.agg #[Value.map none, Value.map none, Value.map none])⟩
theorem ok63 : TyOk Try.prog 63 ty63 := ⟨Try.underlying63, Try.t63, info_of Try.type63, rfl, rfl, rfl⟩
def ty64 : TyI := ⟨(.pointer 75), 1, 8, some (Value.pointer none)⟩
theorem ok64 : TyOk Try.prog 64 ty64 := ⟨Try.underlying64, Try.t64, info_of Try.type64, rfl, rfl, rfl⟩
def ty65 : TyI := ⟨(.struct #[{ name := "real", type := 64, offset := 0, embedded := false, tag := "", pkgPath := "grapnel/vault", byteOffset := 0 }, { name := "ideal", type := 58, offset := 1, embedded := false, tag := "", pkgPath := "grapnel/vault", byteOffset := 8 }]), 2, 16, some (Value.agg #[Value.pointer none, Value.pointer none])⟩
theorem ok65 : TyOk Try.prog 65 ty65 := ⟨Try.underlying65, Try.t65, info_of Try.type65, rfl, rfl, rfl⟩
def ty66 : TyI := ⟨(.struct #[{ name := "real", type := 64, offset := 0, embedded := false, tag := "", pkgPath := "grapnel/vault", byteOffset := 0 }, { name := "ideal", type := 58, offset := 1, embedded := false, tag := "", pkgPath := "grapnel/vault", byteOffset := 8 }]), 2, 16, some (Value.agg #[Value.pointer none, Value.pointer none])⟩
theorem ok66 : TyOk Try.prog 66 ty66 := ⟨Try.underlying66, Try.t66, info_of Try.type66, rfl, rfl, rfl⟩
def ty67 : TyI := ⟨(.func #[23] #[9, 26] false), 1, 8, some Value.nilFunc⟩
theorem ok67 : TyOk Try.prog 67 ty67 := ⟨Try.underlying67, Try.t67, info_of Try.type67, rfl, rfl, rfl⟩
def ty68 : TyI := ⟨(.func #[3, 9, 9, 9] #[9, 26] false), 1, 8, some Value.nilFunc⟩
theorem ok68 : TyOk Try.prog 68 ty68 := ⟨Try.underlying68, Try.t68, info_of Try.type68, rfl, rfl, rfl⟩
def ty69 : TyI := ⟨(.func #[23] #[9] false), 1, 8, some Value.nilFunc⟩
theorem ok69 : TyOk Try.prog 69 ty69 := ⟨Try.underlying69, Try.t69, info_of Try.type69, rfl, rfl, rfl⟩
def ty70 : TyI := ⟨(.slice 5), 1, 24, some (Value.slice none 0 0)⟩
theorem ok70 : TyOk Try.prog 70 ty70 := ⟨Try.underlying70, Try.t70, info_of Try.type70, rfl, rfl, rfl⟩
def ty71 : TyI := ⟨(.tuple #[23, 26]), 1, 0, some (Value.tuple #[Value.agg #[Value.int .i64 0, Value.int .i64 0, Value.int .i64 0, Value.int .i64 0, Value.int .i64 0, Value.int .i64 0, Value.int .i64 0, Value.int .i64 0], Value.int .i64 0])⟩
theorem ok71 : TyOk Try.prog 71 ty71 := ⟨Try.underlying71, Try.t71, info_of Try.type71, rfl, rfl, rfl⟩
def ty72 : TyI := ⟨(.func #[9] #[23, 26] false), 1, 8, some Value.nilFunc⟩
theorem ok72 : TyOk Try.prog 72 ty72 := ⟨Try.underlying72, Try.t72, info_of Try.type72, rfl, rfl, rfl⟩
def ty73 : TyI := ⟨(.func #[9, 9, 3, 3] #[9, 26] false), 1, 8, some Value.nilFunc⟩
theorem ok73 : TyOk Try.prog 73 ty73 := ⟨Try.underlying73, Try.t73, info_of Try.type73, rfl, rfl, rfl⟩
def ty74 : TyI := ⟨(.struct #[{ name := "key", type := 9, offset := 0, embedded := false, tag := "", pkgPath := "grapnel/vault", byteOffset := 0 }]), 1, 16, some (Value.agg #[Value.string { data := #[] }])⟩
theorem ok74 : TyOk Try.prog 74 ty74 := ⟨Try.underlying74, Try.t74, info_of Try.type74, rfl, rfl, rfl⟩
def ty75 : TyI := ⟨(.struct #[{ name := "key", type := 9, offset := 0, embedded := false, tag := "", pkgPath := "grapnel/vault", byteOffset := 0 }]), 1, 16, some (Value.agg #[Value.string { data := #[] }])⟩
theorem ok75 : TyOk Try.prog 75 ty75 := ⟨Try.underlying75, Try.t75, info_of Try.type75, rfl, rfl, rfl⟩
def ty76 : TyI := ⟨(.tuple #[9, 3]), 1, 0, some (Value.tuple #[Value.string { data := #[] }, Value.int .i64 0])⟩
theorem ok76 : TyOk Try.prog 76 ty76 := ⟨Try.underlying76, Try.t76, info_of Try.type76, rfl, rfl, rfl⟩
def ty77 : TyI := ⟨(.func #[55, 3] #[9, 3] false), 1, 8, some Value.nilFunc⟩
theorem ok77 : TyOk Try.prog 77 ty77 := ⟨Try.underlying77, Try.t77, info_of Try.type77, rfl, rfl, rfl⟩
def ty78 : TyI := ⟨(.struct #[{ name := "b", type := 70, offset := 0, embedded := false, tag := "", pkgPath := "grapnel/pack", byteOffset := 0 }, { name := "bad", type := 4, offset := 1, embedded := false, tag := "", pkgPath := "grapnel/pack", byteOffset := 24 }]), 2, 32, some (Value.agg #[Value.slice none 0 0, Value.bool false])⟩
theorem ok78 : TyOk Try.prog 78 ty78 := ⟨Try.underlying78, Try.t78, info_of Try.type78, rfl, rfl, rfl⟩
def ty79 : TyI := ⟨(.struct #[{ name := "b", type := 70, offset := 0, embedded := false, tag := "", pkgPath := "grapnel/pack", byteOffset := 0 }, { name := "bad", type := 4, offset := 1, embedded := false, tag := "", pkgPath := "grapnel/pack", byteOffset := 24 }]), 2, 32, some (Value.agg #[Value.slice none 0 0, Value.bool false])⟩
theorem ok79 : TyOk Try.prog 79 ty79 := ⟨Try.underlying79, Try.t79, info_of Try.type79, rfl, rfl, rfl⟩
def ty80 : TyI := ⟨(.func #[3, 3] #[] false), 1, 8, some Value.nilFunc⟩
theorem ok80 : TyOk Try.prog 80 ty80 := ⟨Try.underlying80, Try.t80, info_of Try.type80, rfl, rfl, rfl⟩
def ty81 : TyI := ⟨(.func #[3] #[9] false), 1, 8, some Value.nilFunc⟩
theorem ok81 : TyOk Try.prog 81 ty81 := ⟨Try.underlying81, Try.t81, info_of Try.type81, rfl, rfl, rfl⟩
def ty82 : TyI := ⟨(.func #[3, 9] #[4] false), 1, 8, some Value.nilFunc⟩
theorem ok82 : TyOk Try.prog 82 ty82 := ⟨Try.underlying82, Try.t82, info_of Try.type82, rfl, rfl, rfl⟩
def ty83 : TyI := ⟨(.func #[3, 9, 9, 9] #[9] false), 1, 8, some Value.nilFunc⟩
theorem ok83 : TyOk Try.prog 83 ty83 := ⟨Try.underlying83, Try.t83, info_of Try.type83, rfl, rfl, rfl⟩
def ty84 : TyI := ⟨(.func #[3, 3] #[9, 26] false), 1, 8, some Value.nilFunc⟩
theorem ok84 : TyOk Try.prog 84 ty84 := ⟨Try.underlying84, Try.t84, info_of Try.type84, rfl, rfl, rfl⟩
def ty85 : TyI := ⟨(.func #[20] #[4] false), 1, 8, some Value.nilFunc⟩
theorem ok85 : TyOk Try.prog 85 ty85 := ⟨Try.underlying85, Try.t85, info_of Try.type85, rfl, rfl, rfl⟩
def ty86 : TyI := ⟨(.struct #[{ name := "s", type := 9, offset := 0, embedded := false, tag := "", pkgPath := "grapnel/pack", byteOffset := 0 }, { name := "at", type := 3, offset := 1, embedded := false, tag := "", pkgPath := "grapnel/pack", byteOffset := 16 }]), 2, 24, some (Value.agg #[Value.string { data := #[] }, Value.int .i64 0])⟩
theorem ok86 : TyOk Try.prog 86 ty86 := ⟨Try.underlying86, Try.t86, info_of Try.type86, rfl, rfl, rfl⟩
def ty87 : TyI := ⟨(.struct #[{ name := "s", type := 9, offset := 0, embedded := false, tag := "", pkgPath := "grapnel/pack", byteOffset := 0 }, { name := "at", type := 3, offset := 1, embedded := false, tag := "", pkgPath := "grapnel/pack", byteOffset := 16 }]), 2, 24, some (Value.agg #[Value.string { data := #[] }, Value.int .i64 0])⟩
theorem ok87 : TyOk Try.prog 87 ty87 := ⟨Try.underlying87, Try.t87, info_of Try.type87, rfl, rfl, rfl⟩
def ty88 : TyI := ⟨(.func #[3] #[3] false), 1, 8, some Value.nilFunc⟩
theorem ok88 : TyOk Try.prog 88 ty88 := ⟨Try.underlying88, Try.t88, info_of Try.type88, rfl, rfl, rfl⟩
def ty89 : TyI := ⟨(.func #[9, 9, 9, 9] #[9, 26] false), 1, 8, some Value.nilFunc⟩
theorem ok89 : TyOk Try.prog 89 ty89 := ⟨Try.underlying89, Try.t89, info_of Try.type89, rfl, rfl, rfl⟩
def ty90 : TyI := ⟨(.tuple #[9, 4]), 1, 0, some (Value.tuple #[Value.string { data := #[] }, Value.bool false])⟩
theorem ok90 : TyOk Try.prog 90 ty90 := ⟨Try.underlying90, Try.t90, info_of Try.type90, rfl, rfl, rfl⟩
def ty91 : TyI := ⟨(.func #[53, 53] #[9, 4] false), 1, 8, some Value.nilFunc⟩
theorem ok91 : TyOk Try.prog 91 ty91 := ⟨Try.underlying91, Try.t91, info_of Try.type91, rfl, rfl, rfl⟩
def ty92 : TyI := ⟨(.func #[] #[53] false), 1, 8, some Value.nilFunc⟩
theorem ok92 : TyOk Try.prog 92 ty92 := ⟨Try.underlying92, Try.t92, info_of Try.type92, rfl, rfl, rfl⟩
def ty93 : TyI := ⟨(.func #[3, 3] #[9] false), 1, 8, some Value.nilFunc⟩
theorem ok93 : TyOk Try.prog 93 ty93 := ⟨Try.underlying93, Try.t93, info_of Try.type93, rfl, rfl, rfl⟩
def ty94 : TyI := ⟨(.func #[96] #[3] false), 1, 8, some Value.nilFunc⟩
theorem ok94 : TyOk Try.prog 94 ty94 := ⟨Try.underlying94, Try.t94, info_of Try.type94, rfl, rfl, rfl⟩
def ty95 : TyI := ⟨(.struct #[{ name := "Salt", type := 3, offset := 0, embedded := false, tag := "", pkgPath := "", byteOffset := 0 }, { name := "Nonce", type := 9, offset := 1, embedded := false, tag := "", pkgPath := "", byteOffset := 8 }, { name := "Ad", type := 9, offset := 2, embedded := false, tag := "", pkgPath := "", byteOffset := 24 }, { name := "Text", type := 9, offset := 3, embedded := false, tag := "", pkgPath := "", byteOffset := 40 }]), 4, 56, some (Value.agg #[Value.int .i64 0, Value.string { data := #[] }, Value.string { data := #[] }, Value.string { data := #[] }])⟩
theorem ok95 : TyOk Try.prog 95 ty95 := ⟨Try.underlying95, Try.t95, info_of Try.type95, rfl, rfl, rfl⟩
def ty96 : TyI := ⟨(.struct #[{ name := "Salt", type := 3, offset := 0, embedded := false, tag := "", pkgPath := "", byteOffset := 0 }, { name := "Nonce", type := 9, offset := 1, embedded := false, tag := "", pkgPath := "", byteOffset := 8 }, { name := "Ad", type := 9, offset := 2, embedded := false, tag := "", pkgPath := "", byteOffset := 24 }, { name := "Text", type := 9, offset := 3, embedded := false, tag := "", pkgPath := "", byteOffset := 40 }]), 4, 56, some (Value.agg #[Value.int .i64 0, Value.string { data := #[] }, Value.string { data := #[] }, Value.string { data := #[] }])⟩
theorem ok96 : TyOk Try.prog 96 ty96 := ⟨Try.underlying96, Try.t96, info_of Try.type96, rfl, rfl, rfl⟩
def ty97 : TyI := ⟨(.int .u32), 1, 4, some (Value.int .u32 0)⟩
theorem ok97 : TyOk Try.prog 97 ty97 := ⟨Try.underlying97, Try.t97, info_of Try.type97, rfl, rfl, rfl⟩
def ty98 : TyI := ⟨(.array 8 97), 8, 32, some (Value.agg #[Value.int .u32 0, Value.int .u32 0, Value.int .u32 0, Value.int .u32 0, Value.int .u32 0, Value.int .u32 0, Value.int .u32 0, Value.int .u32 0])⟩
theorem ok98 : TyOk Try.prog 98 ty98 := ⟨Try.underlying98, Try.t98, info_of Try.type98, rfl, rfl, rfl⟩
def ty99 : TyI := ⟨(.array 64 5), 64, 64, some (Value.agg #[Value.int .u8 0, Value.int .u8 0, Value.int .u8 0, Value.int .u8 0, Value.int .u8 0, Value.int .u8 0, Value.int .u8 0, Value.int .u8 0, Value.int .u8 0, Value.int .u8 0, Value.int .u8 0, Value.int .u8 0, Value.int .u8 0, Value.int .u8 0, Value.int .u8 0, Value.int .u8 0, Value.int .u8 0, Value.int .u8 0, Value.int .u8 0, Value.int .u8 0, Value.int .u8 0, Value.int .u8 0, Value.int .u8 0, Value.int .u8 0, Value.int .u8 0, Value.int .u8 0, Value.int .u8 0, Value.int .u8 0, Value.int .u8 0, Value.int .u8 0, Value.int .u8 0, Value.int .u8 0, Value.int .u8 0, Value.int .u8 0, Value.int .u8 0, Value.int .u8 0, Value.int .u8 0, Value.int .u8 0, Value.int .u8 0, Value.int .u8 0, Value.int .u8 0, Value.int .u8 0, Value.int .u8 0, Value.int .u8 0, Value.int .u8 0, Value.int .u8 0, Value.int .u8 0, Value.int .u8 0, Value.int .u8 0, Value.int .u8 0, Value.int .u8 0, Value.int .u8 0, Value.int .u8 0, Value.int .u8 0, Value.int .u8 0, Value.int .u8 0, Value.int .u8 0, Value.int .u8 0, Value.int .u8 0, Value.int .u8 0, Value.int .u8 0, Value.int .u8 0, Value.int .u8 0, Value.int .u8 0])⟩
theorem ok99 : TyOk Try.prog 99 ty99 := ⟨Try.underlying99, Try.t99, info_of Try.type99, rfl, rfl, rfl⟩
def ty100 : TyI := ⟨(.int .u64), 1, 8, some (Value.int .u64 0)⟩
theorem ok100 : TyOk Try.prog 100 ty100 := ⟨Try.underlying100, Try.t100, info_of Try.type100, rfl, rfl, rfl⟩
def ty101 : TyI := ⟨(.struct #[{ name := "state", type := 98, offset := 0, embedded := false, tag := "", pkgPath := "grapnel/sum", byteOffset := 0 }, { name := "part", type := 99, offset := 8, embedded := false, tag := "", pkgPath := "grapnel/sum", byteOffset := 32 }, { name := "held", type := 3, offset := 72, embedded := false, tag := "", pkgPath := "grapnel/sum", byteOffset := 96 }, { name := "all", type := 100, offset := 73, embedded := false, tag := "", pkgPath := "grapnel/sum", byteOffset := 104 }, { name := "made", type := 4, offset := 74, embedded := false, tag := "", pkgPath := "grapnel/sum", byteOffset := 112 }]), 75, 120, some (Value.agg ([Value.int .u32 0, Value.int .u32 0, Value.int .u32 0, Value.int .u32 0, Value.int .u32 0, Value.int .u32 0, Value.int .u32 0, Value.int .u32 0, Value.int .u8 0, Value.int .u8 0, Value.int .u8 0, Value.int .u8 0, Value.int .u8 0, Value.int .u8 0, Value.int .u8 0, Value.int .u8 0, Value.int .u8 0, Value.int .u8 0, Value.int .u8 0, Value.int .u8 0, Value.int .u8 0, Value.int .u8 0, Value.int .u8 0, Value.int .u8 0, Value.int .u8 0, Value.int .u8 0, Value.int .u8 0, Value.int .u8 0, Value.int .u8 0, Value.int .u8 0, Value.int .u8 0, Value.int .u8 0, Value.int .u8 0, Value.int .u8 0, Value.int .u8 0, Value.int .u8 0, Value.int .u8 0].append [Value.int .u8 0, Value.int .u8 0, Value.int .u8 0, Value.int .u8 0, Value.int .u8 0, Value.int .u8 0, Value.int .u8 0, Value.int .u8 0, Value.int .u8 0, Value.int .u8 0, Value.int .u8 0, Value.int .u8 0, Value.int .u8 0, Value.int .u8 0, Value.int .u8 0, Value.int .u8 0, Value.int .u8 0, Value.int .u8 0, Value.int .u8 0, Value.int .u8 0, Value.int .u8 0, Value.int .u8 0, Value.int .u8 0, Value.int .u8 0, Value.int .u8 0, Value.int .u8 0, Value.int .u8 0, Value.int .u8 0, Value.int .u8 0, Value.int .u8 0, Value.int .u8 0, Value.int .u8 0, Value.int .u8 0, Value.int .u8 0, Value.int .u8 0, Value.int .i64 0, Value.int .u64 0, Value.bool false]).toArray)⟩
theorem ok101 : TyOk Try.prog 101 ty101 := ⟨Try.underlying101, Try.t101, info_of Try.type101, rfl, rfl, rfl⟩
def ty102 : TyI := ⟨(.struct #[{ name := "state", type := 98, offset := 0, embedded := false, tag := "", pkgPath := "grapnel/sum", byteOffset := 0 }, { name := "part", type := 99, offset := 8, embedded := false, tag := "", pkgPath := "grapnel/sum", byteOffset := 32 }, { name := "held", type := 3, offset := 72, embedded := false, tag := "", pkgPath := "grapnel/sum", byteOffset := 96 }, { name := "all", type := 100, offset := 73, embedded := false, tag := "", pkgPath := "grapnel/sum", byteOffset := 104 }, { name := "made", type := 4, offset := 74, embedded := false, tag := "", pkgPath := "grapnel/sum", byteOffset := 112 }]), 75, 120, some (Value.agg ([Value.int .u32 0, Value.int .u32 0, Value.int .u32 0, Value.int .u32 0, Value.int .u32 0, Value.int .u32 0, Value.int .u32 0, Value.int .u32 0, Value.int .u8 0, Value.int .u8 0, Value.int .u8 0, Value.int .u8 0, Value.int .u8 0, Value.int .u8 0, Value.int .u8 0, Value.int .u8 0, Value.int .u8 0, Value.int .u8 0, Value.int .u8 0, Value.int .u8 0, Value.int .u8 0, Value.int .u8 0, Value.int .u8 0, Value.int .u8 0, Value.int .u8 0, Value.int .u8 0, Value.int .u8 0, Value.int .u8 0, Value.int .u8 0, Value.int .u8 0, Value.int .u8 0, Value.int .u8 0, Value.int .u8 0, Value.int .u8 0, Value.int .u8 0, Value.int .u8 0, Value.int .u8 0].append [Value.int .u8 0, Value.int .u8 0, Value.int .u8 0, Value.int .u8 0, Value.int .u8 0, Value.int .u8 0, Value.int .u8 0, Value.int .u8 0, Value.int .u8 0, Value.int .u8 0, Value.int .u8 0, Value.int .u8 0, Value.int .u8 0, Value.int .u8 0, Value.int .u8 0, Value.int .u8 0, Value.int .u8 0, Value.int .u8 0, Value.int .u8 0, Value.int .u8 0, Value.int .u8 0, Value.int .u8 0, Value.int .u8 0, Value.int .u8 0, Value.int .u8 0, Value.int .u8 0, Value.int .u8 0, Value.int .u8 0, Value.int .u8 0, Value.int .u8 0, Value.int .u8 0, Value.int .u8 0, Value.int .u8 0, Value.int .u8 0, Value.int .u8 0, Value.int .i64 0, Value.int .u64 0, Value.bool false]).toArray)⟩
theorem ok102 : TyOk Try.prog 102 ty102 := ⟨Try.underlying102, Try.t102, info_of Try.type102, rfl, rfl, rfl⟩
def ty103 : TyI := ⟨(.tuple #[102, 102]), 1, 0, some (Value.tuple #[Value.agg ([Value.int .u32 0, Value.int .u32 0, Value.int .u32 0, Value.int .u32 0, Value.int .u32 0, Value.int .u32 0, Value.int .u32 0, Value.int .u32 0, Value.int .u8 0, Value.int .u8 0, Value.int .u8 0, Value.int .u8 0, Value.int .u8 0, Value.int .u8 0, Value.int .u8 0, Value.int .u8 0, Value.int .u8 0, Value.int .u8 0, Value.int .u8 0, Value.int .u8 0, Value.int .u8 0, Value.int .u8 0, Value.int .u8 0, Value.int .u8 0, Value.int .u8 0, Value.int .u8 0, Value.int .u8 0, Value.int .u8 0, Value.int .u8 0, Value.int .u8 0, Value.int .u8 0, Value.int .u8 0, Value.int .u8 0, Value.int .u8 0, Value.int .u8 0, Value.int .u8 0, Value.int .u8 0].append [Value.int .u8 0, Value.int .u8 0, Value.int .u8 0, Value.int .u8 0, Value.int .u8 0, Value.int .u8 0, Value.int .u8 0, Value.int .u8 0, Value.int .u8 0, Value.int .u8 0, Value.int .u8 0, Value.int .u8 0, Value.int .u8 0, Value.int .u8 0, Value.int .u8 0, Value.int .u8 0, Value.int .u8 0, Value.int .u8 0, Value.int .u8 0, Value.int .u8 0, Value.int .u8 0, Value.int .u8 0, Value.int .u8 0, Value.int .u8 0, Value.int .u8 0, Value.int .u8 0, Value.int .u8 0, Value.int .u8 0, Value.int .u8 0, Value.int .u8 0, Value.int .u8 0, Value.int .u8 0, Value.int .u8 0, Value.int .u8 0, Value.int .u8 0, Value.int .i64 0, Value.int .u64 0, Value.bool false]).toArray, Value.agg ([Value.int .u32 0, Value.int .u32 0, Value.int .u32 0, Value.int .u32 0, Value.int .u32 0, Value.int .u32 0, Value.int .u32 0, Value.int .u32 0, Value.int .u8 0, Value.int .u8 0, Value.int .u8 0, Value.int .u8 0, Value.int .u8 0, Value.int .u8 0, Value.int .u8 0, Value.int .u8 0, Value.int .u8 0, Value.int .u8 0, Value.int .u8 0, Value.int .u8 0, Value.int .u8 0, Value.int .u8 0, Value.int .u8 0, Value.int .u8 0, Value.int .u8 0, Value.int .u8 0, Value.int .u8 0, Value.int .u8 0, Value.int .u8 0, Value.int .u8 0, Value.int .u8 0, Value.int .u8 0, Value.int .u8 0, Value.int .u8 0, Value.int .u8 0, Value.int .u8 0, Value.int .u8 0].append [Value.int .u8 0, Value.int .u8 0, Value.int .u8 0, Value.int .u8 0, Value.int .u8 0, Value.int .u8 0, Value.int .u8 0, Value.int .u8 0, Value.int .u8 0, Value.int .u8 0, Value.int .u8 0, Value.int .u8 0, Value.int .u8 0, Value.int .u8 0, Value.int .u8 0, Value.int .u8 0, Value.int .u8 0, Value.int .u8 0, Value.int .u8 0, Value.int .u8 0, Value.int .u8 0, Value.int .u8 0, Value.int .u8 0, Value.int .u8 0, Value.int .u8 0, Value.int .u8 0, Value.int .u8 0, Value.int .u8 0, Value.int .u8 0, Value.int .u8 0, Value.int .u8 0, Value.int .u8 0, Value.int .u8 0, Value.int .u8 0, Value.int .u8 0, Value.int .i64 0, Value.int .u64 0, Value.bool false]).toArray])⟩
theorem ok103 : TyOk Try.prog 103 ty103 := ⟨Try.underlying103, Try.t103, info_of Try.type103, rfl, rfl, rfl⟩
def ty104 : TyI := ⟨(.func #[9] #[102, 102] false), 1, 8, some Value.nilFunc⟩
theorem ok104 : TyOk Try.prog 104 ty104 := ⟨Try.underlying104, Try.t104, info_of Try.type104, rfl, rfl, rfl⟩
def ty105 : TyI := ⟨(.func #[102, 102, 9] #[9] false), 1, 8, some Value.nilFunc⟩
theorem ok105 : TyOk Try.prog 105 ty105 := ⟨Try.underlying105, Try.t105, info_of Try.type105, rfl, rfl, rfl⟩
def ty106 : TyI := ⟨(.int .u64), 1, 8, some (Value.int .u64 0)⟩
theorem ok106 : TyOk Try.prog 106 ty106 := ⟨Try.underlying106, Try.t106, info_of Try.type106, rfl, rfl, rfl⟩
def ty107 : TyI := ⟨(.func #[9, 9] #[9] false), 1, 8, some Value.nilFunc⟩
theorem ok107 : TyOk Try.prog 107 ty107 := ⟨Try.underlying107, Try.t107, info_of Try.type107, rfl, rfl, rfl⟩
def ty108 : TyI := ⟨(.func #[] #[9, 3] false), 1, 8, some Value.nilFunc⟩
theorem ok108 : TyOk Try.prog 108 ty108 := ⟨Try.underlying108, Try.t108, info_of Try.type108, rfl, rfl, rfl⟩
def ty109 : TyI := ⟨(.pointer 79), 1, 8, some (Value.pointer none)⟩
theorem ok109 : TyOk Try.prog 109 ty109 := ⟨Try.underlying109, Try.t109, info_of Try.type109, rfl, rfl, rfl⟩
def ty110 : TyI := ⟨(.func #[61, 112] #[3] false), 1, 8, some Value.nilFunc⟩
theorem ok110 : TyOk Try.prog 110 ty110 := ⟨Try.underlying110, Try.t110, info_of Try.type110, rfl, rfl, rfl⟩
def ty111 : TyI := ⟨(.struct #[{ name := "salt", type := 3, offset := 0, embedded := false, tag := "", pkgPath := "grapnel/vault", byteOffset := 0 }, { name := "nonce", type := 9, offset := 1, embedded := false, tag := "", pkgPath := "grapnel/vault", byteOffset := 8 }, { name := "ad", type := 9, offset := 2, embedded := false, tag := "", pkgPath := "grapnel/vault", byteOffset := 24 }, { name := "text", type := 9, offset := 3, embedded := false, tag := "", pkgPath := "grapnel/vault", byteOffset := 40 }]), 4, 56, some (Value.agg #[Value.int .i64 0, Value.string { data := #[] }, Value.string { data := #[] }, Value.string { data := #[] }])⟩
theorem ok111 : TyOk Try.prog 111 ty111 := ⟨Try.underlying111, Try.t111, info_of Try.type111, rfl, rfl, rfl⟩
def ty112 : TyI := ⟨(.struct #[{ name := "salt", type := 3, offset := 0, embedded := false, tag := "", pkgPath := "grapnel/vault", byteOffset := 0 }, { name := "nonce", type := 9, offset := 1, embedded := false, tag := "", pkgPath := "grapnel/vault", byteOffset := 8 }, { name := "ad", type := 9, offset := 2, embedded := false, tag := "", pkgPath := "grapnel/vault", byteOffset := 24 }, { name := "text", type := 9, offset := 3, embedded := false, tag := "", pkgPath := "grapnel/vault", byteOffset := 40 }]), 4, 56, some (Value.agg #[Value.int .i64 0, Value.string { data := #[] }, Value.string { data := #[] }, Value.string { data := #[] }])⟩
theorem ok112 : TyOk Try.prog 112 ty112 := ⟨Try.underlying112, Try.t112, info_of Try.type112, rfl, rfl, rfl⟩
def ty113 : TyI := ⟨(.struct #[]), 0, 0, some (Value.agg #[])⟩
theorem ok113 : TyOk Try.prog 113 ty113 := ⟨Try.underlying113, Try.t113, info_of Try.type113, rfl, rfl, rfl⟩
def ty114 : TyI := ⟨(.struct #[]), 0, 0, some (Value.agg #[])⟩
theorem ok114 : TyOk Try.prog 114 ty114 := ⟨Try.underlying114, Try.t114, info_of Try.type114, rfl, rfl, rfl⟩
def ty115 : TyI := ⟨(.tuple #[114, 4]), 1, 0, some (Value.tuple #[Value.agg #[], Value.bool false])⟩
theorem ok115 : TyOk Try.prog 115 ty115 := ⟨Try.underlying115, Try.t115, info_of Try.type115, rfl, rfl, rfl⟩
def ty116 : TyI := ⟨(.pointer 87), 1, 8, some (Value.pointer none)⟩
theorem ok116 : TyOk Try.prog 116 ty116 := ⟨Try.underlying116, Try.t116, info_of Try.type116, rfl, rfl, rfl⟩
def ty117 : TyI := ⟨(.tuple #[3, 4]), 1, 0, some (Value.tuple #[Value.int .i64 0, Value.bool false])⟩
theorem ok117 : TyOk Try.prog 117 ty117 := ⟨Try.underlying117, Try.t117, info_of Try.type117, rfl, rfl, rfl⟩
def ty118 : TyI := ⟨(.func #[9, 9] #[4] false), 1, 8, some Value.nilFunc⟩
theorem ok118 : TyOk Try.prog 118 ty118 := ⟨Try.underlying118, Try.t118, info_of Try.type118, rfl, rfl, rfl⟩
def ty119 : TyI := ⟨(.func #[9, 9, 9, 9] #[9] false), 1, 8, some Value.nilFunc⟩
theorem ok119 : TyOk Try.prog 119 ty119 := ⟨Try.underlying119, Try.t119, info_of Try.type119, rfl, rfl, rfl⟩
def ty120 : TyI := ⟨(.func #[9, 9, 3, 9] #[9, 26] false), 1, 8, some Value.nilFunc⟩
theorem ok120 : TyOk Try.prog 120 ty120 := ⟨Try.underlying120, Try.t120, info_of Try.type120, rfl, rfl, rfl⟩
def ty121 : TyI := ⟨(.func #[9, 9, 3] #[9, 26] false), 1, 8, some Value.nilFunc⟩
theorem ok121 : TyOk Try.prog 121 ty121 := ⟨Try.underlying121, Try.t121, info_of Try.type121, rfl, rfl, rfl⟩
def ty122 : TyI := ⟨(.pointer 102), 1, 8, some (Value.pointer none)⟩
theorem ok122 : TyOk Try.prog 122 ty122 := ⟨Try.underlying122, Try.t122, info_of Try.type122, rfl, rfl, rfl⟩
def ty123 : TyI := ⟨(.func #[] #[122] false), 1, 8, some Value.nilFunc⟩
theorem ok123 : TyOk Try.prog 123 ty123 := ⟨Try.underlying123, Try.t123, info_of Try.type123, rfl, rfl, rfl⟩
def ty124 : TyI := ⟨(.func #[9] #[] false), 1, 8, some Value.nilFunc⟩
theorem ok124 : TyOk Try.prog 124 ty124 := ⟨Try.underlying124, Try.t124, info_of Try.type124, rfl, rfl, rfl⟩
def ty125 : TyI := ⟨(.func #[] #[9] false), 1, 8, some Value.nilFunc⟩
theorem ok125 : TyOk Try.prog 125 ty125 := ⟨Try.underlying125, Try.t125, info_of Try.type125, rfl, rfl, rfl⟩
def ty126 : TyI := ⟨(.func #[9, 3] #[9] false), 1, 8, some Value.nilFunc⟩
theorem ok126 : TyOk Try.prog 126 ty126 := ⟨Try.underlying126, Try.t126, info_of Try.type126, rfl, rfl, rfl⟩
def ty127 : TyI := ⟨(.func #[9, 3] #[9, 26] false), 1, 8, some Value.nilFunc⟩
theorem ok127 : TyOk Try.prog 127 ty127 := ⟨Try.underlying127, Try.t127, info_of Try.type127, rfl, rfl, rfl⟩
def ty128 : TyI := ⟨(.func #[9, 9, 97] #[99] false), 1, 8, some Value.nilFunc⟩
theorem ok128 : TyOk Try.prog 128 ty128 := ⟨Try.underlying128, Try.t128, info_of Try.type128, rfl, rfl, rfl⟩
def ty129 : TyI := ⟨(.func #[9, 9] #[9, 26] false), 1, 8, some Value.nilFunc⟩
theorem ok129 : TyOk Try.prog 129 ty129 := ⟨Try.underlying129, Try.t129, info_of Try.type129, rfl, rfl, rfl⟩
def ty130 : TyI := ⟨(.func #[9, 9, 3] #[9] false), 1, 8, some Value.nilFunc⟩
theorem ok130 : TyOk Try.prog 130 ty130 := ⟨Try.underlying130, Try.t130, info_of Try.type130, rfl, rfl, rfl⟩
def ty131 : TyI := ⟨(.func #[98, 99] #[98] false), 1, 8, some Value.nilFunc⟩
theorem ok131 : TyOk Try.prog 131 ty131 := ⟨Try.underlying131, Try.t131, info_of Try.type131, rfl, rfl, rfl⟩
def ty132 : TyI := ⟨(.array 8 5), 8, 8, some (Value.agg #[Value.int .u8 0, Value.int .u8 0, Value.int .u8 0, Value.int .u8 0, Value.int .u8 0, Value.int .u8 0, Value.int .u8 0, Value.int .u8 0])⟩
theorem ok132 : TyOk Try.prog 132 ty132 := ⟨Try.underlying132, Try.t132, info_of Try.type132, rfl, rfl, rfl⟩
def ty133 : TyI := ⟨(.func #[9] #[70] false), 1, 8, some Value.nilFunc⟩
theorem ok133 : TyOk Try.prog 133 ty133 := ⟨Try.underlying133, Try.t133, info_of Try.type133, rfl, rfl, rfl⟩
def ty134 : TyI := ⟨(.func #[70] #[53] false), 1, 8, some Value.nilFunc⟩
theorem ok134 : TyOk Try.prog 134 ty134 := ⟨Try.underlying134, Try.t134, info_of Try.type134, rfl, rfl, rfl⟩
def ty135 : TyI := ⟨(.func #[3, 3] #[3] false), 1, 8, some Value.nilFunc⟩
theorem ok135 : TyOk Try.prog 135 ty135 := ⟨Try.underlying135, Try.t135, info_of Try.type135, rfl, rfl, rfl⟩
def ty136 : TyI := ⟨(.tuple #[106, 106]), 1, 0, some (Value.tuple #[Value.int .u64 0, Value.int .u64 0])⟩
theorem ok136 : TyOk Try.prog 136 ty136 := ⟨Try.underlying136, Try.t136, info_of Try.type136, rfl, rfl, rfl⟩
def ty137 : TyI := ⟨(.func #[106, 106] #[106, 106] false), 1, 8, some Value.nilFunc⟩
theorem ok137 : TyOk Try.prog 137 ty137 := ⟨Try.underlying137, Try.t137, info_of Try.type137, rfl, rfl, rfl⟩
def ty138 : TyI := ⟨(.pointer 140), 1, 8, some (Value.pointer none)⟩
theorem ok138 : TyOk Try.prog 138 ty138 := ⟨Try.underlying138, Try.t138, info_of Try.type138, rfl, rfl, rfl⟩
def ty139 : TyI := ⟨(.struct #[{ name := "addr", type := 138, offset := 0, embedded := false, tag := "", pkgPath := "strings", byteOffset := 0 }, { name := "buf", type := 70, offset := 1, embedded := false, tag := "", pkgPath := "strings", byteOffset := 8 }]), 2, 32, some (Value.agg #[Value.pointer none, Value.slice none 0 0])⟩
theorem ok139 : TyOk Try.prog 139 ty139 := ⟨Try.underlying139, Try.t139, info_of Try.type139, rfl, rfl, rfl⟩
def ty140 : TyI := ⟨(.struct #[{ name := "addr", type := 138, offset := 0, embedded := false, tag := "", pkgPath := "strings", byteOffset := 0 }, { name := "buf", type := 70, offset := 1, embedded := false, tag := "", pkgPath := "strings", byteOffset := 8 }]), 2, 32, some (Value.agg #[Value.pointer none, Value.slice none 0 0])⟩
theorem ok140 : TyOk Try.prog 140 ty140 := ⟨Try.underlying140, Try.t140, info_of Try.type140, rfl, rfl, rfl⟩
def ty141 : TyI := ⟨(.func #[3] #[] false), 1, 8, some Value.nilFunc⟩
theorem ok141 : TyOk Try.prog 141 ty141 := ⟨Try.underlying141, Try.t141, info_of Try.type141, rfl, rfl, rfl⟩
def ty142 : TyI := ⟨(.interface #[("Error", 125)]), 1, 16, some Value.nilIface⟩
theorem ok142 : TyOk Try.prog 142 ty142 := ⟨Try.underlying142, Try.t142, info_of Try.type142, rfl, rfl, rfl⟩
def ty143 : TyI := ⟨(.interface #[("Error", 125)]), 1, 16, some Value.nilIface⟩
theorem ok143 : TyOk Try.prog 143 ty143 := ⟨Try.underlying143, Try.t143, info_of Try.type143, rfl, rfl, rfl⟩
def ty144 : TyI := ⟨(.tuple #[3, 143]), 1, 0, some (Value.tuple #[Value.int .i64 0, Value.nilIface])⟩
theorem ok144 : TyOk Try.prog 144 ty144 := ⟨Try.underlying144, Try.t144, info_of Try.type144, rfl, rfl, rfl⟩
def ty145 : TyI := ⟨(.func #[9] #[3, 143] false), 1, 8, some Value.nilFunc⟩
theorem ok145 : TyOk Try.prog 145 ty145 := ⟨Try.underlying145, Try.t145, info_of Try.type145, rfl, rfl, rfl⟩
def ty146 : TyI := ⟨(.func #[] #[3] false), 1, 8, some Value.nilFunc⟩
theorem ok146 : TyOk Try.prog 146 ty146 := ⟨Try.underlying146, Try.t146, info_of Try.type146, rfl, rfl, rfl⟩
def ty147 : TyI := ⟨(.array 16 97), 16, 64, some (Value.agg #[Value.int .u32 0, Value.int .u32 0, Value.int .u32 0, Value.int .u32 0, Value.int .u32 0, Value.int .u32 0, Value.int .u32 0, Value.int .u32 0, Value.int .u32 0, Value.int .u32 0, Value.int .u32 0, Value.int .u32 0, Value.int .u32 0, Value.int .u32 0, Value.int .u32 0, Value.int .u32 0])⟩
theorem ok147 : TyOk Try.prog 147 ty147 := ⟨Try.underlying147, Try.t147, info_of Try.type147, rfl, rfl, rfl⟩
def ty148 : TyI := ⟨(.func #[9, 3] #[97] false), 1, 8, some Value.nilFunc⟩
theorem ok148 : TyOk Try.prog 148 ty148 := ⟨Try.underlying148, Try.t148, info_of Try.type148, rfl, rfl, rfl⟩
def ty149 : TyI := ⟨(.func #[150, 3, 3, 3, 3] #[] false), 1, 8, some Value.nilFunc⟩
theorem ok149 : TyOk Try.prog 149 ty149 := ⟨Try.underlying149, Try.t149, info_of Try.type149, rfl, rfl, rfl⟩
def ty150 : TyI := ⟨(.pointer 147), 1, 8, some (Value.pointer none)⟩
theorem ok150 : TyOk Try.prog 150 ty150 := ⟨Try.underlying150, Try.t150, info_of Try.type150, rfl, rfl, rfl⟩
def ty151 : TyI := ⟨(.array 17 5), 17, 17, some (Value.agg #[Value.int .u8 0, Value.int .u8 0, Value.int .u8 0, Value.int .u8 0, Value.int .u8 0, Value.int .u8 0, Value.int .u8 0, Value.int .u8 0, Value.int .u8 0, Value.int .u8 0, Value.int .u8 0, Value.int .u8 0, Value.int .u8 0, Value.int .u8 0, Value.int .u8 0, Value.int .u8 0, Value.int .u8 0])⟩
theorem ok151 : TyOk Try.prog 151 ty151 := ⟨Try.underlying151, Try.t151, info_of Try.type151, rfl, rfl, rfl⟩
def ty152 : TyI := ⟨(.array 5 100), 5, 40, some (Value.agg #[Value.int .u64 0, Value.int .u64 0, Value.int .u64 0, Value.int .u64 0, Value.int .u64 0])⟩
theorem ok152 : TyOk Try.prog 152 ty152 := ⟨Try.underlying152, Try.t152, info_of Try.type152, rfl, rfl, rfl⟩
def ty153 : TyI := ⟨(.func #[151] #[152] false), 1, 8, some Value.nilFunc⟩
theorem ok153 : TyOk Try.prog 153 ty153 := ⟨Try.underlying153, Try.t153, info_of Try.type153, rfl, rfl, rfl⟩
def ty154 : TyI := ⟨(.func #[152, 152] #[152] false), 1, 8, some Value.nilFunc⟩
theorem ok154 : TyOk Try.prog 154 ty154 := ⟨Try.underlying154, Try.t154, info_of Try.type154, rfl, rfl, rfl⟩
def ty155 : TyI := ⟨(.func #[152] #[152] false), 1, 8, some Value.nilFunc⟩
theorem ok155 : TyOk Try.prog 155 ty155 := ⟨Try.underlying155, Try.t155, info_of Try.type155, rfl, rfl, rfl⟩
def ty156 : TyI := ⟨(.func #[9, 3] #[3] false), 1, 8, some Value.nilFunc⟩
theorem ok156 : TyOk Try.prog 156 ty156 := ⟨Try.underlying156, Try.t156, info_of Try.type156, rfl, rfl, rfl⟩
def ty157 : TyI := ⟨(.func #[53, 3, 3, 3, 3] #[53] false), 1, 8, some Value.nilFunc⟩
theorem ok157 : TyOk Try.prog 157 ty157 := ⟨Try.underlying157, Try.t157, info_of Try.type157, rfl, rfl, rfl⟩
def ty158 : TyI := ⟨(.func #[9, 3] #[53] false), 1, 8, some Value.nilFunc⟩
theorem ok158 : TyOk Try.prog 158 ty158 := ⟨Try.underlying158, Try.t158, info_of Try.type158, rfl, rfl, rfl⟩
def ty159 : TyI := ⟨(.func #[53, 53] #[53] false), 1, 8, some Value.nilFunc⟩
theorem ok159 : TyOk Try.prog 159 ty159 := ⟨Try.underlying159, Try.t159, info_of Try.type159, rfl, rfl, rfl⟩
def ty160 : TyI := ⟨(.func #[53] #[53] false), 1, 8, some Value.nilFunc⟩
theorem ok160 : TyOk Try.prog 160 ty160 := ⟨Try.underlying160, Try.t160, info_of Try.type160, rfl, rfl, rfl⟩
def ty161 : TyI := ⟨(.array 64 97), 64, 256, some (Value.agg #[Value.int .u32 0, Value.int .u32 0, Value.int .u32 0, Value.int .u32 0, Value.int .u32 0, Value.int .u32 0, Value.int .u32 0, Value.int .u32 0, Value.int .u32 0, Value.int .u32 0, Value.int .u32 0, Value.int .u32 0, Value.int .u32 0, Value.int .u32 0, Value.int .u32 0, Value.int .u32 0, Value.int .u32 0, Value.int .u32 0, Value.int .u32 0, Value.int .u32 0, Value.int .u32 0, Value.int .u32 0, Value.int .u32 0, Value.int .u32 0, Value.int .u32 0, Value.int .u32 0, Value.int .u32 0, Value.int .u32 0, Value.int .u32 0, Value.int .u32 0, Value.int .u32 0, Value.int .u32 0, Value.int .u32 0, Value.int .u32 0, Value.int .u32 0, Value.int .u32 0, Value.int .u32 0, Value.int .u32 0, Value.int .u32 0, Value.int .u32 0, Value.int .u32 0, Value.int .u32 0, Value.int .u32 0, Value.int .u32 0, Value.int .u32 0, Value.int .u32 0, Value.int .u32 0, Value.int .u32 0, Value.int .u32 0, Value.int .u32 0, Value.int .u32 0, Value.int .u32 0, Value.int .u32 0, Value.int .u32 0, Value.int .u32 0, Value.int .u32 0, Value.int .u32 0, Value.int .u32 0, Value.int .u32 0, Value.int .u32 0, Value.int .u32 0, Value.int .u32 0, Value.int .u32 0, Value.int .u32 0])⟩
theorem ok161 : TyOk Try.prog 161 ty161 := ⟨Try.underlying161, Try.t161, info_of Try.type161, rfl, rfl, rfl⟩
def ty162 : TyI := ⟨(.func #[97, 3] #[97] false), 1, 8, some Value.nilFunc⟩
theorem ok162 : TyOk Try.prog 162 ty162 := ⟨Try.underlying162, Try.t162, info_of Try.type162, rfl, rfl, rfl⟩
def ty163 : TyI := ⟨(.func #[] #[161] false), 1, 8, some Value.nilFunc⟩
theorem ok163 : TyOk Try.prog 163 ty163 := ⟨Try.underlying163, Try.t163, info_of Try.type163, rfl, rfl, rfl⟩
def ty164 : TyI := ⟨(.tuple #[97, 97]), 1, 0, some (Value.tuple #[Value.int .u32 0, Value.int .u32 0])⟩
theorem ok164 : TyOk Try.prog 164 ty164 := ⟨Try.underlying164, Try.t164, info_of Try.type164, rfl, rfl, rfl⟩
def ty165 : TyI := ⟨(.func #[97, 97] #[97, 97] false), 1, 8, some Value.nilFunc⟩
theorem ok165 : TyOk Try.prog 165 ty165 := ⟨Try.underlying165, Try.t165, info_of Try.type165, rfl, rfl, rfl⟩
def ty166 : TyI := ⟨(.tuple #[100, 100]), 1, 0, some (Value.tuple #[Value.int .u64 0, Value.int .u64 0])⟩
theorem ok166 : TyOk Try.prog 166 ty166 := ⟨Try.underlying166, Try.t166, info_of Try.type166, rfl, rfl, rfl⟩
def ty167 : TyI := ⟨(.func #[100, 100] #[100, 100] false), 1, 8, some Value.nilFunc⟩
theorem ok167 : TyOk Try.prog 167 ty167 := ⟨Try.underlying167, Try.t167, info_of Try.type167, rfl, rfl, rfl⟩
def ty168 : TyI := ⟨(.pointer 5), 1, 8, some (Value.pointer none)⟩
theorem ok168 : TyOk Try.prog 168 ty168 := ⟨Try.underlying168, Try.t168, info_of Try.type168, rfl, rfl, rfl⟩
def ty169 : TyI := ⟨(.func #[53, 53] #[4] false), 1, 8, some Value.nilFunc⟩
theorem ok169 : TyOk Try.prog 169 ty169 := ⟨Try.underlying169, Try.t169, info_of Try.type169, rfl, rfl, rfl⟩
def ty170 : TyI := ⟨.unsafePointer, 1, 8, some (Value.pointer none)⟩
theorem ok170 : TyOk Try.prog 170 ty170 := ⟨Try.underlying170, Try.t170, info_of Try.type170, rfl, rfl, rfl⟩
def ty171 : TyI := ⟨(.func #[170] #[170] false), 1, 8, some Value.nilFunc⟩
theorem ok171 : TyOk Try.prog 171 ty171 := ⟨Try.underlying171, Try.t171, info_of Try.type171, rfl, rfl, rfl⟩
def ty172 : TyI := ⟨(.func #[3] #[70] false), 1, 8, some Value.nilFunc⟩
theorem ok172 : TyOk Try.prog 172 ty172 := ⟨Try.underlying172, Try.t172, info_of Try.type172, rfl, rfl, rfl⟩
def ty173 : TyI := ⟨(.struct #[{ name := "_interface", type := 17, offset := 0, embedded := false, tag := "", pkgPath := "runtime", byteOffset := 0 }, { name := "concrete", type := 17, offset := 1, embedded := false, tag := "", pkgPath := "runtime", byteOffset := 8 }, { name := "asserted", type := 17, offset := 2, embedded := false, tag := "", pkgPath := "runtime", byteOffset := 16 }, { name := "missingMethod", type := 9, offset := 3, embedded := false, tag := "", pkgPath := "runtime", byteOffset := 24 }]), 4, 40, some (Value.agg #[Value.pointer none, Value.pointer none, Value.pointer none, Value.string { data := #[] }])⟩
theorem ok173 : TyOk Try.prog 173 ty173 := ⟨Try.underlying173, Try.t173, info_of Try.type173, rfl, rfl, rfl⟩
def ty174 : TyI := ⟨(.struct #[{ name := "_interface", type := 17, offset := 0, embedded := false, tag := "", pkgPath := "runtime", byteOffset := 0 }, { name := "concrete", type := 17, offset := 1, embedded := false, tag := "", pkgPath := "runtime", byteOffset := 8 }, { name := "asserted", type := 17, offset := 2, embedded := false, tag := "", pkgPath := "runtime", byteOffset := 16 }, { name := "missingMethod", type := 9, offset := 3, embedded := false, tag := "", pkgPath := "runtime", byteOffset := 24 }]), 4, 40, some (Value.agg #[Value.pointer none, Value.pointer none, Value.pointer none, Value.string { data := #[] }])⟩
theorem ok174 : TyOk Try.prog 174 ty174 := ⟨Try.underlying174, Try.t174, info_of Try.type174, rfl, rfl, rfl⟩
def ty175 : TyI := ⟨(.array 0 16), 0, 0, some (Value.agg #[])⟩
theorem ok175 : TyOk Try.prog 175 ty175 := ⟨Try.underlying175, Try.t175, info_of Try.type175, rfl, rfl, rfl⟩
def ty176 : TyI := ⟨(.struct #[{ name := "_", type := 175, offset := 0, embedded := false, tag := "", pkgPath := "runtime", byteOffset := 0 }]), 0, 0, some (Value.agg #[])⟩
theorem ok176 : TyOk Try.prog 176 ty176 := ⟨Try.underlying176, Try.t176, info_of Try.type176, rfl, rfl, rfl⟩
def ty177 : TyI := ⟨(.struct #[{ name := "_", type := 175, offset := 0, embedded := false, tag := "", pkgPath := "runtime", byteOffset := 0 }]), 0, 0, some (Value.agg #[])⟩
theorem ok177 : TyOk Try.prog 177 ty177 := ⟨Try.underlying177, Try.t177, info_of Try.type177, rfl, rfl, rfl⟩
def ty178 : TyI := ⟨(.int .u8), 1, 1, some (Value.int .u8 0)⟩
theorem ok178 : TyOk Try.prog 178 ty178 := ⟨Try.underlying178, Try.t178, info_of Try.type178, rfl, rfl, rfl⟩
def ty179 : TyI := ⟨(.int .u8), 1, 1, some (Value.int .u8 0)⟩
theorem ok179 : TyOk Try.prog 179 ty179 := ⟨Try.underlying179, Try.t179, info_of Try.type179, rfl, rfl, rfl⟩
def ty180 : TyI := ⟨(.func #[170, 170] #[4] false), 1, 8, some Value.nilFunc⟩
theorem ok180 : TyOk Try.prog 180 ty180 := ⟨Try.underlying180, Try.t180, info_of Try.type180, rfl, rfl, rfl⟩
def ty181 : TyI := ⟨(.int .i32), 1, 4, some (Value.int .i32 0)⟩
theorem ok181 : TyOk Try.prog 181 ty181 := ⟨Try.underlying181, Try.t181, info_of Try.type181, rfl, rfl, rfl⟩
def ty182 : TyI := ⟨(.int .i32), 1, 4, some (Value.int .i32 0)⟩
theorem ok182 : TyOk Try.prog 182 ty182 := ⟨Try.underlying182, Try.t182, info_of Try.type182, rfl, rfl, rfl⟩
def ty183 : TyI := ⟨(.struct #[{ name := "Size_", type := 12, offset := 0, embedded := false, tag := "", pkgPath := "", byteOffset := 0 }, { name := "PtrBytes", type := 12, offset := 1, embedded := false, tag := "", pkgPath := "", byteOffset := 8 }, { name := "Hash", type := 97, offset := 2, embedded := false, tag := "", pkgPath := "", byteOffset := 16 }, { name := "TFlag", type := 178, offset := 3, embedded := false, tag := "", pkgPath := "", byteOffset := 20 }, { name := "Align_", type := 5, offset := 4, embedded := false, tag := "", pkgPath := "", byteOffset := 21 }, { name := "FieldAlign_", type := 5, offset := 5, embedded := false, tag := "", pkgPath := "", byteOffset := 22 }, { name := "Kind_", type := 179, offset := 6, embedded := false, tag := "", pkgPath := "", byteOffset := 23 }, { name := "Equal", type := 180, offset := 7, embedded := false, tag := "", pkgPath := "", byteOffset := 24 }, { name := "GCData", type := 168, offset := 8, embedded := false, tag := "", pkgPath := "", byteOffset := 32 }, { name := "Str", type := 181, offset := 9, embedded := false, tag := "", pkgPath := "", byteOffset := 40 }, { name := "PtrToThis", type := 182, offset := 10, embedded := false, tag := "", pkgPath := "", byteOffset := 44 }]), 11, 48, some (Value.agg #[Value.int .u64 0, Value.int .u64 0, Value.int .u32 0, Value.int .u8 0, Value.int .u8 0, Value.int .u8 0, Value.int .u8 0, Value.nilFunc, Value.pointer none, Value.int .i32 0, Value.int .i32 0])⟩
theorem ok183 : TyOk Try.prog 183 ty183 := ⟨Try.underlying183, Try.t183, info_of Try.type183, rfl, rfl, rfl⟩
def ty184 : TyI := ⟨(.struct #[{ name := "Size_", type := 12, offset := 0, embedded := false, tag := "", pkgPath := "", byteOffset := 0 }, { name := "PtrBytes", type := 12, offset := 1, embedded := false, tag := "", pkgPath := "", byteOffset := 8 }, { name := "Hash", type := 97, offset := 2, embedded := false, tag := "", pkgPath := "", byteOffset := 16 }, { name := "TFlag", type := 178, offset := 3, embedded := false, tag := "", pkgPath := "", byteOffset := 20 }, { name := "Align_", type := 5, offset := 4, embedded := false, tag := "", pkgPath := "", byteOffset := 21 }, { name := "FieldAlign_", type := 5, offset := 5, embedded := false, tag := "", pkgPath := "", byteOffset := 22 }, { name := "Kind_", type := 179, offset := 6, embedded := false, tag := "", pkgPath := "", byteOffset := 23 }, { name := "Equal", type := 180, offset := 7, embedded := false, tag := "", pkgPath := "", byteOffset := 24 }, { name := "GCData", type := 168, offset := 8, embedded := false, tag := "", pkgPath := "", byteOffset := 32 }, { name := "Str", type := 181, offset := 9, embedded := false, tag := "", pkgPath := "", byteOffset := 40 }, { name := "PtrToThis", type := 182, offset := 10, embedded := false, tag := "", pkgPath := "", byteOffset := 44 }]), 11, 48, some (Value.agg #[Value.int .u64 0, Value.int .u64 0, Value.int .u32 0, Value.int .u8 0, Value.int .u8 0, Value.int .u8 0, Value.int .u8 0, Value.nilFunc, Value.pointer none, Value.int .i32 0, Value.int .i32 0])⟩
theorem ok184 : TyOk Try.prog 184 ty184 := ⟨Try.underlying184, Try.t184, info_of Try.type184, rfl, rfl, rfl⟩
def ty185 : TyI := ⟨(.struct #[{ name := "Label", type := 9, offset := 0, embedded := false, tag := "", pkgPath := "", byteOffset := 0 }, { name := "Text", type := 9, offset := 1, embedded := false, tag := "", pkgPath := "", byteOffset := 16 }]), 2, 32, some (Value.agg #[Value.string { data := #[] }, Value.string { data := #[] }])⟩
theorem ok185 : TyOk Try.prog 185 ty185 := ⟨Try.underlying185, Try.t185, info_of Try.type185, rfl, rfl, rfl⟩
def ty186 : TyI := ⟨(.struct #[{ name := "Label", type := 9, offset := 0, embedded := false, tag := "", pkgPath := "", byteOffset := 0 }, { name := "Text", type := 9, offset := 1, embedded := false, tag := "", pkgPath := "", byteOffset := 16 }]), 2, 32, some (Value.agg #[Value.string { data := #[] }, Value.string { data := #[] }])⟩
theorem ok186 : TyOk Try.prog 186 ty186 := ⟨Try.underlying186, Try.t186, info_of Try.type186, rfl, rfl, rfl⟩
def ty187 : TyI := ⟨(.struct #[{ name := "label", type := 9, offset := 0, embedded := false, tag := "", pkgPath := "grapnel/vault", byteOffset := 0 }, { name := "text", type := 9, offset := 1, embedded := false, tag := "", pkgPath := "grapnel/vault", byteOffset := 16 }]), 2, 32, some (Value.agg #[Value.string { data := #[] }, Value.string { data := #[] }])⟩
theorem ok187 : TyOk Try.prog 187 ty187 := ⟨Try.underlying187, Try.t187, info_of Try.type187, rfl, rfl, rfl⟩
def ty188 : TyI := ⟨(.struct #[{ name := "label", type := 9, offset := 0, embedded := false, tag := "", pkgPath := "grapnel/vault", byteOffset := 0 }, { name := "text", type := 9, offset := 1, embedded := false, tag := "", pkgPath := "grapnel/vault", byteOffset := 16 }]) , 2, 32, some (Value.agg #[Value.string { data := #[] }, Value.string { data := #[] }])⟩
theorem ok188 : TyOk Try.prog 188 ty188 := ⟨Try.underlying188, Try.t188, info_of Try.type188, rfl, rfl, rfl⟩
def tab : List (Nat × TyI) := [(0, ty0), (1, ty1), (2, ty2), (3, ty3), (4, ty4), (5, ty5), (6, ty6), (7, ty7), (8, ty8), (9, ty9), (10, ty10), (11, ty11), (12, ty12), (13, ty13), (14, ty14), (15, ty15), (16, ty16), (17, ty17), (18, ty18), (19, ty19), (20, ty20), (21, ty21), (22, ty22), (23, ty23), (24, ty24), (25, ty25), (26, ty26), (27, ty27), (28, ty28), (29, ty29), (30, ty30), (31, ty31), (32, ty32), (33, ty33), (34, ty34), (35, ty35), (36, ty36), (37, ty37), (38, ty38), (39, ty39), (40, ty40), (41, ty41), (42, ty42), (43, ty43), (44, ty44), (45, ty45), (46, ty46), (47, ty47), (48, ty48), (49, ty49), (50, ty50), (51, ty51), (52, ty52), (53, ty53), (54, ty54), (55, ty55), (56, ty56), (57, ty57), (58, ty58), (59, ty59), (60, ty60), (61, ty61), (62, ty62), (63, ty63), (64, ty64), (65, ty65), (66, ty66), (67, ty67), (68, ty68), (69, ty69), (70, ty70), (71, ty71), (72, ty72), (73, ty73), (74, ty74), (75, ty75), (76, ty76), (77, ty77), (78, ty78), (79, ty79), (80, ty80), (81, ty81), (82, ty82), (83, ty83), (84, ty84), (85, ty85), (86, ty86), (87, ty87), (88, ty88), (89, ty89), (90, ty90), (91, ty91), (92, ty92), (93, ty93), (94, ty94), (95, ty95), (96, ty96), (97, ty97), (98, ty98), (99, ty99), (100, ty100), (101, ty101), (102, ty102), (103, ty103), (104, ty104), (105, ty105), (106, ty106), (107, ty107), (108, ty108), (109, ty109), (110, ty110), (111, ty111), (112, ty112), (113, ty113), (114, ty114), (115, ty115), (116, ty116), (117, ty117), (118, ty118), (119, ty119), (120, ty120), (121, ty121), (122, ty122), (123, ty123), (124, ty124), (125, ty125), (126, ty126), (127, ty127), (128, ty128), (129, ty129), (130, ty130), (131, ty131), (132, ty132), (133, ty133), (134, ty134), (135, ty135), (136, ty136), (137, ty137), (138, ty138), (139, ty139), (140, ty140), (141, ty141), (142, ty142), (143, ty143), (144, ty144), (145, ty145), (146, ty146), (147, ty147), (148, ty148), (149, ty149), (150, ty150), (151, ty151), (152, ty152), (153, ty153), (154, ty154), (155, ty155), (156, ty156), (157, ty157), (158, ty158), (159, ty159), (160, ty160), (161, ty161), (162, ty162), (163, ty163), (164, ty164), (165, ty165), (166, ty166), (167, ty167), (168, ty168), (169, ty169), (170, ty170), (171, ty171), (172, ty172), (173, ty173), (174, ty174), (175, ty175), (176, ty176), (177, ty177), (178, ty178), (179, ty179), (180, ty180), (181, ty181), (182, ty182), (183, ty183), (184, ty184), (185, ty185), (186, ty186), (187, ty187), (188, ty188)]
theorem tabOk : TabOk Try.prog (lookupT tab) := AllTy.ok (.cons ok0 (.cons ok1 (.cons ok2 (.cons ok3 (.cons ok4 (.cons ok5 (.cons ok6 (.cons ok7 (.cons ok8 (.cons ok9 (.cons ok10 (.cons ok11 (.cons ok12 (.cons ok13 (.cons ok14 (.cons ok15 (.cons ok16 (.cons ok17 (.cons ok18 (.cons ok19 (.cons ok20 (.cons ok21 (.cons ok22 (.cons ok23 (.cons ok24 (.cons ok25 (.cons ok26 (.cons ok27 (.cons ok28 (.cons ok29 (.cons ok30 (.cons ok31 (.cons ok32 (.cons ok33 (.cons ok34 (.cons ok35 (.cons ok36 (.cons ok37 (.cons ok38 (.cons ok39 (.cons ok40 (.cons ok41 (.cons ok42 (.cons ok43 (.cons ok44 (.cons ok45 (.cons ok46 (.cons ok47 (.cons ok48 (.cons ok49 (.cons ok50 (.cons ok51 (.cons ok52 (.cons ok53 (.cons ok54 (.cons ok55 (.cons ok56 (.cons ok57 (.cons ok58 (.cons ok59 (.cons ok60 (.cons ok61 (.cons ok62 (.cons ok63 (.cons ok64 (.cons ok65 (.cons ok66 (.cons ok67 (.cons ok68 (.cons ok69 (.cons ok70 (.cons ok71 (.cons ok72 (.cons ok73 (.cons ok74 (.cons ok75 (.cons ok76 (.cons ok77 (.cons ok78 (.cons ok79 (.cons ok80 (.cons ok81 (.cons ok82 (.cons ok83 (.cons ok84 (.cons ok85 (.cons ok86 (.cons ok87 (.cons ok88 (.cons ok89 (.cons ok90 (.cons ok91 (.cons ok92 (.cons ok93 (.cons ok94 (.cons ok95 (.cons ok96 (.cons ok97 (.cons ok98 (.cons ok99 (.cons ok100 (.cons ok101 (.cons ok102 (.cons ok103 (.cons ok104 (.cons ok105 (.cons ok106 (.cons ok107 (.cons ok108 (.cons ok109 (.cons ok110 (.cons ok111 (.cons ok112 (.cons ok113 (.cons ok114 (.cons ok115 (.cons ok116 (.cons ok117 (.cons ok118 (.cons ok119 (.cons ok120 (.cons ok121 (.cons ok122 (.cons ok123 (.cons ok124 (.cons ok125 (.cons ok126 (.cons ok127 (.cons ok128 (.cons ok129 (.cons ok130 (.cons ok131 (.cons ok132 (.cons ok133 (.cons ok134 (.cons ok135 (.cons ok136 (.cons ok137 (.cons ok138 (.cons ok139 (.cons ok140 (.cons ok141 (.cons ok142 (.cons ok143 (.cons ok144 (.cons ok145 (.cons ok146 (.cons ok147 (.cons ok148 (.cons ok149 (.cons ok150 (.cons ok151 (.cons ok152 (.cons ok153 (.cons ok154 (.cons ok155 (.cons ok156 (.cons ok157 (.cons ok158 (.cons ok159 (.cons ok160 (.cons ok161 (.cons ok162 (.cons ok163 (.cons ok164 (.cons ok165 (.cons ok166 (.cons ok167 (.cons ok168 (.cons ok169 (.cons ok170 (.cons ok171 (.cons ok172 (.cons ok173 (.cons ok174 (.cons ok175 (.cons ok176 (.cons ok177 (.cons ok178 (.cons ok179 (.cons ok180 (.cons ok181 (.cons ok182 (.cons ok183 (.cons ok184 (.cons ok185 (.cons ok186 (.cons ok187 (.cons ok188 (.nil))))))))))))))))))))))))))))))))))))))))))))))))))))))))))))))))))))))))))))))))))))))))))))))))))))))))))))))))))))))))))))))))))))))))))))))))))))))))))))))))))))))))))))))))))))))))))))))
theorem mixed : Try.prog.follows .mixedOrders = true := by kernel_rfl
end Go.Proofs.Ytajndpddlpnbkaa.V
