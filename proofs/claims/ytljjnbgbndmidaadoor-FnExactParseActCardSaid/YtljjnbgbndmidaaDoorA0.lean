import Derived.Test.YtljjnbgbndmidaaDoorEngD
import Derived.Test.YtljjnbgbndmidaaDoorProg
open Go Go.Eng Go.Proofs
namespace Go.Proofs.A
theorem mixed : Tryd.prog.follows .mixedOrders = true := by kernel_rfl
def L : Lay := [(3, ⟨.int .i64, 1, 8, [.int .i64 0], false⟩),
  (4, ⟨.bool, 1, 1, [.bool false], false⟩),
  (5, ⟨.int .u8, 1, 1, [.int .u8 0], false⟩),
  (9, ⟨.str, 1, 16, [.string ⟨#[]⟩], false⟩),
  (23, ⟨.struct [(0, 3), (1, 3), (2, 3)], 3, 24, [.int .i64 0, .int .i64 0, .int .i64 0], true⟩),
  (28, ⟨.slice 52, 1, 24, [.slice none 0 0], false⟩),
  (29, ⟨.slice 54, 1, 24, [.slice none 0 0], false⟩),
  (31, ⟨.struct [(0, 28), (1, 29)], 2, 48, [.slice none 0 0, .slice none 0 0], false⟩),
  (36, ⟨.slice 9, 1, 24, [.slice none 0 0], false⟩),
  (40, ⟨.slice 3, 1, 24, [.slice none 0 0], false⟩),
  (44, ⟨.arr 2 3, 2, 16, [.int .i64 0, .int .i64 0], false⟩),
  (47, ⟨.map 9 3, 1, 8, [.map none], false⟩),
  (52, ⟨.struct [(0, 3), (1, 3)], 2, 16, [.int .i64 0, .int .i64 0], true⟩),
  (54, ⟨.struct [(0, 3), (1, 3)], 2, 16, [.int .i64 0, .int .i64 0], true⟩),
  (66, ⟨.slice 5, 1, 24, [.slice none 0 0], false⟩)]
@[go_sem] theorem L3 : lkT L 3 = some ⟨.int .i64, 1, 8, [.int .i64 0], false⟩ := rfl
@[go_sem] theorem L4 : lkT L 4 = some ⟨.bool, 1, 1, [.bool false], false⟩ := rfl
@[go_sem] theorem L5 : lkT L 5 = some ⟨.int .u8, 1, 1, [.int .u8 0], false⟩ := rfl
@[go_sem] theorem L9 : lkT L 9 = some ⟨.str, 1, 16, [.string ⟨#[]⟩], false⟩ := rfl
@[go_sem] theorem L23 : lkT L 23 = some ⟨.struct [(0, 3), (1, 3), (2, 3)], 3, 24, [.int .i64 0, .int .i64 0, .int .i64 0], true⟩ := rfl
@[go_sem] theorem L28 : lkT L 28 = some ⟨.slice 52, 1, 24, [.slice none 0 0], false⟩ := rfl
@[go_sem] theorem L29 : lkT L 29 = some ⟨.slice 54, 1, 24, [.slice none 0 0], false⟩ := rfl
@[go_sem] theorem L31 : lkT L 31 = some ⟨.struct [(0, 28), (1, 29)], 2, 48, [.slice none 0 0, .slice none 0 0], false⟩ := rfl
@[go_sem] theorem L36 : lkT L 36 = some ⟨.slice 9, 1, 24, [.slice none 0 0], false⟩ := rfl
@[go_sem] theorem L40 : lkT L 40 = some ⟨.slice 3, 1, 24, [.slice none 0 0], false⟩ := rfl
@[go_sem] theorem L44 : lkT L 44 = some ⟨.arr 2 3, 2, 16, [.int .i64 0, .int .i64 0], false⟩ := rfl
@[go_sem] theorem L47 : lkT L 47 = some ⟨.map 9 3, 1, 8, [.map none], false⟩ := rfl
@[go_sem] theorem L52 : lkT L 52 = some ⟨.struct [(0, 3), (1, 3)], 2, 16, [.int .i64 0, .int .i64 0], true⟩ := rfl
@[go_sem] theorem L54 : lkT L 54 = some ⟨.struct [(0, 3), (1, 3)], 2, 16, [.int .i64 0, .int .i64 0], true⟩ := rfl
@[go_sem] theorem L66 : lkT L 66 = some ⟨.slice 5, 1, 24, [.slice none 0 0], false⟩ := rfl
theorem lay3 : TI.ok Tryd.prog 3 ⟨.int .i64, 1, 8, [.int .i64 0], false⟩ := ti_ok Tryd.type3 rfl rfl rfl rfl rfl (by simp [plain]) Tryd.underlying3 (by simp)
theorem lay4 : TI.ok Tryd.prog 4 ⟨.bool, 1, 1, [.bool false], false⟩ := ti_ok Tryd.type4 rfl rfl rfl rfl rfl (by simp [plain]) Tryd.underlying4 (by simp)
theorem lay5 : TI.ok Tryd.prog 5 ⟨.int .u8, 1, 1, [.int .u8 0], false⟩ := ti_ok Tryd.type5 rfl rfl rfl rfl rfl (by simp [plain]) Tryd.underlying5 (by simp)
theorem lay9 : TI.ok Tryd.prog 9 ⟨.str, 1, 16, [.string ⟨#[]⟩], false⟩ := ti_ok Tryd.type9 rfl rfl rfl rfl rfl (by simp [plain]) Tryd.underlying9 (by simp)
theorem lay23 : TI.ok Tryd.prog 23 ⟨.struct [(0, 3), (1, 3), (2, 3)], 3, 24, [.int .i64 0, .int .i64 0, .int .i64 0], true⟩ := ti_ok Tryd.type23 rfl rfl rfl rfl rfl (by simp [plain]) ⟨_, Tryd.underlying23, rfl⟩ (fun _ => EqInts.of3 Tryd.eqGuardType23 (by kernel_rfl) Tryd.underlying23 (by simp) (by simp) (by simp) Tryd.underlying3 Tryd.underlying3 Tryd.underlying3)
theorem lay28 : TI.ok Tryd.prog 28 ⟨.slice 52, 1, 24, [.slice none 0 0], false⟩ := ti_ok Tryd.type28 rfl rfl rfl rfl rfl (by simp [plain]) Tryd.underlying28 (by simp)
theorem lay29 : TI.ok Tryd.prog 29 ⟨.slice 54, 1, 24, [.slice none 0 0], false⟩ := ti_ok Tryd.type29 rfl rfl rfl rfl rfl (by simp [plain]) Tryd.underlying29 (by simp)
theorem lay31 : TI.ok Tryd.prog 31 ⟨.struct [(0, 28), (1, 29)], 2, 48, [.slice none 0 0, .slice none 0 0], false⟩ := ti_ok Tryd.type31 rfl rfl rfl rfl rfl (by simp [plain]) ⟨_, Tryd.underlying31, rfl⟩ (by simp)
theorem lay36 : TI.ok Tryd.prog 36 ⟨.slice 9, 1, 24, [.slice none 0 0], false⟩ := ti_ok Tryd.type36 rfl rfl rfl rfl rfl (by simp [plain]) Tryd.underlying36 (by simp)
theorem lay40 : TI.ok Tryd.prog 40 ⟨.slice 3, 1, 24, [.slice none 0 0], false⟩ := ti_ok Tryd.type40 rfl rfl rfl rfl rfl (by simp [plain]) Tryd.underlying40 (by simp)
theorem lay44 : TI.ok Tryd.prog 44 ⟨.arr 2 3, 2, 16, [.int .i64 0, .int .i64 0], false⟩ := ti_ok Tryd.type44 rfl rfl rfl rfl rfl (by simp [plain]) Tryd.underlying44 (by simp)
theorem lay47 : TI.ok Tryd.prog 47 ⟨.map 9 3, 1, 8, [.map none], false⟩ := ti_ok Tryd.type47 rfl rfl rfl rfl rfl (by simp [plain]) Tryd.underlying47 (by simp)
theorem lay52 : TI.ok Tryd.prog 52 ⟨.struct [(0, 3), (1, 3)], 2, 16, [.int .i64 0, .int .i64 0], true⟩ := ti_ok Tryd.type52 rfl rfl rfl rfl rfl (by simp [plain]) ⟨_, Tryd.underlying52, rfl⟩ (fun _ => EqInts.of2 Tryd.eqGuardType52 (by kernel_rfl) Tryd.underlying52 (by simp) (by simp) Tryd.underlying3 Tryd.underlying3)
theorem lay54 : TI.ok Tryd.prog 54 ⟨.struct [(0, 3), (1, 3)], 2, 16, [.int .i64 0, .int .i64 0], true⟩ := ti_ok Tryd.type54 rfl rfl rfl rfl rfl (by simp [plain]) ⟨_, Tryd.underlying54, rfl⟩ (fun _ => EqInts.of2 Tryd.eqGuardType54 (by kernel_rfl) Tryd.underlying54 (by simp) (by simp) Tryd.underlying3 Tryd.underlying3)
theorem lay66 : TI.ok Tryd.prog 66 ⟨.slice 5, 1, 24, [.slice none 0 0], false⟩ := ti_ok Tryd.type66 rfl rfl rfl rfl rfl (by simp [plain]) Tryd.underlying66 (by simp)
theorem L_ok : LOk Tryd.prog L := by
  refine LOk_cons lay3 (LOk_cons lay4 (LOk_cons lay5 (LOk_cons lay9 (LOk_cons lay23 (LOk_cons lay28 (LOk_cons lay29 (LOk_cons lay31 (LOk_cons lay36 (LOk_cons lay40 (LOk_cons lay44 (LOk_cons lay47 (LOk_cons lay52 (LOk_cons lay54 (LOk_cons lay66 (LOk_nil)))))))))))))))
end Go.Proofs.A
