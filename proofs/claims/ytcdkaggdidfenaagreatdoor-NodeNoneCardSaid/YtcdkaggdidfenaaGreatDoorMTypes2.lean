/- A part of the proof: contracts of functions of the given program, and the laws on memory that they lean on. -/
import Derived.Test.YtcdkaggdidfenaaGreatDoorMTypes
import Derived.Test.YtcdkaggdidfenaaGreatDoorMData2
set_option linter.all false
namespace Go.Proofs.YtcdkaggdidfenaaGreatDoor
open Go.Proofs Go.SL Go Go.RowKit
set_option maxRecDepth 40000

instance : MapTy Tryz.prog 94 3 163 := ⟨by kernel_rfl⟩
instance : ZeroOf Tryz.prog 163 (.pointer none) := ⟨fun w => by kernel_rfl⟩
instance : ZeroOf Tryz.prog 22 (.slice none 0 0) := ⟨fun w => by kernel_rfl⟩
instance : MapTy Tryz.prog 255 254 22 := ⟨by kernel_rfl⟩
instance : KeyOk Tryz.prog 3 intK where
  check := fun w e k => by kernel_rfl
  kind := .inl ⟨.i64, by kernel_rfl, fun k => ⟨k, rfl⟩⟩
  eq := fun w a b => by
    have h : (Op.equal 3 (.int .i64 a) (.int .i64 b)).run Tryz.prog w = .ok (a == b) w := by kernel_rfl
    rw [show intK.enc a = .int .i64 a from rfl, show intK.enc b = .int .i64 b from rfl, h]; congr 1
  inj := fun a b h => by cases h; rfl
theorem struct411b : (match Tryz.prog.underlying 254 with | some (.struct _) => true | _ => false) = true := by kernel_rfl
theorem struct411 : ∃ fs, Tryz.prog.underlying 254 = some (.struct fs) := by
  have h := struct411b
  split at h
  · rename_i fs heq; exact ⟨fs, heq⟩
  · cases h
end Go.Proofs.YtcdkaggdidfenaaGreatDoor
