/- A part of the proof: contracts of functions of the given program, and the laws on memory that they lean on. -/
import Derived.Test.YtcdkaggdidfenaaGreatDoorProg
import Derived.Test.YtcdkaggdidfenaaGreatDoorMSlFld
set_option linter.all false
namespace Go.Proofs.YtcdkaggdidfenaaGreatDoor
open Go.Proofs Go.SL

instance : OneCell Tryz.prog 2 := ⟨fun w => by kernel_rfl, fun w => by kernel_rfl⟩
instance : OneCell Tryz.prog 3 := ⟨fun w => by kernel_rfl, fun w => by kernel_rfl⟩
instance : OneCell Tryz.prog 4 := ⟨fun w => by kernel_rfl, fun w => by kernel_rfl⟩
instance : OneCell Tryz.prog 5 := ⟨fun w => by kernel_rfl, fun w => by kernel_rfl⟩
instance : OneCell Tryz.prog 9 := ⟨fun w => by kernel_rfl, fun w => by kernel_rfl⟩
instance : OneCell Tryz.prog 21 := ⟨fun w => by kernel_rfl, fun w => by kernel_rfl⟩
instance : OneCell Tryz.prog 22 := ⟨fun w => by kernel_rfl, fun w => by kernel_rfl⟩
instance : OneCell Tryz.prog 23 := ⟨fun w => by kernel_rfl, fun w => by kernel_rfl⟩
instance : OneCell Tryz.prog 24 := ⟨fun w => by kernel_rfl, fun w => by kernel_rfl⟩
instance : AggOf Tryz.prog 26 9 := ⟨fun w => by kernel_rfl, fun w => by kernel_rfl⟩
instance : AggOf Tryz.prog 28 12 := ⟨fun w => by kernel_rfl, fun w => by kernel_rfl⟩
instance : OneCell Tryz.prog 32 := ⟨fun w => by kernel_rfl, fun w => by kernel_rfl⟩
instance : OneCell Tryz.prog 37 := ⟨fun w => by kernel_rfl, fun w => by kernel_rfl⟩
instance : OneCell Tryz.prog 40 := ⟨fun w => by kernel_rfl, fun w => by kernel_rfl⟩
instance : OneCell Tryz.prog 47 := ⟨fun w => by kernel_rfl, fun w => by kernel_rfl⟩
instance : AggOf Tryz.prog 49 10 := ⟨fun w => by kernel_rfl, fun w => by kernel_rfl⟩
instance : AggOf Tryz.prog 51 12 := ⟨fun w => by kernel_rfl, fun w => by kernel_rfl⟩
instance : AggOf Tryz.prog 53 14 := ⟨fun w => by kernel_rfl, fun w => by kernel_rfl⟩
instance : OneCell Tryz.prog 55 := ⟨fun w => by kernel_rfl, fun w => by kernel_rfl⟩
instance : OneCell Tryz.prog 57 := ⟨fun w => by kernel_rfl, fun w => by kernel_rfl⟩
instance : OneCell Tryz.prog 64 := ⟨fun w => by kernel_rfl, fun w => by kernel_rfl⟩
instance : AggOf Tryz.prog 74 3 := ⟨fun w => by kernel_rfl, fun w => by kernel_rfl⟩
instance : OneCell Tryz.prog 75 := ⟨fun w => by kernel_rfl, fun w => by kernel_rfl⟩
instance : OneCell Tryz.prog 79 := ⟨fun w => by kernel_rfl, fun w => by kernel_rfl⟩
instance : AggOf Tryz.prog 92 18 := ⟨fun w => by kernel_rfl, fun w => by kernel_rfl⟩
instance : OneCell Tryz.prog 94 := ⟨fun w => by kernel_rfl, fun w => by kernel_rfl⟩
instance : OneCell Tryz.prog 95 := ⟨fun w => by kernel_rfl, fun w => by kernel_rfl⟩
instance : AggOf Tryz.prog 102 17 := ⟨fun w => by kernel_rfl, fun w => by kernel_rfl⟩
instance : AggOf Tryz.prog 108 2 := ⟨fun w => by kernel_rfl, fun w => by kernel_rfl⟩
instance : AggOf Tryz.prog 114 3 := ⟨fun w => by kernel_rfl, fun w => by kernel_rfl⟩
instance : AggOf Tryz.prog 116 7 := ⟨fun w => by kernel_rfl, fun w => by kernel_rfl⟩
instance : OneCell Tryz.prog 120 := ⟨fun w => by kernel_rfl, fun w => by kernel_rfl⟩
instance : AggOf Tryz.prog 122 15 := ⟨fun w => by kernel_rfl, fun w => by kernel_rfl⟩
instance : AggOf Tryz.prog 130 2 := ⟨fun w => by kernel_rfl, fun w => by kernel_rfl⟩
instance : AggOf Tryz.prog 133 2 := ⟨fun w => by kernel_rfl, fun w => by kernel_rfl⟩
instance : AggOf Tryz.prog 135 3 := ⟨fun w => by kernel_rfl, fun w => by kernel_rfl⟩
instance : OneCell Tryz.prog 150 := ⟨fun w => by kernel_rfl, fun w => by kernel_rfl⟩
instance : AggOf Tryz.prog 153 22 := ⟨fun w => by kernel_rfl, fun w => by kernel_rfl⟩
instance : AggOf Tryz.prog 157 6 := ⟨fun w => by kernel_rfl, fun w => by kernel_rfl⟩
instance : OneCell Tryz.prog 159 := ⟨fun w => by kernel_rfl, fun w => by kernel_rfl⟩
instance : AggOf Tryz.prog 161 3 := ⟨fun w => by kernel_rfl, fun w => by kernel_rfl⟩
instance : OneCell Tryz.prog 176 := ⟨fun w => by kernel_rfl, fun w => by kernel_rfl⟩
instance : AggOf Tryz.prog 183 8 := ⟨fun w => by kernel_rfl, fun w => by kernel_rfl⟩
instance : OneCell Tryz.prog 209 := ⟨fun w => by kernel_rfl, fun w => by kernel_rfl⟩
instance : OneCell Tryz.prog 210 := ⟨fun w => by kernel_rfl, fun w => by kernel_rfl⟩
instance : AggOf Tryz.prog 212 46 := ⟨fun w => by kernel_rfl, fun w => by kernel_rfl⟩
instance : OneCell Tryz.prog 223 := ⟨fun w => by kernel_rfl, fun w => by kernel_rfl⟩
instance : OneCell Tryz.prog 224 := ⟨fun w => by kernel_rfl, fun w => by kernel_rfl⟩
instance : AggOf Tryz.prog 226 17 := ⟨fun w => by kernel_rfl, fun w => by kernel_rfl⟩
instance : OneCell Tryz.prog 227 := ⟨fun w => by kernel_rfl, fun w => by kernel_rfl⟩
instance : OneCell Tryz.prog 233 := ⟨fun w => by kernel_rfl, fun w => by kernel_rfl⟩
instance : AggOf Tryz.prog 254 2 := ⟨fun w => by kernel_rfl, fun w => by kernel_rfl⟩
instance : OneCell Tryz.prog 255 := ⟨fun w => by kernel_rfl, fun w => by kernel_rfl⟩
instance : AggOf Tryz.prog 257 1 := ⟨fun w => by kernel_rfl, fun w => by kernel_rfl⟩
instance : AggOf Tryz.prog 261 4 := ⟨fun w => by kernel_rfl, fun w => by kernel_rfl⟩
instance : AggOf Tryz.prog 274 6 := ⟨fun w => by kernel_rfl, fun w => by kernel_rfl⟩
instance : OneCell Tryz.prog 282 := ⟨fun w => by kernel_rfl, fun w => by kernel_rfl⟩
instance : OneCell Tryz.prog 289 := ⟨fun w => by kernel_rfl, fun w => by kernel_rfl⟩
instance : AggOf Tryz.prog 291 3 := ⟨fun w => by kernel_rfl, fun w => by kernel_rfl⟩
instance : OneCell Tryz.prog 293 := ⟨fun w => by kernel_rfl, fun w => by kernel_rfl⟩
instance : AggOf Tryz.prog 295 34 := ⟨fun w => by kernel_rfl, fun w => by kernel_rfl⟩
instance : OneCell Tryz.prog 336 := ⟨fun w => by kernel_rfl, fun w => by kernel_rfl⟩
instance : OneCell Tryz.prog 352 := ⟨fun w => by kernel_rfl, fun w => by kernel_rfl⟩
instance : AggOf Tryz.prog 367 24 := ⟨fun w => by kernel_rfl, fun w => by kernel_rfl⟩
instance : AggOf Tryz.prog 374 3 := ⟨fun w => by kernel_rfl, fun w => by kernel_rfl⟩
instance : AggOf Tryz.prog 377 20 := ⟨fun w => by kernel_rfl, fun w => by kernel_rfl⟩
instance : AggOf Tryz.prog 378 65 := ⟨fun w => by kernel_rfl, fun w => by kernel_rfl⟩
instance : AggOf Tryz.prog 382 1 := ⟨fun w => by kernel_rfl, fun w => by kernel_rfl⟩
instance : AggOf Tryz.prog 383 32 := ⟨fun w => by kernel_rfl, fun w => by kernel_rfl⟩
instance : AggOf Tryz.prog 384 64 := ⟨fun w => by kernel_rfl, fun w => by kernel_rfl⟩
instance : ZeroOf Tryz.prog 3 (.int .i64 0) := ⟨fun w => by kernel_rfl⟩
instance : ZeroOf Tryz.prog 4 (.bool false) := ⟨fun w => by kernel_rfl⟩
instance : ZeroOf Tryz.prog 5 (.int .u8 0) := ⟨fun w => by kernel_rfl⟩
instance : ZeroOf Tryz.prog 9 (.string ⟨#[]⟩) := ⟨fun w => by kernel_rfl⟩
instance : ZeroOf Tryz.prog 24 (.slice none 0 0) := ⟨fun w => by kernel_rfl⟩
instance : ZeroOf Tryz.prog 28 (.agg #[.slice none 0 0, .int .i64 0, .slice none 0 0, .slice none 0 0, .slice none 0 0, .int .i64 0, .int .i64 0, .int .i64 0, .slice none 0 0, .int .i64 0, .int .i64 0, .int .i64 0]) := ⟨fun w => by kernel_rfl⟩
instance : ZeroOf Tryz.prog 32 (.pointer none) := ⟨fun w => by kernel_rfl⟩
instance : ZeroOf Tryz.prog 47 (.slice none 0 0) := ⟨fun w => by kernel_rfl⟩
instance : ZeroOf Tryz.prog 49 (.agg #[.int .i64 0, .int .i64 0, .int .i64 0, .int .i64 0, .int .i64 0, .int .i64 0, .int .i64 0, .int .i64 0, .slice none 0 0, .slice none 0 0]) := ⟨fun w => by kernel_rfl⟩
instance : ZeroOf Tryz.prog 51 (.agg #[.int .i64 0, .int .i64 0, .int .i64 0, .int .i64 0, .int .i64 0, .int .i64 0, .int .i64 0, .int .i64 0, .int .i64 0, .int .i64 0, .slice none 0 0, .slice none 0 0]) := ⟨fun w => by kernel_rfl⟩
instance : ZeroOf Tryz.prog 53 (.agg #[.int .i64 0, .int .i64 0, .int .i64 0, .int .i64 0, .int .i64 0, .int .i64 0, .int .i64 0, .int .i64 0, .int .i64 0, .int .i64 0, .int .i64 0, .int .i64 0, .slice none 0 0, .slice none 0 0]) := ⟨fun w => by kernel_rfl⟩
instance : ZeroOf Tryz.prog 74 (.agg #[.int .i64 0, .int .i64 0, .int .i64 0]) := ⟨fun w => by kernel_rfl⟩
instance : ZeroOf Tryz.prog 116 (.agg #[.int .i64 0, .int .i64 0, .int .i64 0, .int .i64 0, .int .i64 0, .slice none 0 0, .slice none 0 0]) := ⟨fun w => by kernel_rfl⟩
instance : ZeroOf Tryz.prog 133 (.agg #[.string ⟨#[]⟩, .string ⟨#[]⟩]) := ⟨fun w => by kernel_rfl⟩
instance : ZeroOf Tryz.prog 135 (.agg #[.int .i64 0, .int .i64 0, .string ⟨#[]⟩]) := ⟨fun w => by kernel_rfl⟩
instance : ZeroOf Tryz.prog 157 (.agg #[.int .i64 0, .int .i64 0, .int .i64 0, .bool false, .int .i64 0, .slice none 0 0]) := ⟨fun w => by kernel_rfl⟩
instance : ZeroOf Tryz.prog 159 (.pointer none) := ⟨fun w => by kernel_rfl⟩
instance : ZeroOf Tryz.prog 161 (.agg #[.int .i64 0, .int .i64 0, .pointer none]) := ⟨fun w => by kernel_rfl⟩
instance : ZeroOf Tryz.prog 227 (.pointer none) := ⟨fun w => by kernel_rfl⟩
instance : ZeroOf Tryz.prog 254 (.agg #[.int .i64 0, .int .i64 0]) := ⟨fun w => by kernel_rfl⟩
instance : ZeroOf Tryz.prog 291 (.agg #[.bool false, .int .i64 0, .string ⟨#[]⟩]) := ⟨fun w => by kernel_rfl⟩
instance : ZeroOf Tryz.prog 352 (.int .u64 0) := ⟨fun w => by kernel_rfl⟩
instance : ZeroOf Tryz.prog 367 (.agg #[.int .u8 0, .int .u8 0, .int .u8 0, .int .u8 0, .int .u8 0, .int .u8 0, .int .u8 0, .int .u8 0, .int .u8 0, .int .u8 0, .int .u8 0, .int .u8 0, .int .u8 0, .int .u8 0, .int .u8 0, .int .u8 0, .int .u8 0, .int .u8 0, .int .u8 0, .int .u8 0, .int .u8 0, .int .u8 0, .int .u8 0, .int .u8 0]) := ⟨fun w => by kernel_rfl⟩
instance : SliceTy Tryz.prog 22 47 := ⟨by kernel_rfl⟩
instance : SliceTy Tryz.prog 23 135 := ⟨by kernel_rfl⟩
instance : SliceTy Tryz.prog 24 3 := ⟨by kernel_rfl⟩
instance : SliceTy Tryz.prog 40 51 := ⟨by kernel_rfl⟩
instance : SliceTy Tryz.prog 45 53 := ⟨by kernel_rfl⟩
instance : SliceTy Tryz.prog 47 133 := ⟨by kernel_rfl⟩
instance : SliceTy Tryz.prog 57 5 := ⟨by kernel_rfl⟩
instance : SliceTy Tryz.prog 59 116 := ⟨by kernel_rfl⟩
instance : SliceTy Tryz.prog 67 74 := ⟨by kernel_rfl⟩
instance : SliceTy Tryz.prog 95 161 := ⟨by kernel_rfl⟩
instance : SliceTy Tryz.prog 120 32 := ⟨by kernel_rfl⟩
instance : SliceTy Tryz.prog 150 157 := ⟨by kernel_rfl⟩
instance : SliceTy Tryz.prog 202 49 := ⟨by kernel_rfl⟩
instance : SliceTy Tryz.prog 210 24 := ⟨by kernel_rfl⟩
instance : SliceTy Tryz.prog 216 4 := ⟨by kernel_rfl⟩
instance : SliceTy Tryz.prog 224 227 := ⟨by kernel_rfl⟩
instance : SliceTy Tryz.prog 282 9 := ⟨by kernel_rfl⟩
instance : SliceTy Tryz.prog 289 291 := ⟨by kernel_rfl⟩
theorem info3 : (Tryz.prog.info? 3).map (fun i => (i.zero, i.size, i.bytes)) = some (some (.int .i64 0), 1, 8) := by kernel_rfl
instance : ElemTy Tryz.prog 3 1 := ⟨by obtain ⟨i, h1, h2, h3, h4⟩ := info_parts info3; exact ⟨i, _, h1, h2, h3, by omega, rfl⟩, by omega⟩
theorem info4 : (Tryz.prog.info? 4).map (fun i => (i.zero, i.size, i.bytes)) = some (some (.bool false), 1, 1) := by kernel_rfl
instance : ElemTy Tryz.prog 4 1 := ⟨by obtain ⟨i, h1, h2, h3, h4⟩ := info_parts info4; exact ⟨i, _, h1, h2, h3, by omega, rfl⟩, by omega⟩
theorem info5 : (Tryz.prog.info? 5).map (fun i => (i.zero, i.size, i.bytes)) = some (some (.int .u8 0), 1, 1) := by kernel_rfl
instance : ElemTy Tryz.prog 5 1 := ⟨by obtain ⟨i, h1, h2, h3, h4⟩ := info_parts info5; exact ⟨i, _, h1, h2, h3, by omega, rfl⟩, by omega⟩
theorem info9 : (Tryz.prog.info? 9).map (fun i => (i.zero, i.size, i.bytes)) = some (some (.string ⟨#[]⟩), 1, 16) := by kernel_rfl
instance : ElemTy Tryz.prog 9 1 := ⟨by obtain ⟨i, h1, h2, h3, h4⟩ := info_parts info9; exact ⟨i, _, h1, h2, h3, by omega, rfl⟩, by omega⟩
theorem info24 : (Tryz.prog.info? 24).map (fun i => (i.zero, i.size, i.bytes)) = some (some (.slice none 0 0), 1, 24) := by kernel_rfl
instance : ElemTy Tryz.prog 24 1 := ⟨by obtain ⟨i, h1, h2, h3, h4⟩ := info_parts info24; exact ⟨i, _, h1, h2, h3, by omega, rfl⟩, by omega⟩
theorem info32 : (Tryz.prog.info? 32).map (fun i => (i.zero, i.size, i.bytes)) = some (some (.pointer none), 1, 8) := by kernel_rfl
instance : ElemTy Tryz.prog 32 1 := ⟨by obtain ⟨i, h1, h2, h3, h4⟩ := info_parts info32; exact ⟨i, _, h1, h2, h3, by omega, rfl⟩, by omega⟩
theorem info47 : (Tryz.prog.info? 47).map (fun i => (i.zero, i.size, i.bytes)) = some (some (.slice none 0 0), 1, 24) := by kernel_rfl
instance : ElemTy Tryz.prog 47 1 := ⟨by obtain ⟨i, h1, h2, h3, h4⟩ := info_parts info47; exact ⟨i, _, h1, h2, h3, by omega, rfl⟩, by omega⟩
theorem info49 : (Tryz.prog.info? 49).map (fun i => (i.zero, i.size, i.bytes)) = some (some (.agg #[.int .i64 0, .int .i64 0, .int .i64 0, .int .i64 0, .int .i64 0, .int .i64 0, .int .i64 0, .int .i64 0, .slice none 0 0, .slice none 0 0]), 10, 112) := by kernel_rfl
instance : ElemTy Tryz.prog 49 10 := ⟨by obtain ⟨i, h1, h2, h3, h4⟩ := info_parts info49; exact ⟨i, _, h1, h2, h3, by omega, rfl⟩, by omega⟩
theorem info51 : (Tryz.prog.info? 51).map (fun i => (i.zero, i.size, i.bytes)) = some (some (.agg #[.int .i64 0, .int .i64 0, .int .i64 0, .int .i64 0, .int .i64 0, .int .i64 0, .int .i64 0, .int .i64 0, .int .i64 0, .int .i64 0, .slice none 0 0, .slice none 0 0]), 12, 128) := by kernel_rfl
instance : ElemTy Tryz.prog 51 12 := ⟨by obtain ⟨i, h1, h2, h3, h4⟩ := info_parts info51; exact ⟨i, _, h1, h2, h3, by omega, rfl⟩, by omega⟩
theorem info74 : (Tryz.prog.info? 74).map (fun i => (i.zero, i.size, i.bytes)) = some (some (.agg #[.int .i64 0, .int .i64 0, .int .i64 0]), 3, 24) := by kernel_rfl
instance : ElemTy Tryz.prog 74 3 := ⟨by obtain ⟨i, h1, h2, h3, h4⟩ := info_parts info74; exact ⟨i, _, h1, h2, h3, by omega, rfl⟩, by omega⟩
theorem info116 : (Tryz.prog.info? 116).map (fun i => (i.zero, i.size, i.bytes)) = some (some (.agg #[.int .i64 0, .int .i64 0, .int .i64 0, .int .i64 0, .int .i64 0, .slice none 0 0, .slice none 0 0]), 7, 88) := by kernel_rfl
instance : ElemTy Tryz.prog 116 7 := ⟨by obtain ⟨i, h1, h2, h3, h4⟩ := info_parts info116; exact ⟨i, _, h1, h2, h3, by omega, rfl⟩, by omega⟩
theorem info133 : (Tryz.prog.info? 133).map (fun i => (i.zero, i.size, i.bytes)) = some (some (.agg #[.string ⟨#[]⟩, .string ⟨#[]⟩]), 2, 32) := by kernel_rfl
instance : ElemTy Tryz.prog 133 2 := ⟨by obtain ⟨i, h1, h2, h3, h4⟩ := info_parts info133; exact ⟨i, _, h1, h2, h3, by omega, rfl⟩, by omega⟩
theorem info135 : (Tryz.prog.info? 135).map (fun i => (i.zero, i.size, i.bytes)) = some (some (.agg #[.int .i64 0, .int .i64 0, .string ⟨#[]⟩]), 3, 32) := by kernel_rfl
instance : ElemTy Tryz.prog 135 3 := ⟨by obtain ⟨i, h1, h2, h3, h4⟩ := info_parts info135; exact ⟨i, _, h1, h2, h3, by omega, rfl⟩, by omega⟩
theorem info157 : (Tryz.prog.info? 157).map (fun i => (i.zero, i.size, i.bytes)) = some (some (.agg #[.int .i64 0, .int .i64 0, .int .i64 0, .bool false, .int .i64 0, .slice none 0 0]), 6, 64) := by kernel_rfl
instance : ElemTy Tryz.prog 157 6 := ⟨by obtain ⟨i, h1, h2, h3, h4⟩ := info_parts info157; exact ⟨i, _, h1, h2, h3, by omega, rfl⟩, by omega⟩
theorem info161 : (Tryz.prog.info? 161).map (fun i => (i.zero, i.size, i.bytes)) = some (some (.agg #[.int .i64 0, .int .i64 0, .pointer none]), 3, 24) := by kernel_rfl
instance : ElemTy Tryz.prog 161 3 := ⟨by obtain ⟨i, h1, h2, h3, h4⟩ := info_parts info161; exact ⟨i, _, h1, h2, h3, by omega, rfl⟩, by omega⟩
theorem info227 : (Tryz.prog.info? 227).map (fun i => (i.zero, i.size, i.bytes)) = some (some (.pointer none), 1, 8) := by kernel_rfl
instance : ElemTy Tryz.prog 227 1 := ⟨by obtain ⟨i, h1, h2, h3, h4⟩ := info_parts info227; exact ⟨i, _, h1, h2, h3, by omega, rfl⟩, by omega⟩
theorem info291 : (Tryz.prog.info? 291).map (fun i => (i.zero, i.size, i.bytes)) = some (some (.agg #[.bool false, .int .i64 0, .string ⟨#[]⟩]), 3, 32) := by kernel_rfl
instance : ElemTy Tryz.prog 291 3 := ⟨by obtain ⟨i, h1, h2, h3, h4⟩ := info_parts info291; exact ⟨i, _, h1, h2, h3, by omega, rfl⟩, by omega⟩
instance : StrTy Tryz.prog 9 := ⟨by kernel_rfl⟩
instance : FieldOff Tryz.prog 26 0 0 := ⟨fun a w => by kernel_rfl⟩
instance : FieldOff Tryz.prog 26 1 1 := ⟨fun a w => by kernel_rfl⟩
instance : FieldOff Tryz.prog 26 2 2 := ⟨fun a w => by kernel_rfl⟩
instance : FieldOff Tryz.prog 26 3 3 := ⟨fun a w => by kernel_rfl⟩
instance : FieldOff Tryz.prog 26 4 4 := ⟨fun a w => by kernel_rfl⟩
instance : FieldOff Tryz.prog 26 5 5 := ⟨fun a w => by kernel_rfl⟩
instance : FieldOff Tryz.prog 26 6 6 := ⟨fun a w => by kernel_rfl⟩
instance : FieldOff Tryz.prog 26 7 7 := ⟨fun a w => by kernel_rfl⟩
instance : FieldOff Tryz.prog 26 8 8 := ⟨fun a w => by kernel_rfl⟩
instance : FieldOff Tryz.prog 28 0 0 := ⟨fun a w => by kernel_rfl⟩
instance : FieldOff Tryz.prog 28 1 9 := ⟨fun a w => by kernel_rfl⟩
instance : FieldOff Tryz.prog 28 2 10 := ⟨fun a w => by kernel_rfl⟩
instance : FieldOff Tryz.prog 28 3 11 := ⟨fun a w => by kernel_rfl⟩
instance : FieldOff Tryz.prog 49 0 0 := ⟨fun a w => by kernel_rfl⟩
instance : FieldOff Tryz.prog 49 1 1 := ⟨fun a w => by kernel_rfl⟩
instance : FieldOff Tryz.prog 49 2 2 := ⟨fun a w => by kernel_rfl⟩
instance : FieldOff Tryz.prog 49 3 3 := ⟨fun a w => by kernel_rfl⟩
instance : FieldOff Tryz.prog 49 4 4 := ⟨fun a w => by kernel_rfl⟩
instance : FieldOff Tryz.prog 49 5 5 := ⟨fun a w => by kernel_rfl⟩
instance : FieldOff Tryz.prog 49 6 6 := ⟨fun a w => by kernel_rfl⟩
instance : FieldOff Tryz.prog 49 7 7 := ⟨fun a w => by kernel_rfl⟩
instance : FieldOff Tryz.prog 49 8 8 := ⟨fun a w => by kernel_rfl⟩
instance : FieldOff Tryz.prog 49 9 9 := ⟨fun a w => by kernel_rfl⟩
instance : FieldOff Tryz.prog 51 0 0 := ⟨fun a w => by kernel_rfl⟩
instance : FieldOff Tryz.prog 51 1 1 := ⟨fun a w => by kernel_rfl⟩
instance : FieldOff Tryz.prog 51 2 2 := ⟨fun a w => by kernel_rfl⟩
instance : FieldOff Tryz.prog 53 0 0 := ⟨fun a w => by kernel_rfl⟩
instance : FieldOff Tryz.prog 53 1 1 := ⟨fun a w => by kernel_rfl⟩
instance : FieldOff Tryz.prog 53 2 2 := ⟨fun a w => by kernel_rfl⟩
instance : FieldOff Tryz.prog 74 0 0 := ⟨fun a w => by kernel_rfl⟩
instance : FieldOff Tryz.prog 74 1 1 := ⟨fun a w => by kernel_rfl⟩
instance : FieldOff Tryz.prog 74 2 2 := ⟨fun a w => by kernel_rfl⟩
instance : FieldOff Tryz.prog 90 0 0 := ⟨fun a w => by kernel_rfl⟩
instance : FieldOff Tryz.prog 90 1 12 := ⟨fun a w => by kernel_rfl⟩
instance : FieldOff Tryz.prog 90 2 13 := ⟨fun a w => by kernel_rfl⟩
instance : FieldOff Tryz.prog 90 3 14 := ⟨fun a w => by kernel_rfl⟩
instance : FieldOff Tryz.prog 90 4 15 := ⟨fun a w => by kernel_rfl⟩
instance : FieldOff Tryz.prog 92 0 0 := ⟨fun a w => by kernel_rfl⟩
instance : FieldOff Tryz.prog 92 1 16 := ⟨fun a w => by kernel_rfl⟩
instance : FieldOff Tryz.prog 92 2 17 := ⟨fun a w => by kernel_rfl⟩
instance : FieldOff Tryz.prog 100 1 0 := ⟨fun a w => by kernel_rfl⟩
instance : FieldOff Tryz.prog 102 0 0 := ⟨fun a w => by kernel_rfl⟩
instance : FieldOff Tryz.prog 102 1 12 := ⟨fun a w => by kernel_rfl⟩
instance : FieldOff Tryz.prog 102 2 13 := ⟨fun a w => by kernel_rfl⟩
instance : FieldOff Tryz.prog 102 3 14 := ⟨fun a w => by kernel_rfl⟩
instance : FieldOff Tryz.prog 102 4 15 := ⟨fun a w => by kernel_rfl⟩
instance : FieldOff Tryz.prog 102 5 16 := ⟨fun a w => by kernel_rfl⟩
instance : FieldOff Tryz.prog 108 0 0 := ⟨fun a w => by kernel_rfl⟩
instance : FieldOff Tryz.prog 108 1 1 := ⟨fun a w => by kernel_rfl⟩
instance : FieldOff Tryz.prog 114 0 0 := ⟨fun a w => by kernel_rfl⟩
instance : FieldOff Tryz.prog 114 1 1 := ⟨fun a w => by kernel_rfl⟩
instance : FieldOff Tryz.prog 114 2 2 := ⟨fun a w => by kernel_rfl⟩
instance : FieldOff Tryz.prog 116 0 0 := ⟨fun a w => by kernel_rfl⟩
instance : FieldOff Tryz.prog 116 1 1 := ⟨fun a w => by kernel_rfl⟩
instance : FieldOff Tryz.prog 116 2 2 := ⟨fun a w => by kernel_rfl⟩
instance : FieldOff Tryz.prog 116 3 3 := ⟨fun a w => by kernel_rfl⟩
instance : FieldOff Tryz.prog 116 4 4 := ⟨fun a w => by kernel_rfl⟩
instance : FieldOff Tryz.prog 116 5 5 := ⟨fun a w => by kernel_rfl⟩
instance : FieldOff Tryz.prog 116 6 6 := ⟨fun a w => by kernel_rfl⟩
instance : FieldOff Tryz.prog 122 0 0 := ⟨fun a w => by kernel_rfl⟩
instance : FieldOff Tryz.prog 122 1 12 := ⟨fun a w => by kernel_rfl⟩
instance : FieldOff Tryz.prog 122 2 13 := ⟨fun a w => by kernel_rfl⟩
instance : FieldOff Tryz.prog 122 3 14 := ⟨fun a w => by kernel_rfl⟩
instance : FieldOff Tryz.prog 130 0 0 := ⟨fun a w => by kernel_rfl⟩
instance : FieldOff Tryz.prog 130 1 1 := ⟨fun a w => by kernel_rfl⟩
instance : FieldOff Tryz.prog 133 0 0 := ⟨fun a w => by kernel_rfl⟩
instance : FieldOff Tryz.prog 133 1 1 := ⟨fun a w => by kernel_rfl⟩
instance : FieldOff Tryz.prog 135 0 0 := ⟨fun a w => by kernel_rfl⟩
instance : FieldOff Tryz.prog 135 1 1 := ⟨fun a w => by kernel_rfl⟩
instance : FieldOff Tryz.prog 135 2 2 := ⟨fun a w => by kernel_rfl⟩
instance : FieldOff Tryz.prog 153 0 0 := ⟨fun a w => by kernel_rfl⟩
instance : FieldOff Tryz.prog 153 1 12 := ⟨fun a w => by kernel_rfl⟩
instance : FieldOff Tryz.prog 153 2 13 := ⟨fun a w => by kernel_rfl⟩
instance : FieldOff Tryz.prog 153 3 14 := ⟨fun a w => by kernel_rfl⟩
instance : FieldOff Tryz.prog 153 4 18 := ⟨fun a w => by kernel_rfl⟩
instance : FieldOff Tryz.prog 153 5 19 := ⟨fun a w => by kernel_rfl⟩
instance : FieldOff Tryz.prog 153 6 20 := ⟨fun a w => by kernel_rfl⟩
instance : FieldOff Tryz.prog 153 7 21 := ⟨fun a w => by kernel_rfl⟩
instance : FieldOff Tryz.prog 157 0 0 := ⟨fun a w => by kernel_rfl⟩
instance : FieldOff Tryz.prog 157 1 1 := ⟨fun a w => by kernel_rfl⟩
instance : FieldOff Tryz.prog 157 2 2 := ⟨fun a w => by kernel_rfl⟩
instance : FieldOff Tryz.prog 157 3 3 := ⟨fun a w => by kernel_rfl⟩
instance : FieldOff Tryz.prog 157 4 4 := ⟨fun a w => by kernel_rfl⟩
instance : FieldOff Tryz.prog 157 5 5 := ⟨fun a w => by kernel_rfl⟩
instance : FieldOff Tryz.prog 161 0 0 := ⟨fun a w => by kernel_rfl⟩
instance : FieldOff Tryz.prog 161 1 1 := ⟨fun a w => by kernel_rfl⟩
instance : FieldOff Tryz.prog 161 2 2 := ⟨fun a w => by kernel_rfl⟩
instance : FieldOff Tryz.prog 180 2 0 := ⟨fun a w => by kernel_rfl⟩
instance : FieldOff Tryz.prog 183 0 0 := ⟨fun a w => by kernel_rfl⟩
instance : FieldOff Tryz.prog 207 0 0 := ⟨fun a w => by kernel_rfl⟩
instance : FieldOff Tryz.prog 207 1 1 := ⟨fun a w => by kernel_rfl⟩
instance : FieldOff Tryz.prog 207 2 2 := ⟨fun a w => by kernel_rfl⟩
instance : FieldOff Tryz.prog 207 3 3 := ⟨fun a w => by kernel_rfl⟩
instance : FieldOff Tryz.prog 207 4 4 := ⟨fun a w => by kernel_rfl⟩
instance : FieldOff Tryz.prog 212 0 0 := ⟨fun a w => by kernel_rfl⟩
instance : FieldOff Tryz.prog 212 1 12 := ⟨fun a w => by kernel_rfl⟩
instance : FieldOff Tryz.prog 212 2 13 := ⟨fun a w => by kernel_rfl⟩
instance : FieldOff Tryz.prog 212 3 14 := ⟨fun a w => by kernel_rfl⟩
instance : FieldOff Tryz.prog 212 4 44 := ⟨fun a w => by kernel_rfl⟩
instance : FieldOff Tryz.prog 212 5 45 := ⟨fun a w => by kernel_rfl⟩
instance : FieldOff Tryz.prog 226 0 0 := ⟨fun a w => by kernel_rfl⟩
instance : FieldOff Tryz.prog 226 1 12 := ⟨fun a w => by kernel_rfl⟩
instance : FieldOff Tryz.prog 226 2 13 := ⟨fun a w => by kernel_rfl⟩
instance : FieldOff Tryz.prog 226 3 14 := ⟨fun a w => by kernel_rfl⟩
instance : FieldOff Tryz.prog 226 4 15 := ⟨fun a w => by kernel_rfl⟩
instance : FieldOff Tryz.prog 226 5 16 := ⟨fun a w => by kernel_rfl⟩
instance : FieldOff Tryz.prog 254 0 0 := ⟨fun a w => by kernel_rfl⟩
instance : FieldOff Tryz.prog 257 0 0 := ⟨fun a w => by kernel_rfl⟩
instance : FieldOff Tryz.prog 261 0 0 := ⟨fun a w => by kernel_rfl⟩
instance : FieldOff Tryz.prog 261 1 1 := ⟨fun a w => by kernel_rfl⟩
instance : FieldOff Tryz.prog 261 2 2 := ⟨fun a w => by kernel_rfl⟩
instance : FieldOff Tryz.prog 261 3 3 := ⟨fun a w => by kernel_rfl⟩
instance : FieldOff Tryz.prog 268 0 0 := ⟨fun a w => by kernel_rfl⟩
instance : FieldOff Tryz.prog 268 1 1 := ⟨fun a w => by kernel_rfl⟩
instance : FieldOff Tryz.prog 270 1 0 := ⟨fun a w => by kernel_rfl⟩
instance : FieldOff Tryz.prog 272 1 0 := ⟨fun a w => by kernel_rfl⟩
instance : FieldOff Tryz.prog 272 2 1 := ⟨fun a w => by kernel_rfl⟩
instance : FieldOff Tryz.prog 274 0 0 := ⟨fun a w => by kernel_rfl⟩
instance : FieldOff Tryz.prog 274 1 3 := ⟨fun a w => by kernel_rfl⟩
instance : FieldOff Tryz.prog 274 2 4 := ⟨fun a w => by kernel_rfl⟩
instance : FieldOff Tryz.prog 274 3 5 := ⟨fun a w => by kernel_rfl⟩
instance : FieldOff Tryz.prog 291 0 0 := ⟨fun a w => by kernel_rfl⟩
instance : FieldOff Tryz.prog 291 1 1 := ⟨fun a w => by kernel_rfl⟩
instance : FieldOff Tryz.prog 291 2 2 := ⟨fun a w => by kernel_rfl⟩
instance : FieldOff Tryz.prog 295 1 1 := ⟨fun a w => by kernel_rfl⟩
instance : FieldOff Tryz.prog 295 2 2 := ⟨fun a w => by kernel_rfl⟩
instance : FieldOff Tryz.prog 295 3 3 := ⟨fun a w => by kernel_rfl⟩
instance : FieldOff Tryz.prog 295 4 4 := ⟨fun a w => by kernel_rfl⟩
instance : FieldOff Tryz.prog 295 5 5 := ⟨fun a w => by kernel_rfl⟩
instance : FieldOff Tryz.prog 295 6 6 := ⟨fun a w => by kernel_rfl⟩
instance : FieldOff Tryz.prog 295 7 7 := ⟨fun a w => by kernel_rfl⟩
instance : FieldOff Tryz.prog 295 8 8 := ⟨fun a w => by kernel_rfl⟩
instance : FieldOff Tryz.prog 295 9 32 := ⟨fun a w => by kernel_rfl⟩
instance : FieldOff Tryz.prog 295 10 33 := ⟨fun a w => by kernel_rfl⟩
instance : U8Ty Tryz.prog 5 := ⟨by kernel_rfl⟩
instance : ZeroElem Tryz.prog 5 byteE 0 := ⟨by obtain ⟨i, h1, h2, h3, h4⟩ := info_parts info5; exact ⟨i, _, h1, h2, h3, by omega, rfl, rfl⟩⟩
end Go.Proofs.YtcdkaggdidfenaaGreatDoor
