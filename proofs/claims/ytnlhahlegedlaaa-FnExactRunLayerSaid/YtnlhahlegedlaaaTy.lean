/- The types of this program, as the walk's laws want them. -/
import Derived.Test.YtnlhahlegedlaaaStep
namespace Go.Proofs.Ytnlhahlegedlaaa
set_option linter.unusedSimpArgs false
set_option linter.unusedVariables false
open Go.RowKit
instance tyI64 : SlTy Try.prog 30 2 1 (.int .i64 0) 8 := ⟨by kernel_rfl, by kernel_rfl, by kernel_rfl, by decide, by decide⟩
instance tyF32 : SlTy Try.prog 46 26 1 (.float .f32 0) 4 := ⟨by kernel_rfl, by kernel_rfl, by kernel_rfl, by decide, by decide⟩
instance tyU8 : SlTy Try.prog 88 5 1 (.int .u8 0) 1 := ⟨by kernel_rfl, by kernel_rfl, by kernel_rfl, by decide, by decide⟩
instance tyF32s : SlTy Try.prog 25 46 1 (.slice none 0 0) 24 := ⟨by kernel_rfl, by kernel_rfl, by kernel_rfl, by decide, by decide⟩
instance c1I64 : Cell1 Try.prog 2 := ⟨by kernel_rfl, by kernel_rfl⟩
instance c1Int : Cell1 Try.prog 3 := ⟨by kernel_rfl, by kernel_rfl⟩
instance c1Bool : Cell1 Try.prog 4 := ⟨by kernel_rfl, by kernel_rfl⟩
instance c1U8 : Cell1 Try.prog 5 := ⟨by kernel_rfl, by kernel_rfl⟩
instance c1Str : Cell1 Try.prog 9 := ⟨by kernel_rfl, by kernel_rfl⟩
instance c1F32 : Cell1 Try.prog 26 := ⟨by kernel_rfl, by kernel_rfl⟩
instance c1F64 : Cell1 Try.prog 141 := ⟨by kernel_rfl, by kernel_rfl⟩
instance c1SlI64 : Cell1 Try.prog 30 := ⟨by kernel_rfl, by kernel_rfl⟩
instance c1SlF32 : Cell1 Try.prog 46 := ⟨by kernel_rfl, by kernel_rfl⟩
instance c1SlU8 : Cell1 Try.prog 88 := ⟨by kernel_rfl, by kernel_rfl⟩
end Go.Proofs.Ytnlhahlegedlaaa
