import Derived.Test.YtagijaijjjaolaaDoorLBlockFirm
namespace Go.Proofs.YtagijaijjjaolaaDoor.Pure
open Go.RowKit Go.Proofs.YtagijaijjjaolaaDoor.PBL Go.Proofs.YtagijaijjjaolaaDoorW.PrintWords Go.Proofs.YtagijaijjjaolaaDoorW.PrintLast

/-- YOURS: ∀ (l0 : List Int) (l1 : List Int) (l2 : List Bool), (l0.length ≤ maxLen ∧ l0.length * 1 ≤ 140737488351232 ∧ ∀ y0_ ∈ l0, (Lit.int .u8 y0_).wf = true) → (l1.length ≤ maxLen ∧ l1.length * 1 ≤ 140737488351232 ∧ ∀ y0_ ∈ l1, (Lit.int .u8 y0_).wf = true) → (l2.length ≤ maxLen ∧ l2.length * 1 ≤ 140737488351232 ∧ ∀ y0_ ∈ l2, True) → chatelainelaw23_BlockFirm.f l0 l1 l2 = some true
What it reaches (each with k first where it has rounds; `.mono`: more rounds tell the same; `.l0`, ..: its loops, with `.mono_l`): block_New.f, block_fault.f, block_Disk_asked.f, slices_Clone_byte_byte_31.f, block_Disk_Write.f, chatelainelaw23_full.f, block_Disk_Len.f, block_Disk_Dirty.f, block_Disk_Crash.f, block_Disk_Flush.f, block_Disk_Read.f, chatelainelaw0_SameBytes.f, reflectlite_ValueOf.f, reflectlite_Value_Type.f, reflectlite_Value_IsNil.f, reflectlite_TypeOf.f, reflectlite_Value_Elem.f, reflectlite_Value_Set.f, errors_as.f, errors_As.f, errors_is.f, errors_Is.f, api_Code.f, chatelainelaw0_Num.f, chatelainelaw23_awake.f, chatelainelaw23_BlockFirm.f -/
theorem BlockFirm : chatelainelaw23_BlockFirm.Pure := by
  unfold chatelainelaw23_BlockFirm.Pure
  intros
  rfl

end Go.Proofs.YtagijaijjjaolaaDoor.Pure
