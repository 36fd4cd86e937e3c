import Derived.Test.YtagijaijjjaolaaDoorLBlockScript
namespace Go.Proofs.YtagijaijjjaolaaDoor.Pure
open Go.RowKit Go.Proofs.YtagijaijjjaolaaDoor.PBL Go.Proofs.YtagijaijjjaolaaDoorW.PrintWords Go.Proofs.YtagijaijjjaolaaDoorW.PrintLast

/-- YOURS: ∀ (a0 : Int) (l1 : List (S44)), ((Lit.int .i64 a0).wf = true) → (l1.length ≤ maxLen ∧ l1.length * 56 ≤ 140737488351232 ∧ ∀ y0_ ∈ l1, chatelainelaw23_BlockScript.Q44 y0_) → chatelainelaw23_BlockScript.f a0 l1 = some true
What it reaches (each with k first where it has rounds; `.mono`: more rounds tell the same; `.l0`, ..: its loops, with `.mono_l`): block_New.f, block_fault.f, block_Disk_asked.f, slices_Clone_byte_byte_31.f, block_Disk_Write.f, chatelainelaw23_full.f, block_Disk_Len.f, block_Disk_Dirty.f, block_Disk_Crash.f, block_Disk_Flush.f, block_Disk_Read.f, chatelainelaw0_SameBytes.f, reflectlite_ValueOf.f, reflectlite_Value_Type.f, reflectlite_Value_IsNil.f, reflectlite_TypeOf.f, reflectlite_Value_Elem.f, reflectlite_Value_Set.f, errors_as.f, errors_As.f, errors_is.f, errors_Is.f, api_Code.f, chatelainelaw0_Num.f, chatelainelaw23_awake.f, chatelainelaw23_great.f, chatelaineref23_New.f, chatelainelaw0_SameInts.f, slices_Clone_byte_byte_42.f, slices_Clone_bool_bool.f, block_Disk_Copy.f, chatelainelaw0_LendBytes.f, chatelaineref23_Disk_There.f, chatelaineref23_Disk_Write.f, chatelainelaw0_KeptBytes.f, chatelainelaw0_OverBytes.f, chatelaineref23_Disk_Flush.f, chatelaineref23_Disk_List.f, chatelaineref23_Disk_Crash.f, chatelainelaw23_done.f, block_Disk_Firm.f, chatelainelaw23_same.f, chatelainelaw23_BlockScript.f -/
theorem BlockScript : chatelainelaw23_BlockScript.Pure := by
  unfold chatelainelaw23_BlockScript.Pure
  intros
  rfl

end Go.Proofs.YtagijaijjjaolaaDoor.Pure
