/-
  How the arguments of the laws read.
-/
import Derived.Test.YtjcdginailhfmaaVcZ
import Derived.Test.YtjcdginailhfmaaDat
namespace Go.Proofs.Ytjcdginailhfmaa
open Go.RowKit
theorem tyLVersion_Rds : Rds Try.prog tyLVersion 146 := Rds_map (Rds_struct Try.underlying146 (by kernel_rfl) (Fs_cons rfl (by kernel_rfl) (Rds_int Try.underlying3) (Fs_cons rfl (by kernel_rfl) (Rds_slice Try.underlying33 (by kernel_rfl) (by decide) (Rds_int Try.underlying3)) (Fs_cons rfl (by kernel_rfl) (Rds_int Try.underlying3) (Fs_one rfl (by kernel_rfl) (Rds_int Try.underlying3)))))) (fun ⟨a0, a1, a2, a3⟩ => ⟨⟨a0, a1, a2, a3⟩, rfl⟩)
theorem tyLStore_Rds : Rds Try.prog tyLStore 41 := Rds_map (Rds_struct Try.underlying41 (by kernel_rfl) (Fs_cons rfl (by kernel_rfl) (Rds_slice Try.underlying39 (by kernel_rfl) (by decide) (Rds_slice Try.underlying132 (by kernel_rfl) (by decide) tyLVersion_Rds)) (Fs_one rfl (by kernel_rfl) (Rds_int Try.underlying3)))) (fun ⟨a0, a1⟩ => ⟨⟨a0, a1⟩, rfl⟩)
theorem tyLRow_Rds : Rds Try.prog tyLRow 63 := Rds_map (Rds_struct Try.underlying63 (by kernel_rfl) (Fs_cons rfl (by kernel_rfl) (Rds_int Try.underlying3) (Fs_one rfl (by kernel_rfl) (Rds_slice Try.underlying33 (by kernel_rfl) (by decide) (Rds_int Try.underlying3))))) (fun ⟨a0, a1⟩ => ⟨⟨a0, a1⟩, rfl⟩)
theorem tyLUpdate_Rds : Rds Try.prog tyLUpdate 65 := Rds_map (Rds_struct Try.underlying65 (by kernel_rfl) (Fs_cons rfl (by kernel_rfl) (Rds_int Try.underlying3) (Fs_cons rfl (by kernel_rfl) tyLRow_Rds (Fs_cons rfl (by kernel_rfl) (Rds_int Try.underlying3) (Fs_one rfl (by kernel_rfl) (Rds_int Try.underlying3)))))) (fun ⟨a0, a1, a2, a3⟩ => ⟨⟨a0, a1, a2, a3⟩, rfl⟩)
theorem tyLAnnotated_Rds : Rds Try.prog tyLAnnotated 88 := Rds_map (Rds_struct Try.underlying88 (by kernel_rfl) (Fs_cons rfl (by kernel_rfl) tyLRow_Rds (Fs_one rfl (by kernel_rfl) (Rds_slice Try.underlying33 (by kernel_rfl) (by decide) (Rds_int Try.underlying3))))) (fun ⟨a0, a1⟩ => ⟨⟨a0, a1⟩, rfl⟩)
end Go.Proofs.Ytjcdginailhfmaa
