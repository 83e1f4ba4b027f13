/-
  How the arguments of the laws read.
-/
import Derived.Test.YtlpgopanikikkaaVcZ
import Derived.Test.YtlpgopanikikkaaDat
namespace Go.Proofs.Ytlpgopanikikkaa
open Go.RowKit
theorem tyLCharge_Rds : Rds Try.prog tyLCharge 34 := Rds_map (Rds_struct Try.underlying34 (by kernel_rfl) (Fs_cons rfl (by kernel_rfl) (Rds_int Try.underlying3) (Fs_cons rfl (by kernel_rfl) (Rds_int Try.underlying3) (Fs_cons rfl (by kernel_rfl) (Rds_slice Try.underlying32 (by kernel_rfl) (by decide) (Rds_int Try.underlying3)) (Fs_cons rfl (by kernel_rfl) (Rds_slice Try.underlying32 (by kernel_rfl) (by decide) (Rds_int Try.underlying3)) (Fs_one rfl (by kernel_rfl) (Rds_slice Try.underlying32 (by kernel_rfl) (by decide) (Rds_int Try.underlying3)))))))) (fun ⟨a0, a1, a2, a3, a4⟩ => ⟨⟨a0, a1, a2, a3, a4⟩, rfl⟩)
theorem tyLRow_Rds : Rds Try.prog tyLRow 49 := Rds_map (Rds_struct Try.underlying49 (by kernel_rfl) (Fs_cons rfl (by kernel_rfl) (Rds_int Try.underlying3) (Fs_one rfl (by kernel_rfl) (Rds_slice Try.underlying32 (by kernel_rfl) (by decide) (Rds_int Try.underlying3))))) (fun ⟨a0, a1⟩ => ⟨⟨a0, a1⟩, rfl⟩)
theorem tyLUpdate_Rds : Rds Try.prog tyLUpdate 51 := Rds_map (Rds_struct Try.underlying51 (by kernel_rfl) (Fs_cons rfl (by kernel_rfl) (Rds_int Try.underlying3) (Fs_cons rfl (by kernel_rfl) tyLRow_Rds (Fs_cons rfl (by kernel_rfl) (Rds_int Try.underlying3) (Fs_one rfl (by kernel_rfl) (Rds_int Try.underlying3)))))) (fun ⟨a0, a1, a2, a3⟩ => ⟨⟨a0, a1, a2, a3⟩, rfl⟩)
theorem tyLGroup_Rds : Rds Try.prog tyLGroup 82 := Rds_map (Rds_struct Try.underlying82 (by kernel_rfl) (Fs_cons rfl (by kernel_rfl) (Rds_int Try.underlying3) (Fs_cons rfl (by kernel_rfl) (Rds_int Try.underlying3) (Fs_cons rfl (by kernel_rfl) (Rds_int Try.underlying3) (Fs_one rfl (by kernel_rfl) (Rds_int Try.underlying3)))))) (fun ⟨a0, a1, a2, a3⟩ => ⟨⟨a0, a1, a2, a3⟩, rfl⟩)
theorem tyLAnnotated_Rds : Rds Try.prog tyLAnnotated 87 := Rds_map (Rds_struct Try.underlying87 (by kernel_rfl) (Fs_cons rfl (by kernel_rfl) tyLRow_Rds (Fs_one rfl (by kernel_rfl) (Rds_slice Try.underlying32 (by kernel_rfl) (by decide) (Rds_int Try.underlying3))))) (fun ⟨a0, a1⟩ => ⟨⟨a0, a1⟩, rfl⟩)
end Go.Proofs.Ytlpgopanikikkaa
