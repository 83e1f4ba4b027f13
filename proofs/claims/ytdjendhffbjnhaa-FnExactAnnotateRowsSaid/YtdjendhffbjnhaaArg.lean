/-
  How the arguments of the laws read.
-/
import Derived.Test.YtdjendhffbjnhaaVcZ
import Derived.Test.YtdjendhffbjnhaaDat
namespace Go.Proofs.Ytdjendhffbjnhaa
open Go.RowKit
theorem tyLCond_Rds : Rds Try.prog tyLCond 152 := Rds_map (Rds_struct Try.underlying152 (by kernel_rfl) (Fs_cons rfl (by kernel_rfl) (Rds_int Try.underlying3) (Fs_cons rfl (by kernel_rfl) (Rds_int Try.underlying3) (Fs_one rfl (by kernel_rfl) (Rds_int Try.underlying3))))) (fun ⟨a0, a1, a2⟩ => ⟨⟨a0, a1, a2⟩, rfl⟩)
theorem tyLQuery_Rds : Rds Try.prog tyLQuery 127 := Rds_map (Rds_struct Try.underlying127 (by kernel_rfl) (Fs_cons rfl (by kernel_rfl) (Rds_int Try.underlying3) (Fs_cons rfl (by kernel_rfl) (Rds_int Try.underlying3) (Fs_cons rfl (by kernel_rfl) (Rds_slice Try.underlying125 (by kernel_rfl) (by decide) tyLCond_Rds) (Fs_one rfl (by kernel_rfl) (Rds_slice Try.underlying37 (by kernel_rfl) (by decide) (Rds_int Try.underlying3))))))) (fun ⟨a0, a1, a2, a3⟩ => ⟨⟨a0, a1, a2, a3⟩, rfl⟩)
theorem tyLSpan_Rds : Rds Try.prog tyLSpan 143 := Rds_map (Rds_struct Try.underlying143 (by kernel_rfl) (Fs_cons rfl (by kernel_rfl) (Rds_int Try.underlying3) (Fs_cons rfl (by kernel_rfl) (Rds_int Try.underlying3) (Fs_one rfl (by kernel_rfl) (Rds_slice Try.underlying37 (by kernel_rfl) (by decide) (Rds_int Try.underlying3)))))) (fun ⟨a0, a1, a2⟩ => ⟨⟨a0, a1, a2⟩, rfl⟩)
theorem tyLIndex_Rds : Rds Try.prog tyLIndex 57 := Rds_map (Rds_struct Try.underlying57 (by kernel_rfl) (Fs_cons rfl (by kernel_rfl) (Rds_slice Try.underlying54 (by kernel_rfl) (by decide) tyLQuery_Rds) (Fs_one rfl (by kernel_rfl) (Rds_slice Try.underlying55 (by kernel_rfl) (by decide) (Rds_slice Try.underlying129 (by kernel_rfl) (by decide) tyLSpan_Rds))))) (fun ⟨a0, a1⟩ => ⟨⟨a0, a1⟩, rfl⟩)
theorem tyLRow_Rds : Rds Try.prog tyLRow 90 := Rds_map (Rds_struct Try.underlying90 (by kernel_rfl) (Fs_cons rfl (by kernel_rfl) (Rds_int Try.underlying3) (Fs_one rfl (by kernel_rfl) (Rds_slice Try.underlying37 (by kernel_rfl) (by decide) (Rds_int Try.underlying3))))) (fun ⟨a0, a1⟩ => ⟨⟨a0, a1⟩, rfl⟩)
end Go.Proofs.Ytdjendhffbjnhaa
