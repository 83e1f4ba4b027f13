/-
  How the arguments of the laws read.
-/
import Derived.Test.YtcjelfdpekbbkaaDoorVcZ
import Derived.Test.YtcjelfdpekbbkaaDoorDat
import Derived.Test.YtcjelfdpekbbkaaDoorVcK
namespace Go.Proofs.YtcjelfdpekbbkaaDoor
open Go.RowKit
theorem Rds_u8 {P : Program} {t : TypeId} (ht : P.underlying t = some (.int .u8)) : Rds P tU8 t := ⟨fun h => by
  obtain ⟨n, rfl, _⟩ := DataW.trod_int ht h
  exact ⟨n, _, rfl, rfl⟩⟩
theorem tyLGroup_Rds : Rds Tryd.prog tyLGroup 23 := Rds_map (Rds_struct Tryd.underlying23 (by kernel_rfl) (Fs_cons rfl (by kernel_rfl) (Rds_int Tryd.underlying3) (Fs_cons rfl (by kernel_rfl) (Rds_int Tryd.underlying3) (Fs_cons rfl (by kernel_rfl) (Rds_int Tryd.underlying3) (Fs_one rfl (by kernel_rfl) (Rds_int Tryd.underlying3)))))) (fun ⟨a0, a1, a2, a3⟩ => ⟨⟨a0, a1, a2, a3⟩, rfl⟩)
theorem tyLCharge_Rds : Rds Tryd.prog tyLCharge 30 := Rds_map (Rds_struct Tryd.underlying30 (by kernel_rfl) (Fs_cons rfl (by kernel_rfl) (Rds_int Tryd.underlying3) (Fs_cons rfl (by kernel_rfl) (Rds_int Tryd.underlying3) (Fs_cons rfl (by kernel_rfl) (Rds_slice Tryd.underlying28 (by kernel_rfl) (by decide) (Rds_int Tryd.underlying3)) (Fs_cons rfl (by kernel_rfl) (Rds_slice Tryd.underlying28 (by kernel_rfl) (by decide) (Rds_int Tryd.underlying3)) (Fs_one rfl (by kernel_rfl) (Rds_slice Tryd.underlying28 (by kernel_rfl) (by decide) (Rds_int Tryd.underlying3)))))))) (fun ⟨a0, a1, a2, a3, a4⟩ => ⟨⟨a0, a1, a2, a3, a4⟩, rfl⟩)
theorem tyLRow_Rds : Rds Tryd.prog tyLRow 38 := Rds_map (Rds_struct Tryd.underlying38 (by kernel_rfl) (Fs_cons rfl (by kernel_rfl) (Rds_int Tryd.underlying3) (Fs_one rfl (by kernel_rfl) (Rds_slice Tryd.underlying28 (by kernel_rfl) (by decide) (Rds_int Tryd.underlying3))))) (fun ⟨a0, a1⟩ => ⟨⟨a0, a1⟩, rfl⟩)
theorem tyLUpdate_Rds : Rds Tryd.prog tyLUpdate 40 := Rds_map (Rds_struct Tryd.underlying40 (by kernel_rfl) (Fs_cons rfl (by kernel_rfl) (Rds_int Tryd.underlying3) (Fs_cons rfl (by kernel_rfl) tyLRow_Rds (Fs_cons rfl (by kernel_rfl) (Rds_int Tryd.underlying3) (Fs_one rfl (by kernel_rfl) (Rds_int Tryd.underlying3)))))) (fun ⟨a0, a1, a2, a3⟩ => ⟨⟨a0, a1, a2, a3⟩, rfl⟩)
end Go.Proofs.YtcjelfdpekbbkaaDoor
