/-
  How the arguments of the laws read.
-/
import Derived.Test.YtfdaaliffcfjjaaGreatDoorVcZ
import Derived.Test.YtfdaaliffcfjjaaGreatDoorDat
import Derived.Test.YtfdaaliffcfjjaaGreatDoorVcK
namespace Go.Proofs.YtfdaaliffcfjjaaGreatDoor
open Go.RowKit
theorem Rds_u8 {P : Program} {t : TypeId} (ht : P.underlying t = some (.int .u8)) : Rds P tU8 t := ⟨fun h => by
  obtain ⟨n, rfl, _⟩ := DataW.trod_int ht h
  exact ⟨n, _, rfl, rfl⟩⟩
end Go.Proofs.YtfdaaliffcfjjaaGreatDoor
