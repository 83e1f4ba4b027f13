/-
  How the arguments of the laws read.
-/
import Derived.Test.YtdlminfjdodjoaaGreatVcZ
import Derived.Test.YtdlminfjdodjoaaGreatDat
namespace Go.Proofs.YtdlminfjdodjoaaGreat
open Go.RowKit
theorem Qalx {P:Program} {t:TypeId} (ht:P.underlying t=some (.int .u8)):Rds P tU8 t:=⟨fun h=>by
 obtain⟨n,rfl,_⟩:=DataW.trod_int ht h
 exact⟨n,_,rfl,rfl⟩⟩
end Go.Proofs.YtdlminfjdodjoaaGreat
