/-
  How the arguments of the laws read.
-/
import Derived.Test.YtdlminfjdodjoaaGreatVcZ
import Derived.Test.YtdlminfjdodjoaaGreatDat
namespace Go.Proofs.YtdlminfjdodjoaaGreat
set_option linter.unusedVariables false
set_option linter.unusedSimpArgs false
open Go.RowKit
theorem vV {P:Program} {t:TypeId} (ht:P.underlying t=some (.int .u8)):sW P mn t:=⟨fun h=>by
 obtain⟨n,rfl,_⟩:=DataW.trod_int ht h
 exact⟨n,_,rfl,rfl⟩⟩
end Go.Proofs.YtdlminfjdodjoaaGreat
