/-
  How the arguments of the laws read.
-/
import Derived.Test.YtpijbmiahfnliaaVcZ
import Derived.Test.YtpijbmiahfnliaaDat
namespace Go.Proofs.Ytpijbmiahfnliaa
open Go.RowKit
theorem Rds_u8 {P : Program} {t : TypeId} (ht : P.underlying t = some (.int .u8)) : Rds P tU8 t := ⟨fun h => by
  obtain ⟨n, rfl, _⟩ := DataW.trod_int ht h
  exact ⟨n, _, rfl, rfl⟩⟩
end Go.Proofs.Ytpijbmiahfnliaa
