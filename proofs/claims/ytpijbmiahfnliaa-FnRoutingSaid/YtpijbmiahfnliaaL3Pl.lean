/-
  Plain laws of the functions that the law runs over its arguments.
-/
import Derived.Test.YtpijbmiahfnliaaL3F3
import Derived.Test.YtpijbmiahfnliaaVcP
namespace Go.Proofs.Ytpijbmiahfnliaa
open Go.RowKit

end Go.Proofs.Ytpijbmiahfnliaa
