/- Plain lemmas on lists, and on slices that are read, which the walks of this seat use; no condition but those that each theorem states. -/
import Derived.Test.YtaonlhjblocfkaaProg
import Derived.Test.YtaonlhjblocfkaaWMore
namespace Go.Proofs.Ytaonlhjblocfkaa.X
open Go.RowKit

/-- The place of the first element of which p holds; -1 if there is none. -/
def idxF {α : Type} (p : α → Bool) : List α → Int
  | [] => -1
  | x :: xs => if p x then 0 else if idxF p xs < 0 then -1 else idxF p xs + 1

end Go.Proofs.Ytaonlhjblocfkaa.X
