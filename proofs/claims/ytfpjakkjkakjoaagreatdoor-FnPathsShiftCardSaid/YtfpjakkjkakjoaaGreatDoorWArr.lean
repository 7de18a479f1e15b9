-- Words of the print that this claim uses: out of what the kit's print lays for a seat, those that the texts beside reach.
import Derived.Test.YtfpjakkjkakjoaaGreatDoorWWords
namespace Go.Proofs.YtfpjakkjkakjoaaGreatDoorW.PrintWords
open Go.RowKit
namespace Kd
end Kd
end Go.Proofs.YtfpjakkjkakjoaaGreatDoorW.PrintWords
