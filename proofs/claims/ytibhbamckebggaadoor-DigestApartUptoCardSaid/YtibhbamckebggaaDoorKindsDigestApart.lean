/- The kinds of the struct types that DigestApart takes: how their cells are told. -/
import Derived.Test.YtibhbamckebggaaDoorWMore
namespace Go.Proofs.YtibhbamckebggaaDoor.K
open Go.RowKit Go.Proofs.YtibhbamckebggaaDoorW.PrintWords
end Go.Proofs.YtibhbamckebggaaDoor.K
