import Derived.Orders
namespace Go.Shelf
end Go.Shelf
namespace Go.Proofs
open Go.Shelf
end Go.Proofs
