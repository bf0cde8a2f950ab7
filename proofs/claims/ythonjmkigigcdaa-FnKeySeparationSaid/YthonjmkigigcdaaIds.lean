/-
  Contracts: identities, vectors, cards and records as structs by value: copies made field by field, and their validity tests. Each makes new blocks at most; the world behind each is written out.
-/
import Derived.Test.YthonjmkigigcdaaArith
namespace Go.Proofs.Ythonjmkigigcdaa
open Go.RowKit
















end Go.Proofs.Ythonjmkigigcdaa
