import Derived.Test.YtblbohcaphcobaaGreatDoorBunN
import Derived.Test.YtblbohcaphcobaaGreatDoorBunM
import Derived.Test.YtblbohcaphcobaaGreatDoorBunJ
import Derived.Test.YtblbohcaphcobaaGreatDoorBunP
namespace Go.Proofs.YtblbohcaphcobaaGreatDoor
section
open Go.ChangeShapes Go.WideShapes Go.ChangeAt Go.RowKit
section
variable {c:Nat} {w:World} {B:Nat} {f:cJ} {s:aA}
end
end
section
open Go.ChangeShapes Go.WideShapes Go.ChangeAt Go.RowKit
section
variable {c:Nat} {w:World} {B:Nat} {f:cJ} {s:aA}
end
end
end Go.Proofs.YtblbohcaphcobaaGreatDoor
