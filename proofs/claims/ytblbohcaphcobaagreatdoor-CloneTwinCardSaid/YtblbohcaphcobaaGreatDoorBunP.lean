import Derived.Test.YtblbohcaphcobaaGreatDoorBunG
import Derived.Test.YtblbohcaphcobaaGreatDoorBunA
import Derived.Test.YtblbohcaphcobaaGreatDoorBunO
namespace Go.Proofs.YtblbohcaphcobaaGreatDoor
section
open Go
section
variable {F:Fence} {n:Nat} {P:Program} {ops:Array Oper} {md:Region.Mode}
end
end
section
open Go.ChangeShapes Go.WideShapes Go.ChangeAt Go.RowKit
attribute [local go_sem] Oper.semAt_some
end
end Go.Proofs.YtblbohcaphcobaaGreatDoor
