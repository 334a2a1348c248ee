import Derived.Test.YtblbohcaphcobaaGreatDoorBunP
namespace Go.Proofs.YtblbohcaphcobaaGreatDoor
open Go.ChangeShapes Go.WideShapes Go.ChangeAt Go.RowKit
end Go.Proofs.YtblbohcaphcobaaGreatDoor
