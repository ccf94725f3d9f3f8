/- What chapter 04 takes over of my texts of chapter 05: rows of octets of the call's own, octets of a text, a frame's block. Copied by a program from XStuff, XStuff2, XAdvMay, XAdvEnc, XAdvDec, XAdvDec2, XAdvBackPlain (which name functions that chapter 04 lacks). -/
import Derived.Test.YtnnimkailajgaaaDoorAdvBackPlain
import Derived.Maps.AppendAt
import Derived.Deep.AppendLies
import Derived.IntWalk
import Derived.Deep.CutRange
import Derived.WalkMore
import Derived.Deep.RegionHeld3
import Derived.Deep.DeepCutAuto
import Derived.Lib.Strings
namespace Go.Proofs.YtnnimkailajgaaaDoor
open Go.RowKit
set_option linter.unusedVariables false
set_option linter.unusedSimpArgs false

end Go.Proofs.YtnnimkailajgaaaDoor
