/- barbicanlaw05.awake: the chapter's example. -/
import Derived.Test.YtjnhfmicadcmnaaDoorMacFits
import Derived.Test.YtjnhfmicadcmnaaDoorShaAwake
namespace Go.Proofs.YtjnhfmicadcmnaaDoor.K
open Go Go.RowKit

def jefe : List (BitVec 8) := [74#8, 101#8, 102#8, 101#8]
def yaWant : List (BitVec 8) := [119#8, 104#8, 97#8, 116#8, 32#8, 100#8, 111#8, 32#8, 121#8, 97#8, 32#8, 119#8, 97#8, 110#8, 116#8, 32#8, 102#8, 111#8, 114#8, 32#8, 110#8, 111#8, 116#8, 104#8, 105#8, 110#8, 103#8, 63#8]
def jefeTag : List (BitVec 8) := [91#8, 220#8, 193#8, 70#8, 191#8, 96#8, 117#8, 78#8, 106#8, 4#8, 36#8, 38#8, 8#8, 149#8, 117#8, 199#8, 90#8, 0#8, 63#8, 8#8, 157#8, 39#8, 57#8, 131#8, 157#8, 236#8, 88#8, 185#8, 100#8, 236#8, 56#8, 67#8]
theorem tag_jefe : M.tag jefe yaWant = jefeTag := by decide +kernel
end Go.Proofs.YtjnhfmicadcmnaaDoor.K
