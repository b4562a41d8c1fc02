/- A part of the proof: GA. -/
import Derived.Test.YtdekjkgfohlmgaaGreatDoorGT3
import Derived.Test.YtdekjkgfohlmgaaGreatDoorGX2
import Derived.Test.YtdekjkgfohlmgaaGreatDoorGY1
