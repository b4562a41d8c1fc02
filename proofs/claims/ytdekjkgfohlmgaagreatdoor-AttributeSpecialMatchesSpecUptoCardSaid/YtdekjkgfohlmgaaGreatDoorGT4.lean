/- A part of the proof: GT4. -/
import Derived.Test.YtdekjkgfohlmgaaGreatDoorGT3
