/- A part of the proof: GC2. -/
import Derived.Test.YtdekjkgfohlmgaaGreatDoorGT3
