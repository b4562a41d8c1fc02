/- A part of the proof: GC1. -/
import Derived.Test.YtdekjkgfohlmgaaGreatDoorGT3
