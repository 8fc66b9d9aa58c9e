/- Walks of functions that the claim reaches, and plain facts of them. Conditions: those in the statements. -/
import Derived.Test.YtndlnadbnganeaaGreatDoorJnShelf
set_option linter.unusedSimpArgs false
set_option linter.unusedVariables false
