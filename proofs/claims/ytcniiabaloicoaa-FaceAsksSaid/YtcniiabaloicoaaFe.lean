/-
face.Holds is walked in the text that this one imports.
-/
import Derived.Test.YtcniiabaloicoaaFd
