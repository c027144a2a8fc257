/-
  The tables that the pieces of bytes stand on.
-/
import Derived.Test.YtjacnjecggedhaaEm4
import Derived.Test.YtjacnjecggedhaaFlT
