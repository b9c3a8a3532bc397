/- Texts that the proof rests on, part 6. -/
import Derived.Shelf.Unicode.DecodeAny
import Derived.Test.YtiphindialkmnaaDoorMOnly5
section
namespace Go.Proofs.YtiphindialkmnaaDoor.X
open Go.RowKit
structure Glob (w : World) : Prop where
  tabs : Lib.Utf8Tabs 1 2 w
theorem Glob.below {w w' : World} (h : Glob w) (hb : Below w.heap.size w w') : Glob w' := ⟨Utf8Tabs_below h.tabs hb⟩
end Go.Proofs.YtiphindialkmnaaDoor.X
end
