import Derived.Test.YtlnejaehiangnaaGreatDoorCmD
namespace Go.Cm
/-- A text by its bytes. -/
def bs (l : List Nat) : ByteArray := ⟨(l.map UInt8.ofNat).toArray⟩
end Go.Cm
