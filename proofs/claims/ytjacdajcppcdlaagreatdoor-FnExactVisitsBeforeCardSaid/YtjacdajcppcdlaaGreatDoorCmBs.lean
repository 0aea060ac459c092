import Derived.Test.YtjacdajcppcdlaaGreatDoorCmD
namespace Go.Cm
def bs (l:List Nat):ByteArray:=⟨(l.map UInt8.ofNat).toArray⟩
end Go.Cm
