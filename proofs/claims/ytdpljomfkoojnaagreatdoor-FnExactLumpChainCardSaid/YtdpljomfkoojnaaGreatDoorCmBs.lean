import Derived.Test.YtdpljomfkoojnaaGreatDoorCmD
namespace Go.Cm
def bs (l:List Nat):ByteArray:=⟨(l.map UInt8.ofNat).toArray⟩
end Go.Cm
