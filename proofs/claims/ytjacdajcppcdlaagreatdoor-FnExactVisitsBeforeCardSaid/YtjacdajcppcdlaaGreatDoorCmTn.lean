namespace Go.Cm
def c5g (xs:List Int):Nat:=(xs.reverse.dropWhile fun x=>x==0).length
end Go.Cm
