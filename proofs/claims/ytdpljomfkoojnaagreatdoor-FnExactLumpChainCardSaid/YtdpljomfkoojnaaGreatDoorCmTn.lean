namespace Go.Cm
def trimN (xs:List Int):Nat:=(xs.reverse.dropWhile fun x=>x==0).length
end Go.Cm
