import Derived.Test.YtdpljomfkoojnaaGreatDoorPlToWeightsc
set_option linter.unusedVariables false
set_option maxRecDepth 100000
noncomputable section
namespace Go.Cm
abbrev P.s_l01Norm_b1 (x2:Int×Int×List (Bool×List Int×List Int)×List (Bool×List Int×List Int)×(Bool×List Int×List Int)×Unit) (g3:Int×Int×List (Bool×List Int×List Int)×List (Bool×List Int×List Int)×(Bool×List Int×List Int)×Unit→Option (List (Bool×List Int×List Int)×Unit)):Option (List (Bool×List Int×List Int)×Unit):=
 if decide (x2.1<x2.2.1)then if decide ((0:Int)≤x2.1)then if decide (x2.1<(x2.2.2.2.1.length:Int))then(S.s_l01Over (((x2.2.2.2.1.getD x2.1.toNat (false,([]:List Int),([]:List Int))).1,(x2.2.2.2.1.getD x2.1.toNat (false,([]:List Int),([]:List Int))).2.1,(x2.2.2.2.1.getD x2.1.toNat (false,([]:List Int),([]:List Int))).2.2),(x2.2.2.2.2.1.1,x2.2.2.2.2.1.2.1,x2.2.2.2.2.1.2.2),())).bind fun y4=>if decide (((x2.2.2.1.length+(List.length [(y4.1.1,y4.1.2.1,y4.1.2.2)]))*(56:Nat))≤(140737488355328:Nat))then g3 (IntKind.wrap .i64 (x2.1+(1:Int)),x2.2.1,x2.2.2.1++[(y4.1.1,y4.1.2.1,y4.1.2.2)],x2.2.2.2.1,(x2.2.2.2.2.1.1,x2.2.2.2.2.1.2.1,x2.2.2.2.2.1.2.2),())else none else none else none else some (x2.2.2.1,())
def P.s_l01Norm (k:Nat) (x:List (Bool×List Int×List Int)×Unit):Option (List (Bool×List Int×List Int)×Unit):=
 (S.s_l01Total (x.1,())).bind fun y0=>loopP P.s_l01Norm_b1 k ((0:Int),(x.1.length:Int),([]:List (Bool×List Int×List Int)),x.1,(y0.1.1,y0.1.2.1,y0.1.2.2),())
def normS (qs:List Q3) (q:Q3):List Q3:=qs.map fun r=>overQ r q
theorem over_s {x y:Q3} (hx:low x) (bx:below 350000000 x) (hy:low y) (bY:below 350000000 y) (h0:y.2.1≠0):S.s_l01Over (((rp B10 x).1,(rp B10 x).2.1,(rp B10 x).2.2),((rp B10 y).1,(rp B10 y).2.1,(rp B10 y).2.2),())=some (rp B10 (overQ x y),()):=rs_over hx bx hy bY h0 (Nat.le_refl _) (Nat.le_refl _)
open Classical in
def S.s_l01Norm (x:((List RB)×Unit)):(Option ((List RB)×Unit)):=if goodS B10 x.1∧x.1.length≤1000000∧(sumQ (x.1.map (rv B10))).2.1≠0 then some ((normS (x.1.map (rv B10)) (sumQ (x.1.map (rv B10)))).map (rp B10),())else none
theorem S.s_l01Norm_ok (x:((List RB)×Unit)) (r:_) (h:S.s_l01Norm x=some r):∃k,P.s_l01Norm k x=some r:=by
 obtain⟨xs,u⟩:=x
 unfold S.s_l01Norm at h
 dsimp only at h
 split at h
 case isFalse=>cases h
 rename_i hc
 obtain⟨hg,hl,h3⟩:=hc
 obtain⟨qs,rfl,_,hq,hs⟩:=id hg
 cases h
 rw[map_rv B10_le]at*
 rw[List.length_map]at hl
 have ht:=hs qs.length
 rw[List.take_length]at ht
 obtain⟨h1,h2⟩:=ht
 refine⟨qs.length+1,?_⟩
 unfold P.s_l01Norm
 dsimp only
 have et:S.s_l01Total (qs.map (rp B10),())=some (rp B10 (sumQ qs),()):=by
  unfold S.s_l01Total
  dsimp only
  rw[if_pos hg,map_rv B10_le]
 rw[et,Option.bind_some,List.length_map]
 generalize sumQ qs=q at*
 have key:=loop_up0 (k:=qs.length+1) (b:=P.s_l01Norm_b1) (n:=qs.length) (st:=fun i=>((i:Int),(qs.length:Int),(normS (qs.take i) q).map (rp B10),qs.map (rp B10),rp B10 q,())) (F:=fun _=>some ((normS qs q).map (rp B10),())) (fun i g hi hg=>by
  unfold P.s_l01Norm_b1
  dsimp only at hg ⊢
  have e1:(i:Int)<(qs.length:Int):=by omega
  have e2:(0:Int)≤(i:Int):=by omega
  have e3:(i+1)*56≤140737488355328:=by omega
  have e4:((normS (qs.take i) q).map (rp B10)).length=i:=by
   unfold normS
   simp
   omega
  simp only[e1,e2,e4,List.length_map,decide_true,if_true]
  rw[getD_cast (qs.map (rp B10)) i _ (by rw[List.length_map];exact hi),List.getElem_map,over_s (hq _ (List.getElem_mem hi)).1 (hq _ (List.getElem_mem hi)).2 h1 h2 h3,Option.bind_some]
  simp only[List.length_cons,List.length_nil,Nat.zero_add,e3,decide_true,if_true]
  rw[wr (by omega) (by omega),←hg]
  have e5:(normS (qs.take (i+1)) q).map (rp B10)=(normS (qs.take i) q).map (rp B10)++[rp B10 (overQ qs[i] q)]:=by
   unfold normS
   rw[←List.take_append_getElem hi,List.map_append,List.map_append]
   rfl
  rw[e5]
  rfl) (fun g=>by
  unfold P.s_l01Norm_b1
  dsimp only
  rw[if_neg (by simp),List.take_length]) (by omega)
 exact key
def P.s_ToWeights (k:Nat) (x:List ByteArray×Unit):Option ((List ByteArray×Bool)×Unit):=
 (S.s_l01List (x.1,())).bind fun y0=>if !y0.1.2 then some ((([]:List ByteArray),false),())else(S.s_l01Positive (y0.1.1,())).bind fun y1=>if !y1.1 then some ((([]:List ByteArray),false),())else(S.s_l01Total (y0.1.1,())).bind fun y2=>(S.s_l01Zero ((y2.1.1,y2.1.2.1,y2.1.2.2),())).bind fun y3=>if y3.1 then some ((([]:List ByteArray),false),())else(S.s_l01Norm (y0.1.1,())).bind fun y4=>(S.s_l01GiveAll (y4.1,())).bind fun y5=>some ((y5.1.1,y5.1.2),())
def S.s_ToWeights (x:((List ByteArray)×Unit)):(Option (((List ByteArray)×Bool)×Unit)):=P.s_ToWeights 0 x
theorem S.s_ToWeights_ok (x:((List ByteArray)×Unit)) (r:_) (h:S.s_ToWeights x=some r):∃k,P.s_ToWeights k x=some r:=⟨0,h⟩
def P.l_FnExactToWeights (k:Nat) (x:List ByteArray×Unit):Option (Bool×Unit):=
 (S.l_szStringS (x.1,(1000000:Int),())).bind fun y0=>if decide (y0.1<(0:Int))then some (true,())else(S.l_toStringSo (x.1,false,())).bind fun y1=>(S.s_ToWeights (seen y1.1.1 0 y1.1.2,())).bind fun y2=>(S.l_toStringSo (x.1,false,())).bind fun y3=>(S.i_ToWeights (seen y3.1.1 0 y3.1.2,())).bind fun y4=>(S.l_eqStringS (y4.1.1,y2.1.1,())).bind fun y5=>if !y5.1 then some (false,())else if ! (y4.1.2==y2.1.2)then some (false,())else(S.l_toStringSo (x.1,false,())).bind fun y6=>(S.l_intactStringS ((List.drop 0 y3.1.1,y3.1.2),(List.drop 0 y6.1.1,y6.1.2),())).bind fun y7=>if !y7.1 then some (false,())else(S.l_markStringS (seen y3.1.1 0 y3.1.2,(101:Int),())).bind fun y8=>if decide (y8.1<(0:Int))then some (false,())else(S.l_eqStringS (y4.1.1,y2.1.1,())).bind fun y9=>if !y9.1 then some (false,())else if ! (y4.1.2==y2.1.2)then some (false,())else(S.l_markStringS (y4.1.1,(101:Int),())).bind fun y10=>(S.l_heldStringS (splice y4.1.1 y10.2.1 (0:Nat),(101:Int),())).bind fun y11=>if decide (y11.1<(0:Int))then some (false,())else if y11.1 != y10.1 then some (false,())else(S.l_toStringSo (x.1,true,())).bind fun y12=>(S.i_ToWeights (seen y12.1.1 0 y12.1.2,())).bind fun y13=>(S.l_eqStringS (y13.1.1,y2.1.1,())).bind fun y14=>if !y14.1 then some (false,())else if ! (y13.1.2==y2.1.2)then some (false,())else(S.l_heldStringS (splice y4.1.1 y10.2.1 (0:Nat),(101:Int),())).bind fun y15=>if decide (y15.1<(0:Int))then some (false,())else if y15.1 != y10.1 then some (false,())else some (true,())
def S.l_FnExactToWeights (x:((List ByteArray)×Unit)):(Option (Bool×Unit)):=P.l_FnExactToWeights 0 x
theorem S.l_FnExactToWeights_ok (x:((List ByteArray)×Unit)) (r:_) (h:S.l_FnExactToWeights x=some r):∃k,P.l_FnExactToWeights k x=some r:=⟨0,h⟩
end Go.Cm
end
