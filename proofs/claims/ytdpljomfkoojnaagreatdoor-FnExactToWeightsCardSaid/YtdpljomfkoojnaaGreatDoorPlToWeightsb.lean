import Derived.Test.YtdpljomfkoojnaaGreatDoorPlToWeightsa
set_option linter.unusedVariables false
set_option maxRecDepth 100000
noncomputable section
namespace Go.Cm
def P.i_readRat (k:Nat) (x:ByteArray×Unit):Option (((Bool×List Int×List Int)×Bool)×Unit):=
 (S.strings_Cut (x.1,bs [47],())).bind fun y0=>(S.strings_CutPrefix (y0.1.1,bs [45],())).bind fun y1=>(S.i_readNat (y1.1.1,())).bind fun y2=>if !y2.1.2 then some (((false,([]:List Int),([]:List Int)),false),())else if y1.1.2 then if(y2.1.1.length:Int)==(0:Int)then some (((false,([]:List Int),([]:List Int)),false),())else(S.i_natOf ((1:Int),())).bind fun y3=>if !y0.1.2.2 then some (((y1.1.2,y2.1.1,y3.1),true),())else(S.i_readNat (y0.1.2.1,())).bind fun y4=>if !y4.1.2 then some (((false,([]:List Int),([]:List Int)),false),())else(S.i_natOf ((1:Int),())).bind fun y5=>(S.i_nat_cmp (y4.1.1,y5.1,())).bind fun y6=>if decide (y6.1≤(0:Int))then some (((false,([]:List Int),([]:List Int)),false),())else(S.i_nat_gcd (y2.1.1,y4.1.1,())).bind fun y7=>(S.i_natOf ((1:Int),())).bind fun y8=>(S.i_nat_cmp (y7.1,y8.1,())).bind fun y9=>if y9.1 != (0:Int)then some (((false,([]:List Int),([]:List Int)),false),())else some (((y1.1.2,y2.1.1,y4.1.1),true),())else(S.i_natOf ((1:Int),())).bind fun y10=>if !y0.1.2.2 then some (((y1.1.2,y2.1.1,y10.1),true),())else(S.i_readNat (y0.1.2.1,())).bind fun y11=>if !y11.1.2 then some (((false,([]:List Int),([]:List Int)),false),())else(S.i_natOf ((1:Int),())).bind fun y12=>(S.i_nat_cmp (y11.1.1,y12.1,())).bind fun y13=>if decide (y13.1≤(0:Int))then some (((false,([]:List Int),([]:List Int)),false),())else(S.i_nat_gcd (y2.1.1,y11.1.1,())).bind fun y14=>(S.i_natOf ((1:Int),())).bind fun y15=>(S.i_nat_cmp (y14.1,y15.1,())).bind fun y16=>if y16.1 != (0:Int)then some (((false,([]:List Int),([]:List Int)),false),())else some (((y1.1.2,y2.1.1,y11.1.1),true),())
def S.i_readRat (x:(ByteArray×Unit)):(Option ((RB×Bool)×Unit)):=if x.1.size<4294967281 then some ((rp B32 (rdRat x.1.data.toList).1,(rdRat x.1.data.toList).2),())else none
theorem rr_bad:((false,(([]:List Int),([]:List Int))),false)=(rp B32 noQ.1,noQ.2):=by
 unfold noQ rp
 dsimp only
 rw[nd_zero B32_le]
theorem natOf_one:S.i_natOf (1,())=some (nd B32 1,()):=by
 unfold S.i_natOf
 rfl
theorem rr_rest (neg:Bool) (c:List UInt8×List UInt8×Bool) (hok:okN c.1=true) (hn:¬(neg=true∧dv c.1=0)):
  (Option.bind (S.i_natOf ((1:Int),())) (fun(y10:((List Int)×Unit))=>(if((!c.2.2)=true)then(some (((neg,(nd B32 (dv c.1),y10.1)),true),()))
 else(Option.bind (S.i_readNat ((⟨c.2.1.toArray⟩:ByteArray),())) (fun(y11:(((List Int)×Bool)×Unit))=>(if((!y11.1.2)=true)then(some (((false,(([]:List Int),([]:List Int))),false),()))
 else(Option.bind (S.i_natOf ((1:Int),())) (fun(y12:((List Int)×Unit))=>(Option.bind (S.i_nat_cmp (y11.1.1,(y12.1,()))) (fun(y13:(Int×Unit))=>(if((decide (y13.1≤(0:Int)))=true)then(some (((false,(([]:List Int),([]:List Int))),false),()))
 else(Option.bind (S.i_nat_gcd (nd B32 (dv c.1),(y11.1.1,()))) (fun(y14:((List Int)×Unit))=>(Option.bind (S.i_natOf ((1:Int),())) (fun(y15:((List Int)×Unit))=>(Option.bind (S.i_nat_cmp (y14.1,(y15.1,()))) (fun(y16:(Int×Unit))=>(if((y16.1 != (0:Int))=true)then(some (((false,(([]:List Int),([]:List Int))),false),()))
 else(some (((neg,(nd B32 (dv c.1),y11.1.1)),true),()))))))))))))))))))))=some ((rp B32 (rdBody neg c).1,(rdBody neg c).2),()):=by
 have hbody:rdBody neg c=(if c.2.2=true then(if okN c.2.1=true∧1<dv c.2.1∧Nat.gcd (dv c.1) (dv c.2.1)=1 then((neg,(dv c.1,dv c.2.1)),true)else noQ)else((neg,(dv c.1,1)),true)):=if_pos ⟨hok,hn⟩
 rw[natOf_one,Option.bind_some,rr_bad,hbody]
 obtain⟨a,b,f⟩:=c
 dsimp only at*
 cases f
 ·rfl
 ·rw[if_neg (by decide),if_pos rfl]
  unfold S.i_readNat
  rw[Option.bind_some]
  dsimp only
  cases hb:okN b
  ·have hx:¬((false:Bool)=true∧1<dv b∧Nat.gcd (dv a) (dv b)=1):=fun q=>by cases q.1
   rw[if_neg hx]
   rfl
  ·have lb:=nd_len200 (B:=B32) (by decide) (okN_lt hb)
   have la:=nd_len200 (B:=B32) (by decide) (okN_lt hok)
   have e1:S.i_nat_cmp (nd B32 (dv b),(nd B32 1,()))=some (cmpN (dv b) 1,()):=by
    unfold S.i_nat_cmp
    dsimp only
    rw[if_pos ⟨canon_nd B32_le _,canon_nd B32_le _,by omega⟩,dval_nd B32_le,dval_nd B32_le]
   have e2:S.i_nat_gcd (nd B32 (dv a),(nd B32 (dv b),()))=some (nd B32 (Nat.gcd (dv a) (dv b)),()):=by
    unfold S.i_nat_gcd
    dsimp only
    rw[if_pos ⟨canon_nd B32_le _,canon_nd B32_le _,by omega,by omega⟩,dval_nd B32_le,dval_nd B32_le]
   show(Option.bind (S.i_natOf ((1:Int),())) (fun(y12:((List Int)×Unit))=>(Option.bind (S.i_nat_cmp (nd B32 (dv b),(y12.1,()))) (fun(y13:(Int×Unit))=>(if((decide (y13.1≤(0:Int)))=true)then(some ((rp B32 noQ.1,noQ.2),()))
 else(Option.bind (S.i_nat_gcd (nd B32 (dv a),(nd B32 (dv b),()))) (fun(y14:((List Int)×Unit))=>(Option.bind (S.i_natOf ((1:Int),())) (fun(y15:((List Int)×Unit))=>(Option.bind (S.i_nat_cmp (y14.1,(y15.1,()))) (fun(y16:(Int×Unit))=>(if((y16.1 != (0:Int))=true)then(some ((rp B32 noQ.1,noQ.2),()))
 else(some (((neg,(nd B32 (dv a),nd B32 (dv b))),true),()))))))))))))))=_
   rw[natOf_one,Option.bind_some]
   dsimp only
   rw[e1,Option.bind_some]
   dsimp only
   by_cases h1:1<dv b
   ·have hc:¬(cmpN (dv b) 1≤0):=by
     have:=(cmpN_gt (a:=dv b) (b:=1)).2 h1
     omega
    have lg:(nd B32 (Nat.gcd (dv a) (dv b))).length≤200:=Nat.le_trans (nd_shorter' B32_le (Nat.le_of_dvd (by omega) (Nat.gcd_dvd_right _ _))) lb
    have e3:S.i_nat_cmp (nd B32 (Nat.gcd (dv a) (dv b)),(nd B32 1,()))=some (cmpN (Nat.gcd (dv a) (dv b)) 1,()):=by
     unfold S.i_nat_cmp
     dsimp only
     rw[if_pos ⟨canon_nd B32_le _,canon_nd B32_le _,by omega⟩,dval_nd B32_le,dval_nd B32_le]
    rw[if_neg (by simpa using hc),e2,Option.bind_some,Option.bind_some]
    dsimp only
    rw[e3,Option.bind_some]
    dsimp only
    by_cases hg:Nat.gcd (dv a) (dv b)=1
    ·rw[if_neg (by simpa using cmpN_zero.2 hg),if_pos ⟨rfl,h1,hg⟩]
     rfl
    ·rw[if_pos (by simpa using fun q=>hg (cmpN_zero.1 q)),if_neg (fun q=>hg q.2.2)]
   ·have hc:cmpN (dv b) 1≤0:=by
     have h2:¬(cmpN (dv b) 1>0):=fun q=>h1 ((cmpN_gt (a:=dv b) (b:=1)).1 q)
     omega
    rw[if_pos (decide_eq_true hc),if_neg (fun q=>h1 q.2.1)]
theorem S.i_readRat_ok (x:(ByteArray×Unit)) (r:_) (h:S.i_readRat x=some r):∃k,P.i_readRat k x=some r:=by
 obtain⟨s,u⟩:=x
 unfold S.i_readRat at h
 dsimp only at h
 split at h
 case isFalse=>cases h
 rename_i hsz
 refine⟨0,?_⟩
 rw[←h]
 unfold P.i_readRat
 dsimp only
 have e0:S.strings_Cut (s,(bs [47],()))=some ((⟨(cutP 47 s.data.toList).1.toArray⟩,(⟨(cutP 47 s.data.toList).2.1.toArray⟩,(cutP 47 s.data.toList).2.2)),()):=by
  unfold S.strings_Cut
  dsimp only
  rw[if_pos hsz,show(bs [47]).data.toList=[47]from rfl,cut_cutP]
 have e1:∀l:List UInt8,S.strings_CutPrefix (⟨l.toArray⟩,(bs [45],()))=some ((⟨(if l.head? =some 45 then l.tail else l).toArray⟩,decide (l.head? =some 45)),()):=by
  intro l
  unfold S.strings_CutPrefix Go.Lib.trimPrefix Go.Lib.hasPrefix
  dsimp only
  rw[show(bs [45]).data.toList=[45]from rfl]
  cases l with
  |nil=>rfl
  |cons b r=>
   by_cases hb:b=45
   ·subst hb
    simp
   ·have hb':¬(45=b):=fun q=>hb q.symm
    have hp:([45].isPrefixOf (b::r))=false:=by
     show((45:UInt8)==b&&([]:List UInt8).isPrefixOf r)=false
     rw[show((45:UInt8)==b)=false from beq_eq_false_iff_ne.2 hb',Bool.false_and]
    have hh:¬((b::r).head? =some 45):=by simpa using hb
    rw[hp,if_neg (by decide),if_neg hh,decide_eq_false hh]
 rw[e0,Option.bind_some]
 dsimp only
 rw[e1,Option.bind_some]
 dsimp only
 generalize s.data.toList=l at*
 have hcut:∃(neg:Bool) (c:List UInt8×List UInt8×Bool),decide ((cutP 47 l).1.head? =some 45)=neg∧(if(cutP 47 l).1.head? =some 45 then(cutP 47 l).1.tail else(cutP 47 l).1)=c.1∧(cutP 47 l).2.1=c.2.1∧(cutP 47 l).2.2=c.2.2∧rdRat l=rdBody neg c:=by
  unfold rdRat
  cases l with
  |nil=>exact⟨false,cutP 47 [],rfl,rfl,rfl,rfl,rfl⟩
  |cons b r=>
   by_cases hb:b=45
   ·subst hb
    have hc:cutP 47 (45::r)=(45::(cutP 47 r).1,(cutP 47 r).2.1,(cutP 47 r).2.2):=by rw[cutP_cons,if_neg (by decide)]
    rw[hc]
    exact⟨true,cutP 47 r,rfl,rfl,rfl,rfl,rfl⟩
   ·have hh:¬((cutP 47 (b::r)).1.head? =some 45):=by
     rw[cutP_cons]
     split
     ·simp
     ·simpa using hb
    refine⟨false,cutP 47 (b::r),decide_eq_false hh,if_neg hh,rfl,rfl,?_⟩
    rw[if_neg (by simpa using hb)]
 obtain⟨neg,c,h1,h2,h3,h4,h5⟩:=hcut
 rw[h1,h2,h3,h4,h5]
 have e2:S.i_readNat (⟨c.1.toArray⟩,())=some (if okN c.1=true then(nd B32 (dv c.1),true)else([],false),()):=rfl
 rw[e2,Option.bind_some]
 cases hok:okN c.1
 ·have:rdBody neg c=noQ:=by
   unfold rdBody
   rw[if_neg (fun q=>by rw[hok]at q;cases q.1)]
  rw[this,←rr_bad]
  rfl
 ·rw[if_pos rfl]
  dsimp only
  rw[if_neg (show ¬((!true)=true) by decide)]
  have hz:(((nd B32 (dv c.1)).length:Int)==0)=decide (dv c.1=0):=by
   have:=canon_nil B32_le (canon_nd B32_le (dv c.1))
   rw[dval_nd B32_le]at this
   by_cases h0:dv c.1=0
   ·rw[this.2 h0,h0];rfl
   ·have hne:=fun q=>h0 (this.1 q)
    rw[decide_eq_false h0]
    simpa using hne
  cases neg
  ·rw[if_neg (by decide)]
   exact rr_rest false c hok (fun q=>by cases q.1)
  ·rw[if_pos rfl,hz]
   by_cases h0:dv c.1=0
   ·have:rdBody true c=noQ:=by
     unfold rdBody
     rw[if_neg (fun q=>q.2 ⟨rfl,h0⟩)]
    rw[if_pos (decide_eq_true h0),this,←rr_bad]
   ·rw[if_neg (by simpa using h0)]
    exact rr_rest true c hok (fun q=>h0 q.2)
abbrev P.i_rats_b0 (x1:Int×Int×List ByteArray×List (Bool×List Int×List Int)×Unit) (g2:Int×Int×List ByteArray×List (Bool×List Int×List Int)×Unit→Option ((List (Bool×List Int×List Int)×Bool)×Unit)):Option ((List (Bool×List Int×List Int)×Bool)×Unit):=
 if decide (x1.1<x1.2.1)then if decide ((0:Int)≤x1.1)then if decide (x1.1<(x1.2.2.1.length:Int))then(S.i_readRat (x1.2.2.1.getD x1.1.toNat (bs []),())).bind fun y3=>if !y3.1.2 then some ((([]:List (Bool×List Int×List Int)),false),())else if decide (((x1.2.2.2.1.length+(List.length [(y3.1.1.1,y3.1.1.2.1,y3.1.1.2.2)]))*(56:Nat))≤(140737488355328:Nat))then g2 (IntKind.wrap .i64 (x1.1+(1:Int)),x1.2.1,x1.2.2.1,x1.2.2.2.1++[(y3.1.1.1,y3.1.1.2.1,y3.1.1.2.2)],())else none else none else none else some ((x1.2.2.2.1,true),())
def P.i_rats (k:Nat) (x:List ByteArray×Unit):Option ((List (Bool×List Int×List Int)×Bool)×Unit):=
 if decide ((x.1.length:Int)>(300:Int))then some ((([]:List (Bool×List Int×List Int)),false),())else loopP P.i_rats_b0 k ((0:Int),(x.1.length:Int),x.1,([]:List (Bool×List Int×List Int)),())
open Classical in
def S.i_rats (x:((List ByteArray)×Unit)):(Option (((List RB)×Bool)×Unit)):=if okT x.1=true then some (((rdAll x.1).1.map (rp B32),(rdAll x.1).2),())else none
theorem i_rats_read (s:ByteArray) (h:s.size≤1000000):S.i_readRat (s,())=some ((rp B32 (rdRat s.data.toList).1,(rdRat s.data.toList).2),()):=by
 unfold S.i_readRat
 exact if_pos (by dsimp only;omega)
theorem S.i_rats_ok (x:((List ByteArray)×Unit)) (r:_) (h:S.i_rats x=some r):∃k,P.i_rats k x=some r:=by
 obtain⟨ls,u⟩:=x
 unfold S.i_rats at h
 dsimp only at h
 split at h
 case isFalse=>cases h
 rename_i hc
 cases h
 refine⟨ls.length+1,?_⟩
 unfold P.i_rats rdAll
 dsimp only
 by_cases hl:(ls.length:Int)>300
 ·rw[if_pos (decide_eq_true hl),if_neg (show ¬(ls.length≤300∧(ls.all fun s=>(rdRat s.data.toList).2)=true)from fun z=>by omega)]
  rfl
 rw[if_neg (by simpa using hl)]
 have key:=loop_up0 (k:=ls.length+1) (b:=P.i_rats_b0) (n:=ls.length) (st:=fun i=>((i:Int),(ls.length:Int),ls,(ls.take i).map (fun s=>rp B32 (rdRat s.data.toList).1),())) (F:=fun i=>some (if((ls.drop i).all fun s=>(rdRat s.data.toList).2)=true then(ls.map (fun s=>rp B32 (rdRat s.data.toList).1),true)else([],false),())) (fun i g hi hg=>by
  unfold P.i_rats_b0
  dsimp only at hg ⊢
  have e1:(i:Int)<(ls.length:Int):=by omega
  have e2:(0:Int)≤(i:Int):=by omega
  simp only[e1,e2,decide_true,if_true]
  rw[getD_cast ls i _ hi,i_rats_read _ (okT_get hc hi),Option.bind_some,List.drop_eq_getElem_cons hi,List.all_cons]
  dsimp only
  cases hf:(rdRat ls[i].data.toList).2
  ·rw[if_pos (by rfl),if_neg (by simp)]
  ·rw[if_neg (by simp),wr (by omega) (by omega),Bool.true_and,←hg]
   have e3:((List.map (fun s:ByteArray=>rp B32 (rdRat s.data.toList).1) (ls.take i)).length+1)*56≤140737488355328:=by
    rw[List.length_map,List.length_take]
    omega
   simp only[List.length_cons,List.length_nil,Nat.zero_add]
   rw[if_pos (decide_eq_true e3),List.take_add_one,List.getElem?_eq_getElem hi,Option.toList_some,List.map_append]
   rfl) (fun g=>by
  unfold P.i_rats_b0
  dsimp only
  rw[if_neg (by simp),List.take_length,List.drop_length]
  rfl) (by omega)
 refine key.trans ?_
 rw[List.drop_zero]
 by_cases ha:(ls.all fun s=>(rdRat s.data.toList).2)=true
 ·rw[if_pos ha,if_pos (show ls.length≤300∧(ls.all fun s=>(rdRat s.data.toList).2)=true from⟨by omega,ha⟩),List.map_map]
  rfl
 ·rw[if_neg ha,if_neg (fun z=>ha z.2)]
  rfl
def P.i_magnitude (k:Nat) (x:Int×Unit):Option (Int×Unit):=
 if decide (x.1<(0:Int))then some (IntKind.wrap .u64 ((0:Int) - (IntKind.wrap .u64 x.1)),())else some (IntKind.wrap .u64 x.1,())
def S.i_magnitude (x:(Int×Unit)):(Option (Int×Unit)):=if -9223372036854775808≤x.1∧x.1≤9223372036854775807 then some (((x.1.natAbs:Nat):Int),())else none
theorem S.i_magnitude_ok (x:(Int×Unit)) (r:_) (h:S.i_magnitude x=some r):∃k,P.i_magnitude k x=some r:=by
 obtain⟨n,u⟩:=x
 unfold S.i_magnitude at h
 dsimp only at h
 split at h
 case isFalse=>cases h
 rename_i hc
 cases h
 refine⟨0,?_⟩
 unfold P.i_magnitude
 dsimp only
 have hw:∀y:Int,IntKind.wrap .u64 y=y%18446744073709551616:=fun _=>rfl
 rw[hw,hw]
 by_cases h0:n<0
 ·rw[if_pos (decide_eq_true h0)]
  congr 2
  omega
 ·rw[if_neg (by simpa using h0)]
  congr 2
  omega
def P.i_whole (k:Nat) (x:Int×Unit):Option ((Bool×List Int×List Int)×Unit):=
 (S.i_magnitude (x.1,())).bind fun y0=>(S.i_natOf (y0.1,())).bind fun y1=>(S.i_natOf ((1:Int),())).bind fun y2=>some ((decide (x.1<(0:Int)),y1.1,y2.1),())
def S.i_whole (x:(Int×Unit)):(Option (RB×Unit)):=if -9223372036854775808≤x.1∧x.1≤9223372036854775807 then some (rp B32 (wholeQ x.1),())else none
theorem S.i_whole_ok (x:(Int×Unit)) (r:_) (h:S.i_whole x=some r):∃k,P.i_whole k x=some r:=by
 obtain⟨n,u⟩:=x
 unfold S.i_whole at h
 dsimp only at h
 split at h
 case isFalse=>cases h
 rename_i hc
 cases h
 refine⟨0,?_⟩
 unfold P.i_whole S.i_magnitude S.i_natOf
 dsimp only
 rw[if_pos hc,Option.bind_some]
 dsimp only
 rw[if_pos ⟨by omega,by omega⟩,Option.bind_some,Int.toNat_natCast,if_pos ⟨by decide,by decide⟩,Option.bind_some]
 rfl
theorem ri_whole {n:Int} (h0: -1000000000≤n) (h1:n≤1000000000):S.i_whole (n,())=some (rp B32 (wholeQ n),()):=by
 unfold S.i_whole
 exact if_pos ⟨by dsimp only;omega,by dsimp only;omega⟩
abbrev P.i_nat_sub_b0 (x1:Int×Int×List Int×Int×List Int×List Int×Unit) (g2:Int×Int×List Int×Int×List Int×List Int×Unit→Option (List Int×Unit)):Option (List Int×Unit):=
 if decide (x1.1<x1.2.1)then if decide ((0:Int)≤x1.1)then if decide (x1.1<(x1.2.2.1.length:Int))then if decide (x1.1<(x1.2.2.2.2.1.length:Int))then if decide ((0:Int)≤x1.1)then if decide (x1.1<(x1.2.2.2.2.1.length:Int))then if decide ((IntKind.wrap .i64 ((IntKind.wrap .i64 ((IntKind.wrap .i64 (x1.2.2.1.getD x1.1.toNat (0:Int))) - x1.2.2.2.1)) - (IntKind.wrap .i64 (x1.2.2.2.2.1.getD x1.1.toNat (0:Int)))))<(0:Int))then if decide ((0:Int)≤x1.1)then if decide (x1.1<(x1.2.2.2.2.2.1.length:Int))then g2 (IntKind.wrap .i64 (x1.1+(1:Int)),x1.2.1,x1.2.2.1,(1:Int),x1.2.2.2.2.1,x1.2.2.2.2.2.1.set ((0:Nat)+x1.1.toNat) (IntKind.wrap .u32 (IntKind.wrap .i64 ((IntKind.wrap .i64 ((IntKind.wrap .i64 (x1.2.2.1.getD x1.1.toNat (0:Int))) - x1.2.2.2.1)) - (IntKind.wrap .i64 (x1.2.2.2.2.1.getD x1.1.toNat (0:Int)))))),())else none else none else if decide ((0:Int)≤x1.1)then if decide (x1.1<(x1.2.2.2.2.2.1.length:Int))then g2 (IntKind.wrap .i64 (x1.1+(1:Int)),x1.2.1,x1.2.2.1,(0:Int),x1.2.2.2.2.1,x1.2.2.2.2.2.1.set ((0:Nat)+x1.1.toNat) (IntKind.wrap .u32 (IntKind.wrap .i64 ((IntKind.wrap .i64 ((IntKind.wrap .i64 (x1.2.2.1.getD x1.1.toNat (0:Int))) - x1.2.2.2.1)) - (IntKind.wrap .i64 (x1.2.2.2.2.1.getD x1.1.toNat (0:Int)))))),())else none else none else none else none else if decide ((IntKind.wrap .i64 ((IntKind.wrap .i64 (x1.2.2.1.getD x1.1.toNat (0:Int))) - x1.2.2.2.1))<(0:Int))then if decide ((0:Int)≤x1.1)then if decide (x1.1<(x1.2.2.2.2.2.1.length:Int))then g2 (IntKind.wrap .i64 (x1.1+(1:Int)),x1.2.1,x1.2.2.1,(1:Int),x1.2.2.2.2.1,x1.2.2.2.2.2.1.set ((0:Nat)+x1.1.toNat) (IntKind.wrap .u32 (IntKind.wrap .i64 ((IntKind.wrap .i64 (x1.2.2.1.getD x1.1.toNat (0:Int))) - x1.2.2.2.1))),())else none else none else if decide ((0:Int)≤x1.1)then if decide (x1.1<(x1.2.2.2.2.2.1.length:Int))then g2 (IntKind.wrap .i64 (x1.1+(1:Int)),x1.2.1,x1.2.2.1,(0:Int),x1.2.2.2.2.1,x1.2.2.2.2.2.1.set ((0:Nat)+x1.1.toNat) (IntKind.wrap .u32 (IntKind.wrap .i64 ((IntKind.wrap .i64 (x1.2.2.1.getD x1.1.toNat (0:Int))) - x1.2.2.2.1))),())else none else none else none else none else(S.i_nat_trim (x1.2.2.2.2.2.1,())).bind fun y3=>some (y3.1,())
def P.i_nat_sub (k:Nat) (x:List Int×List Int×Unit):Option (List Int×Unit):=
 if decide ((0:Int)≤(x.1.length:Int))then if decide ((x.1.length:Int)≤(x.1.length:Int))then if decide (((x.1.length:Int)*(4:Int))≤(281474976710656:Int))then loopP P.i_nat_sub_b0 k ((0:Int),(x.1.length:Int),x.1,(0:Int),x.2.1,List.replicate (Int.toNat (x.1.length:Int)) (0:Int),())else none else none else none
def S.i_nat_sub (x:((List Int)×((List Int)×Unit))):(Option ((List Int)×Unit)):=if dig B32 x.1=true∧dig B32 x.2.1=true∧x.2.1.length≤x.1.length∧dval B32 x.2.1≤dval B32 x.1∧x.1.length≤10000000000 then some (nd B32 (dval B32 x.1 - dval B32 x.2.1),())else none
theorem S.i_nat_sub_ok (x:((List Int)×((List Int)×Unit))) (r:_) (h:S.i_nat_sub x=some r):∃k,P.i_nat_sub k x=some r:=by
 obtain⟨xs,ys,u⟩:=x
 unfold S.i_nat_sub at h
 dsimp only at h
 split at h
 case isFalse=>cases h
 rename_i hc
 obtain⟨dx,dy,hl,hv,lx⟩:=hc
 cases h
 refine⟨xs.length+1,?_⟩
 unfold P.i_nat_sub
 dsimp only
 have a1:(0:Int)≤(xs.length:Int):=by omega
 have a2:(xs.length:Int)*4≤281474976710656:=by omega
 simp only[a1,a2,decide_true,if_true,Int.le_refl,Int.toNat_natCast]
 have key:=loop_up0 (k:=xs.length+1) (b:=P.i_nat_sub_b0) (n:=xs.length) (st:=fun i=>((i:Int),(xs.length:Int),xs,((takeUp B32 1 xs ys i).2.2:Int),ys,(takeUp B32 1 xs ys i).1++List.replicate (xs.length - i) 0,())) (F:=fun i=>some (nd B32 (dval B32 xs - dval B32 ys),())) (fun i g hi hg=>by
  unfold P.i_nat_sub_b0
  dsimp only at hg ⊢
  refine Eq.trans ?_ hg
  clear hg
  obtain⟨q1,q2,q3,q4,q5⟩:=takeUp_ok (t:=1) B32_le dx dy i
  have gx:=dig_getD (B:=B32) (by decide) dx i
  have gy:=dig_getD (B:=B32) (by decide) dy i
  have gx1:xs.getD i 0<4294967296:=gx.2
  have gy1:ys.getD i 0<4294967296:=gy.2
  have gx0:=gx.1
  have gy0:=gy.1
  have hlen:((takeUp B32 1 xs ys i).1++List.replicate (xs.length - i) (0:Int)).length=xs.length:=by rw[List.length_append,q2,List.length_replicate];omega
  have e1:(i:Int)<(xs.length:Int):=by omega
  have e2:(0:Int)≤(i:Int):=by omega
  rw[hlen]
  simp only[e1,e2,decide_true,if_true,Nat.zero_add,Int.toNat_natCast]
  have hrep:List.replicate (xs.length - i) (0:Int)=0::List.replicate (xs.length - (i+1)) 0:=by
   rw[show xs.length - i=(xs.length - (i+1))+1 by omega,List.replicate_succ]
  rw[hrep]
  simp only[mid_set q2]
  rw[(takeUp_one B32_le (xs:=xs) dy i).2]
  dsimp only
  have y0:¬((i:Int)<(ys.length:Int))→ys.getD i 0=0:=by
   intro hj
   rw[List.getD_eq_getElem?_getD,List.getElem?_eq_none (by omega)]
   rfl
  generalize (takeUp B32 1 xs ys i).1=pl at*
  generalize (takeUp B32 1 xs ys i).2.2=l0 at*
  obtain⟨x,hx⟩:∃x,xs.getD i 0=x:=⟨_,rfl⟩
  obtain⟨y,hy⟩:∃y,ys.getD i 0=y:=⟨_,rfl⟩
  simp only[hx,hy]at gx1 gx0 gy1 gy0 y0 ⊢
  have hB:((B32:Nat):Int)=4294967296:=rfl
  rw[wr (x:=(i:Int)+1) (by omega) (by omega),wr (x:=x) (by omega) (by omega),wr (x:=x - (l0:Int)) (by omega) (by omega),hB]
  by_cases hj:(i:Int)<(ys.length:Int)
  ·rw[if_pos (decide_eq_true hj),if_pos (decide_eq_true hj),wr (x:=y) (by omega) (by omega),wr (x:=x - (l0:Int) - y) (by omega) (by omega),u32_emod,show x - (l0:Int) - y=x - y - (l0:Int) by omega]
   by_cases hn:x - y - (l0:Int)<0
   ·rw[if_pos (decide_eq_true hn),if_pos hn]
    rfl
   ·rw[if_neg (by simpa using hn),if_neg hn]
    rfl
  ·have hy0:=y0 hj
   subst hy0
   rw[if_neg (by simpa using hj),u32_emod,show x - 0 - (l0:Int)=x - (l0:Int) by omega]
   by_cases hn:x - (l0:Int)<0
   ·rw[if_pos (decide_eq_true hn),if_pos hn]
    rfl
   ·rw[if_neg (by simpa using hn),if_neg hn]
    rfl) (fun g=>by
  unfold P.i_nat_sub_b0
  dsimp only
  rw[if_neg (by simp),Nat.sub_self,show List.replicate 0 (0:Int)=[]from rfl,List.append_nil,takeUp_fd B32_le dx dy hl hv]
  unfold S.i_nat_trim
  dsimp only
  have hb:=dval_lt dx
  rw[if_pos ⟨dig_fd (by decide) _ _,by rw[fd_len];omega⟩,Option.bind_some,nd_fd B32_le (by omega)]) (by omega)
 exact key
def P.i_lowest (k:Nat) (x:Bool×List Int×List Int×Unit):Option ((Bool×List Int×List Int)×Unit):=
 if(x.2.1.length:Int)==(0:Int)then(S.i_natOf ((1:Int),())).bind fun y0=>some ((false,([]:List Int),y0.1),())else(S.i_nat_gcd (x.2.1,x.2.2.1,())).bind fun y1=>if(y1.1.length:Int)==(1:Int)then if decide ((0:Int)<(y1.1.length:Int))then if(y1.1.getD (0:Nat) (0:Int))==(1:Int)then some ((x.1,x.2.1,x.2.2.1),())else(S.i_nat_div (x.2.1,y1.1,())).bind fun y2=>(S.i_nat_div (x.2.2.1,y1.1,())).bind fun y3=>some ((x.1,y2.1.1,y3.1.1),())else none else(S.i_nat_div (x.2.1,y1.1,())).bind fun y4=>(S.i_nat_div (x.2.2.1,y1.1,())).bind fun y5=>some ((x.1,y4.1.1,y5.1.1),())
def S.i_lowest (x:(Bool×((List Int)×((List Int)×Unit)))):(Option (RB×Unit)):=if canon B32 x.2.1=true∧canon B32 x.2.2.1=true∧x.2.2.1≠ []∧x.2.1.length≤100000000∧x.2.2.1.length≤100000000 then some (rp B32 (lowN x.1 (dval B32 x.2.1) (dval B32 x.2.2.1)),())else none
theorem S.i_lowest_ok (x:(Bool×((List Int)×((List Int)×Unit)))) (r:_) (h:S.i_lowest x=some r):∃k,P.i_lowest k x=some r:=by
 obtain⟨neg,as,bs',u⟩:=x
 unfold S.i_lowest at h
 dsimp only at h
 split at h
 case isFalse=>cases h
 rename_i hc
 obtain⟨ca,cb,hne,la,lb⟩:=hc
 cases h
 refine⟨0,?_⟩
 unfold P.i_lowest
 dsimp only
 have hb0:dval B32 bs'≠0:=fun e=>hne ((canon_nil B32_le cb).2 e)
 by_cases ha:as=[]
 ·subst ha
  rw[if_pos (by rfl)]
  unfold S.i_natOf lowN rp
  dsimp only
  rw[if_pos ⟨by decide,by decide⟩,Option.bind_some,show dval B32 []=0 from rfl,Nat.gcd_zero_left,Nat.zero_div,Nat.div_self (by omega),nd_zero B32_le]
  simp
 ·have ha0:dval B32 as≠0:=fun e=>ha ((canon_nil B32_le ca).2 e)
  rw[if_neg (by simpa using ha)]
  have hg:=gcd_len B32_le ca cb hb0
  have hgp:0<Nat.gcd (dval B32 as) (dval B32 bs'):=Nat.gcd_pos_of_pos_right _ (by omega)
  have e1:S.i_nat_gcd (as,(bs',()))=some (nd B32 (Nat.gcd (dval B32 as) (dval B32 bs')),()):=by
   unfold S.i_nat_gcd
   exact if_pos ⟨ca,cb,la,lb⟩
  rw[e1,Option.bind_some]
  dsimp only
  unfold lowN rp
  dsimp only
  rw[decide_eq_true ha0,Bool.and_true]
  have hgne:nd B32 (Nat.gcd (dval B32 as) (dval B32 bs'))≠ []:=by
   rw[nd_pos B32_le (by omega)]
   simp
  have hgd:dval B32 (nd B32 (Nat.gcd (dval B32 as) (dval B32 bs')))=Nat.gcd (dval B32 as) (dval B32 bs'):=dval_nd B32_le _
  have hgc:canon B32 (nd B32 (Nat.gcd (dval B32 as) (dval B32 bs')))=true:=canon_nd B32_le _
  have e2:∀xs,canon B32 xs=true→xs.length≤100000000→S.i_nat_div (xs,(nd B32 (Nat.gcd (dval B32 as) (dval B32 bs')),()))=some ((nd B32 (dval B32 xs/Nat.gcd (dval B32 as) (dval B32 bs')),nd B32 (dval B32 xs%Nat.gcd (dval B32 as) (dval B32 bs'))),()):=by
   intro xs cx lx
   unfold S.i_nat_div
   dsimp only
   rw[if_pos ⟨cx,hgc,hgne,lx,by omega⟩,hgd]
  rw[e2 as ca la,Option.bind_some,e2 bs' cb lb,Option.bind_some]
  dsimp only
  have hone:nd B32 (Nat.gcd (dval B32 as) (dval B32 bs'))=[1]→as=nd B32 (dval B32 as/Nat.gcd (dval B32 as) (dval B32 bs'))∧bs'=nd B32 (dval B32 bs'/Nat.gcd (dval B32 as) (dval B32 bs')):=by
   intro e
   rw[e,dval_one]at hgd
   rw[←hgd,Nat.div_one,Nat.div_one,canon_eq ca,canon_eq cb]
   exact⟨rfl,rfl⟩
  generalize hgl:nd B32 (Nat.gcd (dval B32 as) (dval B32 bs'))=gl at*
  by_cases h1:gl.length=1
  ·have d1:(((gl.length:Nat):Int)==(1:Int))=true:=by simp [h1]
   have d2:(0:Int)<(gl.length:Int):=by omega
   rw[if_pos d1,if_pos (decide_eq_true d2)]
   obtain⟨g0,rfl⟩:∃g0,gl=[g0]:=by
    match gl,h1 with
    | [g0],_=>exact⟨g0,rfl⟩
   by_cases h2:g0=1
   ·subst h2
    rw[if_pos (by rfl),←(hone rfl).1,←(hone rfl).2]
   ·rw[if_neg (by simpa using h2)]
  ·have d1:¬(((gl.length:Nat):Int)==(1:Int))=true:=by simp;omega
   rw[if_neg d1]
def P.i_rat_add (k:Nat) (x:(Bool×List Int×List Int)×(Bool×List Int×List Int)×Unit):Option ((Bool×List Int×List Int)×Unit):=
 (S.i_rat_sign ((x.1.1,x.1.2.1,x.1.2.2),())).bind fun y0=>if y0.1==(0:Int)then some ((x.2.1.1,x.2.1.2.1,x.2.1.2.2),())else(S.i_rat_sign ((x.2.1.1,x.2.1.2.1,x.2.1.2.2),())).bind fun y1=>if y1.1==(0:Int)then some ((x.1.1,x.1.2.1,x.1.2.2),())else(S.i_nat_cmp (x.1.2.2,x.2.1.2.2,())).bind fun y2=>if y2.1 != (0:Int)then(S.i_nat_mul (x.1.2.1,x.2.1.2.2,())).bind fun y3=>(S.i_nat_mul (x.2.1.2.1,x.1.2.2,())).bind fun y4=>(S.i_nat_mul (x.1.2.2,x.2.1.2.2,())).bind fun y5=>if x.1.1==x.2.1.1 then(S.i_nat_add (y3.1,y4.1,())).bind fun y6=>(S.i_lowest (x.1.1,y6.1,y5.1,())).bind fun y7=>some ((y7.1.1,y7.1.2.1,y7.1.2.2),())else(S.i_nat_cmp (y3.1,y4.1,())).bind fun y8=>if decide (y8.1≥(0:Int))then(S.i_nat_sub (y3.1,y4.1,())).bind fun y9=>(S.i_lowest (x.1.1,y9.1,y5.1,())).bind fun y10=>some ((y10.1.1,y10.1.2.1,y10.1.2.2),())else(S.i_nat_sub (y4.1,y3.1,())).bind fun y11=>(S.i_lowest (x.2.1.1,y11.1,y5.1,())).bind fun y12=>some ((y12.1.1,y12.1.2.1,y12.1.2.2),())else if x.1.1==x.2.1.1 then(S.i_nat_add (x.1.2.1,x.2.1.2.1,())).bind fun y13=>(S.i_lowest (x.1.1,y13.1,x.1.2.2,())).bind fun y14=>some ((y14.1.1,y14.1.2.1,y14.1.2.2),())else(S.i_nat_cmp (x.1.2.1,x.2.1.2.1,())).bind fun y15=>if decide (y15.1≥(0:Int))then(S.i_nat_sub (x.1.2.1,x.2.1.2.1,())).bind fun y16=>(S.i_lowest (x.1.1,y16.1,x.1.2.2,())).bind fun y17=>some ((y17.1.1,y17.1.2.1,y17.1.2.2),())else(S.i_nat_sub (x.2.1.2.1,x.1.2.1,())).bind fun y18=>(S.i_lowest (x.2.1.1,y18.1,x.1.2.2,())).bind fun y19=>some ((y19.1.1,y19.1.2.1,y19.1.2.2),())
theorem ra_mul (p q:Nat) (hp:(nd B32 p).length≤100000000) (hq:(nd B32 q).length≤100000000):S.i_nat_mul (nd B32 p,(nd B32 q,()))=some (nd B32 (p*q),()):=by
 unfold S.i_nat_mul
 dsimp only
 rw[if_pos ⟨dig_nd B32_le _,dig_nd B32_le _,by omega,by omega⟩,dval_nd B32_le,dval_nd B32_le]
theorem ra_add (p q:Nat) (hp:(nd B32 p).length≤100000000) (hq:(nd B32 q).length≤100000000):S.i_nat_add (nd B32 p,(nd B32 q,()))=some (nd B32 (p+q),()):=by
 unfold S.i_nat_add
 dsimp only
 rw[if_pos ⟨dig_nd B32_le _,dig_nd B32_le _,by omega,by omega⟩,dval_nd B32_le,dval_nd B32_le]
theorem ra_sub (p q:Nat) (hp:(nd B32 p).length≤100000000) (h:q≤p):S.i_nat_sub (nd B32 p,(nd B32 q,()))=some (nd B32 (p - q),()):=by
 unfold S.i_nat_sub
 dsimp only
 rw[dval_nd B32_le,dval_nd B32_le,if_pos ⟨dig_nd B32_le _,dig_nd B32_le _,nd_shorter' B32_le h,h,by omega⟩]
theorem ra_cmp (p q:Nat) (hp:(nd B32 p).length≤100000000):S.i_nat_cmp (nd B32 p,(nd B32 q,()))=some (cmpN p q,()):=by
 unfold S.i_nat_cmp
 dsimp only
 rw[if_pos ⟨canon_nd B32_le _,canon_nd B32_le _,by omega⟩,dval_nd B32_le,dval_nd B32_le]
theorem ra_low (n:Bool) (p q:Nat) (hp:(nd B32 p).length≤100000000) (hq:(nd B32 q).length≤100000000) (h0:q≠0):S.i_lowest (n,(nd B32 p,(nd B32 q,())))=some (rp B32 (lowN n p q),()):=by
 unfold S.i_lowest
 dsimp only
 rw[if_pos ⟨canon_nd B32_le _,canon_nd B32_le _,nd_ne B32_le h0,by omega,by omega⟩,dval_nd B32_le,dval_nd B32_le]
theorem ra_sign (n:Bool) (p:Nat) (bs:List Int):S.i_rat_sign ((n,(nd B32 p,bs)),())=some (sgnQ n p,()):=by
 unfold S.i_rat_sign
 dsimp only
 rw[if_pos (canon_nd B32_le _),dval_nd B32_le]
def S.i_rat_add (x:(RB×(RB×Unit))):(Option (RB×Unit)):=if lowb B32 40000000 x.1=true∧lowb B32 40000000 x.2.1=true then some (rp B32 (addQ (rv B32 x.1) (rv B32 x.2.1)),())else none
theorem S.i_rat_add_ok (x:(RB×(RB×Unit))) (r:_) (h:S.i_rat_add x=some r):∃k,P.i_rat_add k x=some r:=by
 obtain⟨x,y,u⟩:=x
 unfold S.i_rat_add at h
 dsimp only at h
 split at h
 case isFalse=>cases h
 rename_i hc
 obtain⟨hx,hy⟩:=hc
 cases h
 rw[lowb_iff]at hx hy
 obtain⟨hx,lx⟩:=hx
 obtain⟨hy,ly⟩:=hy
 obtain⟨n1,p1,q1,rfl,x1,x2⟩:=rok_nd hx
 obtain⟨n2,p2,q2,rfl,y1,y2⟩:=rok_nd hy
 rw[rv_nd B32_le]at lx ly ⊢
 rw[rv_nd B32_le]
 have hq1:q1≠0:=by have:0<q1:=lx.1;omega
 have hq2:q2≠0:=by have:0<q2:=ly.1;omega
 refine⟨0,?_⟩
 unfold P.i_rat_add
 dsimp only
 rw[ra_sign,Option.bind_some]
 dsimp only
 by_cases h1:p1=0
 ·rw[if_pos (by simpa using sgnQ_zero.2 h1),addQ_zero_left _ _ lx ly h1]
  rfl
 ·rw[if_neg (by simpa using fun q=>h1 (sgnQ_zero.1 q)),ra_sign,Option.bind_some]
  dsimp only
  by_cases h2:p2=0
  ·rw[if_pos (by simpa using sgnQ_zero.2 h2),addQ_zero_right _ _ lx ly h2]
   rfl
  ·rw[if_neg (by simpa using fun q=>h2 (sgnQ_zero.1 q)),ra_cmp q1 q2 (by omega),Option.bind_some]
   dsimp only
   have m1:=nd_mul_len B32_le p1 q2
   have m2:=nd_mul_len B32_le p2 q1
   have m3:=nd_mul_len B32_le q1 q2
   by_cases hq:q1=q2
   ·rw[if_neg (by simpa using cmpN_zero.2 hq),addQ_same _ _ lx hq]
    dsimp only
    have a1:=nd_add_len B32_le p1 p2
    have a2:=nd_sub_len B32_le p1 p2
    have a3:=nd_sub_len B32_le p2 p1
    by_cases hn:n1=n2
    ·rw[if_pos (by simpa using hn),if_pos hn,ra_add p1 p2 (by omega) (by omega),Option.bind_some,ra_low n1 _ q1 (by omega) (by omega) hq1,Option.bind_some]
    ·rw[if_neg (by simpa using hn),if_neg hn,ra_cmp p1 p2 (by omega),Option.bind_some]
     dsimp only
     have hlt:=cmpN_lt (a:=p1) (b:=p2)
     by_cases hle:p2≤p1
     ·have hge:cmpN p1 p2≥0:=by omega
      rw[if_pos (decide_eq_true hge),if_pos hle,ra_sub p1 p2 (by omega) hle,Option.bind_some,ra_low n1 _ q1 (by omega) (by omega) hq1,Option.bind_some]
     ·have hge:¬cmpN p1 p2≥0:=by omega
      rw[if_neg (by simpa using hge),if_neg hle,ra_sub p2 p1 (by omega) (by omega),Option.bind_some,ra_low n2 _ q1 (by omega) (by omega) hq1,Option.bind_some]
   ·have hq0:q1*q2≠0:=Nat.mul_ne_zero hq1 hq2
    rw[if_pos (by simpa using fun q=>hq (cmpN_zero.1 q)),ra_mul p1 q2 (by omega) (by omega),Option.bind_some,ra_mul p2 q1 (by omega) (by omega),Option.bind_some,ra_mul q1 q2 (by omega) (by omega),Option.bind_some]
    dsimp only
    unfold addQ
    dsimp only
    have a1:=nd_add_len B32_le (p1*q2) (p2*q1)
    have a2:=nd_sub_len B32_le (p1*q2) (p2*q1)
    have a3:=nd_sub_len B32_le (p2*q1) (p1*q2)
    by_cases hn:n1=n2
    ·rw[if_pos (by simpa using hn),if_pos hn,ra_add _ _ (by omega) (by omega),Option.bind_some,ra_low n1 _ _ (by omega) (by omega) hq0,Option.bind_some]
    ·rw[if_neg (by simpa using hn),if_neg hn,ra_cmp _ _ (by omega),Option.bind_some]
     dsimp only
     have hlt:=cmpN_lt (a:=p1*q2) (b:=p2*q1)
     by_cases hle:p2*q1≤p1*q2
     ·have hge:cmpN (p1*q2) (p2*q1)≥0:=by
       rcases Int.lt_or_le (cmpN (p1*q2) (p2*q1)) 0 with g|g
       ·have:=hlt.1 g
        omega
       ·exact g
      rw[if_pos (decide_eq_true hge),if_pos hle,ra_sub _ _ (by omega) hle,Option.bind_some,ra_low n1 _ _ (by omega) (by omega) hq0,Option.bind_some]
     ·have hge:¬cmpN (p1*q2) (p2*q1)≥0:=by
       have:=hlt.2 (Nat.lt_of_not_le hle)
       omega
      rw[if_neg (by simpa using hge),if_neg hle,ra_sub _ _ (by omega) (Nat.le_of_lt (Nat.lt_of_not_le hle)),Option.bind_some,ra_low n2 _ _ (by omega) (by omega) hq0,Option.bind_some]
theorem ri_add {x y:Q3} {m n:Nat} (hx:low x) (bx:below m x) (hy:low y) (bY:below n y) (hm:m≤350000000) (hn:n≤350000000):S.i_rat_add (rp B32 x,(rp B32 y,()))=some (rp B32 (addQ x y),()):=by
 unfold S.i_rat_add
 dsimp only
 rw[if_pos ⟨lowb_rp9 (by decide) hx bx (by omega),lowb_rp9 (by decide) hy bY (by omega)⟩,rv_rp B32_le,rv_rp B32_le]
abbrev P.i_sum_b1 (x2:Int×Int×List (Bool×List Int×List Int)×(Bool×List Int×List Int)×(Bool×List Int×List Int)×Unit) (g3:Int×Int×List (Bool×List Int×List Int)×(Bool×List Int×List Int)×(Bool×List Int×List Int)×Unit→Option ((Bool×List Int×List Int)×Unit)):Option ((Bool×List Int×List Int)×Unit):=
 if decide (x2.1<x2.2.1)then if decide ((0:Int)≤x2.1)then if decide (x2.1<(x2.2.2.1.length:Int))then(S.i_rat_add ((x2.2.2.2.1.1,x2.2.2.2.1.2.1,x2.2.2.2.1.2.2),((x2.2.2.1.getD x2.1.toNat (false,([]:List Int),([]:List Int))).1,(x2.2.2.1.getD x2.1.toNat (false,([]:List Int),([]:List Int))).2.1,(x2.2.2.1.getD x2.1.toNat (false,([]:List Int),([]:List Int))).2.2),())).bind fun y4=>g3 (IntKind.wrap .i64 (x2.1+(1:Int)),x2.2.1,x2.2.2.1,(y4.1.1,y4.1.2.1,y4.1.2.2),(x2.2.2.2.2.1.1,x2.2.2.2.2.1.2.1,x2.2.2.2.2.1.2.2),())else none else none else some ((x2.2.2.2.1.1,x2.2.2.2.1.2.1,x2.2.2.2.1.2.2),())
def P.i_sum (k:Nat) (x:List (Bool×List Int×List Int)×Unit):Option ((Bool×List Int×List Int)×Unit):=
 (S.i_whole ((0:Int),())).bind fun y0=>loopP P.i_sum_b1 k ((0:Int),(x.1.length:Int),x.1,(y0.1.1,y0.1.2.1,y0.1.2.2),(false,([]:List Int),([]:List Int)),())
open Classical in
def S.i_sum (x:((List RB)×Unit)):(Option (RB×Unit)):=if goodS B32 x.1 then some (rp B32 (sumQ (x.1.map (rv B32))),())else none
theorem i_sum_add (a b:Q3) (ha:lowb B32 40000000 (rp B32 a)=true) (hb:lowb B32 40000000 (rp B32 b)=true):S.i_rat_add (rp B32 a,(rp B32 b,()))=some (rp B32 (addQ a b),()):=by
 unfold S.i_rat_add
 dsimp only
 rw[if_pos ⟨ha,hb⟩,rv_rp B32_le,rv_rp B32_le]
theorem S.i_sum_ok (x:((List RB)×Unit)) (r:_) (h:S.i_sum x=some r):∃k,P.i_sum k x=some r:=by
 obtain⟨xs,u⟩:=x
 unfold S.i_sum at h
 dsimp only at h
 split at h
 case isFalse=>cases h
 rename_i hc
 obtain⟨qs,rfl,hlen,hq,hg⟩:=hc
 cases h
 refine⟨qs.length+1,?_⟩
 unfold P.i_sum
 have hz:S.i_whole (0,())=some (rp B32 zeroQ,()):=by rfl
 dsimp only
 rw[hz,Option.bind_some,map_rv B32_le,List.length_map]
 have key:=loop_up0 (k:=qs.length+1) (b:=P.i_sum_b1) (n:=qs.length) (st:=fun i=>((i:Int),(qs.length:Int),qs.map (rp B32),rp B32 (sumQ (qs.take i)),(false,(([]:List Int),([]:List Int))),())) (F:=fun i=>some (rp B32 (sumQ qs),())) (fun i g hi hg'=>by
  unfold P.i_sum_b1
  dsimp only at hg' ⊢
  have e1:(i:Int)<(qs.length:Int):=by omega
  have e2:(0:Int)≤(i:Int):=by omega
  have e3:(i:Int)<((qs.map (rp B32)).length:Int):=by rw[List.length_map];omega
  rw[if_pos (decide_eq_true e1),if_pos (decide_eq_true e2),if_pos (decide_eq_true e3),getD_cast (qs.map (rp B32)) i _ (by rw[List.length_map];exact hi),List.getElem_map]
  have ea:=i_sum_add (sumQ (qs.take i)) qs[i] (lowb_rp9 (by decide) (hg i).1 (hg i).2 (by decide)) (lowb_rp9 (by decide) (hq _ (List.getElem_mem hi)).1 (hq _ (List.getElem_mem hi)).2 (by decide))
  rw[sumQ_take hi]at ea
  show Option.bind (S.i_rat_add (rp B32 (sumQ (qs.take i)),(rp B32 qs[i],()))) _=_
  rw[ea,Option.bind_some,wr (by omega) (by omega)]
  exact hg') (fun g=>by
  unfold P.i_sum_b1
  dsimp only
  rw[if_neg (by simp),List.take_length]) (by omega)
 exact key
def P.i_isMinus (k:Nat) (x:(Bool×List Int×List Int)×Unit):Option (Bool×Unit):=
 (S.i_rat_sign ((x.1.1,x.1.2.1,x.1.2.2),())).bind fun y0=>some (decide (y0.1<(0:Int)),())
def S.i_isMinus (x:(RB×Unit)):(Option (Bool×Unit)):=if lowb B32 40000000 x.1=true then some (x.1.1,())else none
theorem S.i_isMinus_ok (x:(RB×Unit)) (r:_) (h:S.i_isMinus x=some r):∃k,P.i_isMinus k x=some r:=by
 obtain⟨x,u⟩:=x
 unfold S.i_isMinus at h
 dsimp only at h
 split at h
 case isFalse=>cases h
 rename_i hc
 obtain⟨hr,hl⟩:=lowb_iff.1 hc
 obtain⟨n,p,q,rfl,l1,l2⟩:=rok_nd hr
 rw[rv_nd B32_le]at hl
 cases h
 refine⟨0,?_⟩
 unfold P.i_isMinus S.i_rat_sign
 dsimp only
 rw[if_pos (canon_nd B32_le _),dval_nd B32_le,Option.bind_some]
 dsimp only
 have h2:=hl.2.1
 dsimp only at h2
 unfold sgnQ
 cases n
 ·by_cases hp:p=0
  ·rw[if_pos hp]
   rfl
  ·rw[if_neg hp]
   rfl
 ·rw[if_neg (h2 rfl)]
  rfl
abbrev P.slices_IndexFunc__i_rat_i_rat_b0 (x1:Int×Int×Unit×List (Bool×List Int×List Int)×Unit) (g2:Int×Int×Unit×List (Bool×List Int×List Int)×Unit→Option (Int×Unit)):Option (Int×Unit):=
 if decide (x1.1<x1.2.1)then if decide ((0:Int)≤x1.1)then if decide (x1.1<(x1.2.2.2.1.length:Int))then(S.i_isMinus (((x1.2.2.2.1.getD x1.1.toNat (false,([]:List Int),([]:List Int))).1,(x1.2.2.2.1.getD x1.1.toNat (false,([]:List Int),([]:List Int))).2.1,(x1.2.2.2.1.getD x1.1.toNat (false,([]:List Int),([]:List Int))).2.2),())).bind fun y3=>if y3.1 then some (x1.1,())else g2 (IntKind.wrap .i64 (x1.1+(1:Int)),x1.2.1,(),x1.2.2.2.1,())else none else none else some ((-1:Int),())
def P.slices_IndexFunc__i_rat_i_rat (k:Nat) (x:List (Bool×List Int×List Int)×Unit×Unit):Option (Int×Unit):=
 loopP P.slices_IndexFunc__i_rat_i_rat_b0 k ((0:Int),(x.1.length:Int),(),x.1,())
open Classical in
def S.slices_IndexFunc__i_rat_i_rat (x:((List RB)×(Unit×Unit))):(Option (Int×Unit)):=if goodL B32 x.1 then some (ixM x.1,())else none
theorem S.slices_IndexFunc__i_rat_i_rat_ok (x:((List RB)×(Unit×Unit))) (r:_) (h:S.slices_IndexFunc__i_rat_i_rat x=some r):∃k,P.slices_IndexFunc__i_rat_i_rat k x=some r:=by
 obtain⟨xs,u,u'⟩:=x
 unfold S.slices_IndexFunc__i_rat_i_rat at h
 dsimp only at h
 split at h
 case isFalse=>cases h
 rename_i hc
 obtain⟨qs,n,rfl,hg⟩:=hc
 cases h
 have hlen:=good_len hg
 refine⟨qs.length+1,?_⟩
 unfold P.slices_IndexFunc__i_rat_i_rat
 dsimp only
 have hm:∀i (hi:i<qs.length),S.i_isMinus (rp B32 qs[i],())=some (qs[i].1,()):=by
  intro i hi
  unfold S.i_isMinus
  dsimp only
  rw[if_pos (good_get (by decide) hg hi)]
  rfl
 have key:=loop_up0 (k:=qs.length+1) (b:=P.slices_IndexFunc__i_rat_i_rat_b0) (n:=qs.length) (st:=fun i=>((i:Int),(qs.length:Int),(),qs.map (rp B32),())) (F:=fun i=>some (if ixM ((qs.drop i).map (rp B32))<0 then -1 else ixM ((qs.drop i).map (rp B32))+i,())) (fun i g hi hg'=>by
  unfold P.slices_IndexFunc__i_rat_i_rat_b0
  dsimp only at hg' ⊢
  have e1:(i:Int)<(qs.length:Int):=by omega
  have e2:(0:Int)≤(i:Int):=by omega
  have e3:(i:Int)<((qs.map (rp B32)).length:Int):=by rw[List.length_map];omega
  rw[if_pos (decide_eq_true e1),if_pos (decide_eq_true e2),if_pos (decide_eq_true e3),getD_cast (qs.map (rp B32)) i _ (by rw[List.length_map];exact hi),List.getElem_map]
  show Option.bind (S.i_isMinus (rp B32 qs[i],())) _=_
  rw[hm i hi,Option.bind_some,List.drop_eq_getElem_cons hi,List.map_cons,ixM_cons]
  dsimp only
  rw[show(rp B32 qs[i]).1=qs[i].1 from rfl]
  cases hf:qs[i].1
  ·simp only[Bool.false_eq_true,if_false]
   rw[wr (by omega) (by omega)]
   refine hg'.trans ?_
   congr 2
   split
   ·rfl
   ·rw[if_neg (by omega)]
    omega
  ·simp) (fun g=>by
  unfold P.slices_IndexFunc__i_rat_i_rat_b0
  dsimp only
  rw[if_neg (by simp),List.drop_length]
  rfl) (by omega)
 rw[List.length_map]
 refine key.trans ?_
 rw[List.drop_zero]
 congr 2
 have hr: -1≤ixM (qs.map (rp B32)):=by
  generalize qs.map (rp B32)=zs
  induction zs with
  |nil=>decide
  |cons z zs ih=>
   rw[ixM_cons]
   split
   ·omega
   ·split<;>omega
 split<;>omega
def P.slices_ContainsFunc__i_rat_i_rat (k:Nat) (x:List (Bool×List Int×List Int)×Unit×Unit):Option (Bool×Unit):=
 (S.slices_IndexFunc__i_rat_i_rat (x.1,(),())).bind fun y0=>some (decide (y0.1≥(0:Int)),())
open Classical in
def S.slices_ContainsFunc__i_rat_i_rat (x:((List RB)×(Unit×Unit))):(Option (Bool×Unit)):=if goodL B32 x.1 then some (x.1.any fun r=>r.1,())else none
theorem S.slices_ContainsFunc__i_rat_i_rat_ok (x:((List RB)×(Unit×Unit))) (r:_) (h:S.slices_ContainsFunc__i_rat_i_rat x=some r):∃k,P.slices_ContainsFunc__i_rat_i_rat k x=some r:=by
 obtain⟨xs,u,u'⟩:=x
 unfold S.slices_ContainsFunc__i_rat_i_rat at h
 dsimp only at h
 split at h
 case isFalse=>cases h
 rename_i hc
 cases h
 refine⟨0,?_⟩
 unfold P.slices_ContainsFunc__i_rat_i_rat S.slices_IndexFunc__i_rat_i_rat
 dsimp only
 rw[if_pos hc,Option.bind_some,←ixM_any]
def P.i_notPlus (k:Nat) (x:(Bool×List Int×List Int)×Unit):Option (Bool×Unit):=
 (S.i_rat_sign ((x.1.1,x.1.2.1,x.1.2.2),())).bind fun y0=>some (decide (y0.1≤(0:Int)),())
def S.i_notPlus (x:(RB×Unit)):(Option (Bool×Unit)):=if rok B32 40000000 x.1=true then some (!posQ (rv B32 x.1),())else none
theorem S.i_notPlus_ok (x:(RB×Unit)) (r:_) (h:S.i_notPlus x=some r):∃k,P.i_notPlus k x=some r:=by
 obtain⟨y,u⟩:=x
 unfold S.i_notPlus at h
 dsimp only at h
 split at h
 case isFalse=>cases h
 rename_i hc
 cases h
 obtain⟨n,p,q,rfl,_,_⟩:=rok_nd hc
 refine⟨0,?_⟩
 unfold P.i_notPlus
 dsimp only
 have hs:S.i_rat_sign ((n,(nd B32 p,nd B32 q)),())=some (sgnQ n p,()):=by
  unfold S.i_rat_sign
  dsimp only
  rw[if_pos (canon_nd B32_le _),dval_nd B32_le]
 rw[hs,Option.bind_some,rv_nd B32_le]
 dsimp only
 rw[←sgnQ_npos]
abbrev P.slices_IndexFunc__i_rat_i_ratP_b0 (x1:Int×Int×Unit×List (Bool×List Int×List Int)×Unit) (g2:Int×Int×Unit×List (Bool×List Int×List Int)×Unit→Option (Int×Unit)):Option (Int×Unit):=
 if decide (x1.1<x1.2.1)then if decide ((0:Int)≤x1.1)then if decide (x1.1<(x1.2.2.2.1.length:Int))then(S.i_notPlus (((x1.2.2.2.1.getD x1.1.toNat (false,([]:List Int),([]:List Int))).1,(x1.2.2.2.1.getD x1.1.toNat (false,([]:List Int),([]:List Int))).2.1,(x1.2.2.2.1.getD x1.1.toNat (false,([]:List Int),([]:List Int))).2.2),())).bind fun y3=>if y3.1 then some (x1.1,())else g2 (IntKind.wrap .i64 (x1.1+(1:Int)),x1.2.1,(),x1.2.2.2.1,())else none else none else some ((-1:Int),())
def P.slices_IndexFunc__i_rat_i_ratP (k:Nat) (x:List (Bool×List Int×List Int)×Unit×Unit):Option (Int×Unit):=
 loopP P.slices_IndexFunc__i_rat_i_ratP_b0 k ((0:Int),(x.1.length:Int),(),x.1,())
open Classical in
def S.slices_IndexFunc__i_rat_i_ratP (x:((List RB)×(Unit×Unit))):(Option (Int×Unit)):=if goodL B32 x.1 then some (ixF (fun r=> !posQ r) (x.1.map (rv B32)),())else none
theorem S.slices_IndexFunc__i_rat_i_ratP_ok (x:((List RB)×(Unit×Unit))) (r:_) (h:S.slices_IndexFunc__i_rat_i_ratP x=some r):∃k,P.slices_IndexFunc__i_rat_i_ratP k x=some r:=by
 obtain⟨xs,u,u'⟩:=x
 unfold S.slices_IndexFunc__i_rat_i_ratP at h
 dsimp only at h
 split at h
 case isFalse=>cases h
 rename_i hc
 cases h
 obtain⟨qs,n,rfl,hg⟩:=hc
 have hlen:=good_len hg
 refine⟨qs.length+1,?_⟩
 unfold P.slices_IndexFunc__i_rat_i_ratP
 dsimp only
 have hm:∀i (hi:i<qs.length),S.i_notPlus (rp B32 qs[i],())=some (!posQ qs[i],()):=by
  intro i hi
  unfold S.i_notPlus
  dsimp only
  rw[if_pos (lowb_iff.1 (good_get (by decide) hg hi)).1,rv_rp B32_le]
 have key:=loop_up0 (k:=qs.length+1) (b:=P.slices_IndexFunc__i_rat_i_ratP_b0) (n:=qs.length) (st:=fun i=>((i:Int),(qs.length:Int),(),qs.map (rp B32),())) (F:=fun i=>some (if ixF (fun r=> !posQ r) (qs.drop i)<0 then -1 else ixF (fun r=> !posQ r) (qs.drop i)+i,())) (fun i g hi hg'=>by
  unfold P.slices_IndexFunc__i_rat_i_ratP_b0
  dsimp only at hg' ⊢
  have e1:(i:Int)<(qs.length:Int):=by omega
  have e2:(0:Int)≤(i:Int):=by omega
  have e3:(i:Int)<((qs.map (rp B32)).length:Int):=by rw[List.length_map];omega
  rw[if_pos (decide_eq_true e1),if_pos (decide_eq_true e2),if_pos (decide_eq_true e3),getD_cast (qs.map (rp B32)) i _ (by rw[List.length_map];exact hi),List.getElem_map]
  show Option.bind (S.i_notPlus (rp B32 qs[i],())) _=_
  rw[hm i hi,Option.bind_some,List.drop_eq_getElem_cons hi,ixF_cons]
  dsimp only
  cases hf: !posQ qs[i]
  ·simp only[Bool.false_eq_true,if_false]
   rw[wr (by omega) (by omega)]
   refine hg'.trans ?_
   congr 2
   have:=ixF_ge (fun r=> !posQ r) (qs.drop (i+1))
   split
   ·rfl
   ·rw[if_neg (by omega)]
    omega
  ·simp) (fun g=>by
  unfold P.slices_IndexFunc__i_rat_i_ratP_b0
  dsimp only
  rw[if_neg (by simp),List.drop_length]
  rfl) (by omega)
 rw[List.length_map,map_rv B32_le]
 refine key.trans ?_
 rw[List.drop_zero]
 congr 2
 have hr:=ixF_ge (fun r=> !posQ r) qs
 split<;>omega
def P.slices_ContainsFunc__i_rat_i_ratP (k:Nat) (x:List (Bool×List Int×List Int)×Unit×Unit):Option (Bool×Unit):=
 (S.slices_IndexFunc__i_rat_i_ratP (x.1,(),())).bind fun y0=>some (decide (y0.1≥(0:Int)),())
open Classical in
def S.slices_ContainsFunc__i_rat_i_ratP (x:((List RB)×(Unit×Unit))):(Option (Bool×Unit)):=if goodL B32 x.1 then some (!ratesB (x.1.map (rv B32)),())else none
theorem S.slices_ContainsFunc__i_rat_i_ratP_ok (x:((List RB)×(Unit×Unit))) (r:_) (h:S.slices_ContainsFunc__i_rat_i_ratP x=some r):∃k,P.slices_ContainsFunc__i_rat_i_ratP k x=some r:=by
 obtain⟨xs,u,u'⟩:=x
 unfold S.slices_ContainsFunc__i_rat_i_ratP at h
 dsimp only at h
 split at h
 case isFalse=>cases h
 rename_i hc
 cases h
 refine⟨0,?_⟩
 unfold P.slices_ContainsFunc__i_rat_i_ratP S.slices_IndexFunc__i_rat_i_ratP
 dsimp only
 rw[if_pos hc,Option.bind_some,←not_ratesB,←ixF_any]
def P.i_rat_mul (k:Nat) (x:(Bool×List Int×List Int)×(Bool×List Int×List Int)×Unit):Option ((Bool×List Int×List Int)×Unit):=
 (S.i_rat_sign ((x.1.1,x.1.2.1,x.1.2.2),())).bind fun y0=>if y0.1==(0:Int)then(S.i_whole ((0:Int),())).bind fun y1=>some ((y1.1.1,y1.1.2.1,y1.1.2.2),())else(S.i_rat_sign ((x.2.1.1,x.2.1.2.1,x.2.1.2.2),())).bind fun y2=>if y2.1==(0:Int)then(S.i_whole ((0:Int),())).bind fun y3=>some ((y3.1.1,y3.1.2.1,y3.1.2.2),())else(S.i_lowest (false,x.1.2.1,x.2.1.2.2,())).bind fun y4=>(S.i_lowest (false,x.2.1.2.1,x.1.2.2,())).bind fun y5=>(S.i_nat_mul (y4.1.2.1,y5.1.2.1,())).bind fun y6=>(S.i_nat_mul (y4.1.2.2,y5.1.2.2,())).bind fun y7=>some ((! (x.1.1==x.2.1.1),y6.1,y7.1),())
theorem rm_mul (p q:Nat) (hp:(nd B32 p).length≤100000000) (hq:(nd B32 q).length≤100000000):S.i_nat_mul (nd B32 p,(nd B32 q,()))=some (nd B32 (p*q),()):=by
 unfold S.i_nat_mul
 dsimp only
 rw[if_pos ⟨dig_nd B32_le _,dig_nd B32_le _,by omega,by omega⟩,dval_nd B32_le,dval_nd B32_le]
theorem rm_low (n:Bool) (p q:Nat) (hp:(nd B32 p).length≤100000000) (hq:(nd B32 q).length≤100000000) (h0:q≠0):S.i_lowest (n,(nd B32 p,(nd B32 q,())))=some (rp B32 (lowN n p q),()):=by
 unfold S.i_lowest
 dsimp only
 rw[if_pos ⟨canon_nd B32_le _,canon_nd B32_le _,nd_ne B32_le h0,by omega,by omega⟩,dval_nd B32_le,dval_nd B32_le]
theorem rm_sign (n:Bool) (p:Nat) (bs:List Int):S.i_rat_sign ((n,(nd B32 p,bs)),())=some (sgnQ n p,()):=by
 unfold S.i_rat_sign
 dsimp only
 rw[if_pos (canon_nd B32_le _),dval_nd B32_le]
theorem rm_zero:S.i_whole (0,())=some (rp B32 (false,(0,1)),()):=by
 unfold S.i_whole
 rfl
def S.i_rat_mul (x:(RB×(RB×Unit))):(Option (RB×Unit)):=if lowb B32 40000000 x.1=true∧lowb B32 40000000 x.2.1=true then some (rp B32 (mulQ (rv B32 x.1) (rv B32 x.2.1)),())else none
theorem S.i_rat_mul_ok (x:(RB×(RB×Unit))) (r:_) (h:S.i_rat_mul x=some r):∃k,P.i_rat_mul k x=some r:=by
 obtain⟨x,y,u⟩:=x
 unfold S.i_rat_mul at h
 dsimp only at h
 split at h
 case isFalse=>cases h
 rename_i hc
 obtain⟨hx,hy⟩:=hc
 cases h
 rw[lowb_iff]at hx hy
 obtain⟨hx,lx⟩:=hx
 obtain⟨hy,ly⟩:=hy
 obtain⟨n1,p1,q1,rfl,x1,x2⟩:=rok_nd hx
 obtain⟨n2,p2,q2,rfl,y1,y2⟩:=rok_nd hy
 rw[rv_nd B32_le]at lx ly ⊢
 rw[rv_nd B32_le]
 have hq1:0<q1:=lx.1
 have hq2:0<q2:=ly.1
 refine⟨0,?_⟩
 unfold P.i_rat_mul mulQ
 dsimp only
 rw[rm_sign,Option.bind_some,rm_zero,Option.bind_some]
 dsimp only
 by_cases h1:p1=0
 ·rw[if_pos (by simpa using sgnQ_zero.2 h1),h1,Nat.zero_mul,lowN_zero _ (Nat.mul_pos hq1 hq2)]
 ·rw[if_neg (by simpa using fun q=>h1 (sgnQ_zero.1 q)),rm_sign,Option.bind_some]
  dsimp only
  by_cases h2:p2=0
  ·rw[if_pos (by simpa using sgnQ_zero.2 h2),h2,Nat.mul_zero,lowN_zero _ (Nat.mul_pos hq1 hq2)]
  ·have d1:=nd_div_len B32_le p1 (Nat.gcd p1 q2)
   have d2:=nd_div_len B32_le p2 (Nat.gcd p2 q1)
   have d3:=nd_div_len B32_le q2 (Nat.gcd p1 q2)
   have d4:=nd_div_len B32_le q1 (Nat.gcd p2 q1)
   rw[if_neg (by simpa using fun q=>h2 (sgnQ_zero.1 q)),rm_low false p1 q2 (by omega) (by omega) (by omega),Option.bind_some,rm_low false p2 q1 (by omega) (by omega) (by omega),Option.bind_some,cross_mul _ (fun _=>⟨h1,h2⟩) hq1 hq2 lx.2.2 ly.2.2]
   unfold rp lowN
   dsimp only
   rw[rm_mul _ _ (by omega) (by omega),Option.bind_some,rm_mul _ _ (by omega) (by omega),Option.bind_some]
   rfl
theorem ri_mul {x y:Q3} {m n:Nat} (hx:low x) (bx:below m x) (hy:low y) (bY:below n y) (hm:m≤350000000) (hn:n≤350000000):S.i_rat_mul (rp B32 x,(rp B32 y,()))=some (rp B32 (mulQ x y),()):=by
 unfold S.i_rat_mul
 dsimp only
 rw[if_pos ⟨lowb_rp9 (by decide) hx bx (by omega),lowb_rp9 (by decide) hy bY (by omega)⟩,rv_rp B32_le,rv_rp B32_le]
def P.i_rat_over (k:Nat) (x:(Bool×List Int×List Int)×(Bool×List Int×List Int)×Unit):Option ((Bool×List Int×List Int)×Unit):=
 (S.i_rat_mul ((x.1.1,x.1.2.1,x.1.2.2),(x.2.1.1,x.2.1.2.2,x.2.1.2.1),())).bind fun y0=>some ((y0.1.1,y0.1.2.1,y0.1.2.2),())
def S.i_rat_over (x:(RB×(RB×Unit))):(Option (RB×Unit)):=if lowb B32 40000000 x.1=true∧lowb B32 40000000 x.2.1=true∧(rv B32 x.2.1).2.1≠0 then some (rp B32 (overQ (rv B32 x.1) (rv B32 x.2.1)),())else none
theorem S.i_rat_over_ok (x:(RB×(RB×Unit))) (r:_) (h:S.i_rat_over x=some r):∃k,P.i_rat_over k x=some r:=by
 obtain⟨x,y,u⟩:=x
 unfold S.i_rat_over at h
 dsimp only at h
 split at h
 case isFalse=>cases h
 rename_i hc
 obtain⟨hx,hy,h0⟩:=hc
 cases h
 have hy':=lowb_iff.1 hy
 refine⟨0,?_⟩
 have e2:S.i_rat_mul (x,((y.1,(y.2.2,y.2.1)),()))=some (rp B32 (overQ (rv B32 x) (rv B32 y)),()):=by
  unfold S.i_rat_mul
  dsimp only
  have hz:lowb B32 40000000 (y.1,(y.2.2,y.2.1))=true:=by
   rw[lowb_iff]
   obtain⟨r1,l1⟩:=hy'
   have r2:=rok_iff.1 r1
   refine⟨rok_iff.2 ⟨r2.2.1,r2.1,r2.2.2.2,r2.2.2.1⟩,?_⟩
   obtain⟨l1,l2,l3⟩:=l1
   refine⟨Nat.pos_of_ne_zero h0,fun _=>Nat.ne_of_gt l1,?_⟩
   rw[Nat.gcd_comm]
   exact l3
  rw[if_pos ⟨hx,hz⟩]
  rfl
 show Option.bind (S.i_rat_mul (x,((y.1,(y.2.2,y.2.1)),()))) (fun y0=>some (y0.1,()))=_
 rw[e2,Option.bind_some]
theorem ri_over {x y:Q3} {m n:Nat} (hx:low x) (bx:below m x) (hy:low y) (bY:below n y) (h0:y.2.1≠0) (hm:m≤350000000) (hn:n≤350000000):S.i_rat_over (rp B32 x,(rp B32 y,()))=some (rp B32 (overQ x y),()):=by
 unfold S.i_rat_over
 dsimp only
 rw[if_pos ⟨lowb_rp9 (by decide) hx bx (by omega),lowb_rp9 (by decide) hy bY (by omega),by rw[rv_rp B32_le];exact h0⟩,rv_rp B32_le,rv_rp B32_le]
abbrev P.i_scaled_b0 (x1:Int×Int×List (Bool×List Int×List Int)×List (Bool×List Int×List Int)×(Bool×List Int×List Int)×Unit) (g2:Int×Int×List (Bool×List Int×List Int)×List (Bool×List Int×List Int)×(Bool×List Int×List Int)×Unit→Option (List (Bool×List Int×List Int)×Unit)):Option (List (Bool×List Int×List Int)×Unit):=
 if decide (x1.1<x1.2.1)then if decide ((0:Int)≤x1.1)then if decide (x1.1<(x1.2.2.1.length:Int))then(S.i_rat_over (((x1.2.2.1.getD x1.1.toNat (false,([]:List Int),([]:List Int))).1,(x1.2.2.1.getD x1.1.toNat (false,([]:List Int),([]:List Int))).2.1,(x1.2.2.1.getD x1.1.toNat (false,([]:List Int),([]:List Int))).2.2),(x1.2.2.2.2.1.1,x1.2.2.2.2.1.2.1,x1.2.2.2.2.1.2.2),())).bind fun y3=>if decide (((x1.2.2.2.1.length+(List.length [(y3.1.1,y3.1.2.1,y3.1.2.2)]))*(56:Nat))≤(140737488355328:Nat))then g2 (IntKind.wrap .i64 (x1.1+(1:Int)),x1.2.1,x1.2.2.1,x1.2.2.2.1++[(y3.1.1,y3.1.2.1,y3.1.2.2)],(x1.2.2.2.2.1.1,x1.2.2.2.2.1.2.1,x1.2.2.2.2.1.2.2),())else none else none else none else some (x1.2.2.2.1,())
def P.i_scaled (k:Nat) (x:List (Bool×List Int×List Int)×(Bool×List Int×List Int)×Unit):Option (List (Bool×List Int×List Int)×Unit):=
 loopP P.i_scaled_b0 k ((0:Int),(x.1.length:Int),x.1,([]:List (Bool×List Int×List Int)),(x.2.1.1,x.2.1.2.1,x.2.1.2.2),())
def normQ (qs:List Q3) (q:Q3):List Q3:=qs.map fun r=>overQ r q
theorem over_i {x y:Q3} (hx:low x) (bx:below 350000000 x) (hy:low y) (bY:below 350000000 y) (h0:y.2.1≠0):S.i_rat_over (((rp B32 x).1,(rp B32 x).2.1,(rp B32 x).2.2),((rp B32 y).1,(rp B32 y).2.1,(rp B32 y).2.2),())=some (rp B32 (overQ x y),()):=ri_over hx bx hy bY h0 (Nat.le_refl _) (Nat.le_refl _)
open Classical in
def S.i_scaled (x:((List RB)×(RB×Unit))):(Option ((List RB)×Unit)):=if ∃(qs:List Q3) (q:Q3),x.1=qs.map (rp B32)∧x.2.1=rp B32 q∧qs.length≤1000000∧(∀r∈qs,low r∧below 350000000 r)∧low q∧below 350000000 q∧q.2.1≠0 then some ((normQ (x.1.map (rv B32)) (rv B32 x.2.1)).map (rp B32),())else none
theorem S.i_scaled_ok (x:((List RB)×(RB×Unit))) (r:_) (h:S.i_scaled x=some r):∃k,P.i_scaled k x=some r:=by
 obtain⟨xs,y,u⟩:=x
 unfold S.i_scaled at h
 dsimp only at h
 split at h
 case isFalse=>cases h
 rename_i hc
 obtain⟨qs,q,rfl,rfl,hl,hq,h1,h2,h3⟩:=hc
 cases h
 rw[map_rv B32_le,rv_rp B32_le]
 refine⟨qs.length+1,?_⟩
 unfold P.i_scaled
 dsimp only
 rw[List.length_map]
 have key:=loop_up0 (k:=qs.length+1) (b:=P.i_scaled_b0) (n:=qs.length) (st:=fun i=>((i:Int),(qs.length:Int),qs.map (rp B32),(normQ (qs.take i) q).map (rp B32),rp B32 q,())) (F:=fun _=>some ((normQ qs q).map (rp B32),())) (fun i g hi hg=>by
  unfold P.i_scaled_b0
  dsimp only at hg ⊢
  have e1:(i:Int)<(qs.length:Int):=by omega
  have e2:(0:Int)≤(i:Int):=by omega
  have e3:(i+1)*56≤140737488355328:=by omega
  have e4:((normQ (qs.take i) q).map (rp B32)).length=i:=by
   unfold normQ
   simp
   omega
  simp only[e1,e2,e4,List.length_map,decide_true,if_true]
  rw[getD_cast (qs.map (rp B32)) i _ (by rw[List.length_map];exact hi),List.getElem_map,over_i (hq _ (List.getElem_mem hi)).1 (hq _ (List.getElem_mem hi)).2 h1 h2 h3,Option.bind_some]
  simp only[List.length_cons,List.length_nil,Nat.zero_add,e3,decide_true,if_true]
  rw[wr (by omega) (by omega),←hg]
  have e5:(normQ (qs.take (i+1)) q).map (rp B32)=(normQ (qs.take i) q).map (rp B32)++[rp B32 (overQ qs[i] q)]:=by
   unfold normQ
   rw[←List.take_append_getElem hi,List.map_append,List.map_append]
   rfl
  rw[e5]
  rfl) (fun g=>by
  unfold P.i_scaled_b0
  dsimp only
  rw[if_neg (by simp),List.take_length]) (by omega)
 exact key
def S.strconv_FormatUint (x:(Int×(Int×Unit))):(Option (ByteArray×Unit)):=if x.2.1=10∧0≤x.1∧x.1<18446744073709551616 then some (⟨(Go.Lib.decDigits x.1.toNat).toArray⟩,())else none
def joinB (xs:List ByteArray) (sep:ByteArray):List UInt8:=Go.Lib.join (xs.map (·.data.toList)) sep.data.toList
def S.strings_Join (x:((List ByteArray)×(ByteArray×Unit))):(Option (ByteArray×Unit)):=if x.1.length≤140737488355328∧(joinB x.1 x.2.1).length≤140737488355328 then some (⟨(joinB x.1 x.2.1).toArray⟩,())else none
def S.strings_Repeat (x:(ByteArray×(Int×Unit))):(Option (ByteArray×Unit)):=if 0≤x.2.1∧x.2.1≤1000000∧x.1.size≤1000000 then some (⟨(Go.Lib.repeatL x.1.data.toList x.2.1.toNat).toArray⟩,())else none
abbrev P.slices_Reverse__string_string_b0 (x1:Int×Int×List ByteArray×Unit) (g2:Int×Int×List ByteArray×Unit→Option (Unit×List ByteArray×Unit)):Option (Unit×List ByteArray×Unit):=
 if decide (x1.1<x1.2.1)then if decide ((0:Int)≤x1.2.1)then if decide (x1.2.1<(x1.2.2.1.length:Int))then if decide ((0:Int)≤x1.1)then if decide (x1.1<(x1.2.2.1.length:Int))then if decide ((0:Int)≤x1.1)then if decide (x1.1<(x1.2.2.1.length:Int))then if decide ((0:Int)≤x1.2.1)then if decide (x1.2.1<(List.length (x1.2.2.1.set ((0:Nat)+x1.1.toNat) (x1.2.2.1.getD ((0:Nat)+x1.2.1.toNat) (bs []))):Int))then g2 (IntKind.wrap .i64 (x1.1+(1:Int)),IntKind.wrap .i64 (x1.2.1 - (1:Int)),List.set (x1.2.2.1.set ((0:Nat)+x1.1.toNat) (x1.2.2.1.getD ((0:Nat)+x1.2.1.toNat) (bs []))) ((0:Nat)+x1.2.1.toNat) (x1.2.2.1.getD ((0:Nat)+x1.1.toNat) (bs [])),())else none else none else none else none else none else none else none else none else some ((),x1.2.2.1,())
def P.slices_Reverse__string_string (k:Nat) (x:List ByteArray×Unit):Option (Unit×List ByteArray×Unit):=
 loopP P.slices_Reverse__string_string_b0 k ((0:Int),IntKind.wrap .i64 ((x.1.length:Int) - (1:Int)),x.1,())
def rvd (xs:List ByteArray) (t:Nat):List ByteArray:=(List.range xs.length).map fun p=>if p<t∨xs.length - t≤p then xs.getD (xs.length - 1 - p) (bs [])else xs.getD p (bs [])
theorem rvd_len (xs:List ByteArray) (t:Nat):(rvd xs t).length=xs.length:=by simp [rvd]
theorem rvd_get (xs:List ByteArray) (t p:Nat) (h:p<xs.length):(rvd xs t).getD p (bs [])=if p<t∨xs.length - t≤p then xs.getD (xs.length - 1 - p) (bs [])else xs.getD p (bs []):=by
 unfold rvd
 rw[List.getD_eq_getElem?_getD,List.getElem?_map,List.getElem?_range h]
 rfl
theorem getD_ext {xs ys:List ByteArray} (hl:xs.length=ys.length) (h:∀p,p<xs.length→xs.getD p (bs [])=ys.getD p (bs [])):xs=ys:=by
 apply List.ext_getElem hl
 intro i h1 h2
 have:=h i h1
 simpa [h1,h2]using this
theorem rvd_end (xs:List ByteArray):rvd xs (xs.length/2)=xs.reverse:=by
 apply getD_ext (by rw[rvd_len,List.length_reverse])
 intro p hp
 rw[rvd_len]at hp
 rw[rvd_get _ _ _ hp]
 have e:xs.reverse.getD p (bs [])=xs.getD (xs.length - 1 - p) (bs []):=by
  rw[List.getD_eq_getElem?_getD,List.getElem?_reverse hp,←List.getD_eq_getElem?_getD]
 rw[e]
 split
 ·rfl
 ·rename_i hq
  have:xs.length - 1 - p=p:=by omega
  rw[this]
theorem getD_set' (l:List ByteArray) (i p:Nat) (v:ByteArray) (h:p<l.length):(l.set i v).getD p (bs [])=if p=i then v else l.getD p (bs []):=by
 rw[List.getD_eq_getElem?_getD,List.getElem?_set]
 by_cases e:i=p
 ·subst e
  simp [h]
 ·rw[if_neg e,if_neg (fun q=>e q.symm),←List.getD_eq_getElem?_getD]
theorem rvd_step (xs:List ByteArray) (t:Nat) (ht:t<xs.length/2):((rvd xs t).set t ((rvd xs t).getD (xs.length - 1 - t) (bs []))).set (xs.length - 1 - t) ((rvd xs t).getD t (bs []))=rvd xs (t+1):=by
 apply getD_ext (by simp [rvd_len])
 intro p hp
 simp only[List.length_set,rvd_len]at hp
 rw[getD_set' _ _ _ _ (by simp [rvd_len];exact hp),getD_set' _ _ _ _ (by rw[rvd_len];exact hp),rvd_get _ _ _ hp,rvd_get _ _ _ hp,rvd_get _ _ _ (show t<xs.length by omega),rvd_get _ _ _ (show xs.length - 1 - t<xs.length by omega)]
 rw[if_neg (show ¬(t<t∨xs.length - t≤t) by omega),if_neg (show ¬(xs.length - 1 - t<t∨xs.length - t≤xs.length - 1 - t) by omega)]
 by_cases h1:p=xs.length - 1 - t
 ·rw[if_pos h1,if_pos (by omega)]
  congr 1
  omega
 ·rw[if_neg h1]
  by_cases h2:p=t
  ·rw[if_pos h2,if_pos (by omega)]
   congr 1
   omega
  ·rw[if_neg h2]
   by_cases h3:p<t∨xs.length - t≤p
   ·rw[if_pos h3,if_pos (by omega)]
   ·rw[if_neg h3,if_neg (by omega)]
def S.slices_Reverse__string_string (x:((List ByteArray)×Unit)):(Option (Unit×((List ByteArray)×Unit))):=if x.1.length≤1000000000 then some ((),(x.1.reverse,()))else none
theorem S.slices_Reverse__string_string_ok (x:((List ByteArray)×Unit)) (r:_) (h:S.slices_Reverse__string_string x=some r):∃k,P.slices_Reverse__string_string k x=some r:=by
 obtain⟨xs,u⟩:=x
 unfold S.slices_Reverse__string_string at h
 dsimp only at h
 split at h
 case isFalse=>cases h
 rename_i hl
 cases h
 refine⟨xs.length/2+1,?_⟩
 unfold P.slices_Reverse__string_string
 dsimp only
 rw[wr (by omega) (by omega)]
 have key:=loop_up0 (k:=xs.length/2+1) (b:=P.slices_Reverse__string_string_b0) (n:=xs.length/2) (st:=fun t=>((t:Int),(xs.length:Int) - 1 - (t:Int),rvd xs t,())) (F:=fun t=>some ((),(xs.reverse,()))) (fun t g ht hg=>by
  unfold P.slices_Reverse__string_string_b0
  dsimp only at hg ⊢
  have e5:(xs.length:Int) - 1 - (t:Int)=((xs.length - 1 - t:Nat):Int):=by omega
  rw[e5]
  have e1:(t:Int)<((xs.length - 1 - t:Nat):Int):=by omega
  have e2:(0:Int)≤((xs.length - 1 - t:Nat):Int):=by omega
  have e3:((xs.length - 1 - t:Nat):Int)<(xs.length:Int):=by omega
  have e4:(0:Int)≤(t:Int):=by omega
  have e6:(t:Int)<(xs.length:Int):=by omega
  simp only[rvd_len,List.length_set,e1,e2,e3,e4,e6,decide_true,if_true,Int.toNat_natCast,Nat.zero_add]
  rw[rvd_step xs t ht,wr (by omega) (by omega),wr (by omega) (by omega),←hg]
  congr 1
  all_goals (simp only[Prod.mk.injEq];and_intros<;>first|rfl|omega|trivial)) (fun g=>by
  unfold P.slices_Reverse__string_string_b0
  dsimp only
  rw[if_neg (by simp;omega),rvd_end]) (by omega)
 have e0:rvd xs 0=xs:=by
  apply getD_ext (rvd_len _ _)
  intro p hp
  rw[rvd_len]at hp
  rw[rvd_get _ _ _ hp,if_neg (by omega)]
 rw[show(xs.length:Int) - 1 - ((0:Nat):Int)=(xs.length:Int) - 1 by omega,e0]at key
 exact key
abbrev P.i_nat_text_b0 (x1:List Int×List ByteArray×Unit) (g2:List Int×List ByteArray×Unit→Option (ByteArray×Unit)):Option (ByteArray×Unit):=
 if decide ((x1.1.length:Int)>(0:Int))then(S.i_nat_divSmall (x1.1,(1000000000:Int),())).bind fun y3=>(S.strconv_FormatUint (IntKind.wrap .u64 y3.1.2,(10:Int),())).bind fun y4=>if decide ((y3.1.1.length:Int)>(0:Int))then(S.strings_Repeat (bs [48],IntKind.wrap .i64 ((9:Int) - (y4.1.size:Int)),())).bind fun y5=>if decide ((y5.1.size+y4.1.size)≤(9223372036854775807:Nat))then if decide (((x1.2.1.length+(List.length [y5.1++y4.1]))*(16:Nat))≤(140737488355328:Nat))then g2 (y3.1.1,x1.2.1++[y5.1++y4.1],())else none else none else if decide (((x1.2.1.length+(List.length [y4.1]))*(16:Nat))≤(140737488355328:Nat))then g2 (y3.1.1,x1.2.1++[y4.1],())else none else(S.slices_Reverse__string_string (x1.2.1,())).bind fun y6=>(S.strings_Join (splice x1.2.1 y6.2.1 (0:Nat),bs [],())).bind fun y7=>some (y7.1,())
def P.i_nat_text (k:Nat) (x:List Int×Unit):Option (ByteArray×Unit):=
 if(x.1.length:Int)==(0:Int)then some (bs [48],())else loopP P.i_nat_text_b0 k (x.1,([]:List ByteArray),())
def mkB (l:List UInt8):ByteArray:=⟨l.toArray⟩
theorem join_empty (xs:List (List UInt8)):Go.Lib.join xs []=xs.flatten:=by
 cases xs with
 |nil=>rfl
 |cons x r=>
  rw[Go.Lib.join_cons,List.flatten_cons]
  congr 1
  unfold Go.Lib.joinTail
  simp
theorem it_loop (n:Nat):∀(acc:List ByteArray) (k:Nat),n<k→(nd B32 n).length≤40000000→acc.length+(textParts n).length≤1000000000→
  loopP P.i_nat_text_b0 k (nd B32 n,(acc,()))=Option.bind (S.slices_Reverse__string_string (acc++(textParts n).map mkB,())) (fun y6=>Option.bind (S.strings_Join (Go.Cm.splice (acc++(textParts n).map mkB) y6.2.1 0,(bs [],()))) (fun y7=>some (y7.1,()))):=by
 induction n using Nat.strongRecOn with
 |ind n ih=>
  intro acc k hk hl hacc
  obtain⟨k,rfl⟩:∃j,k=j+1:=⟨k - 1,by omega⟩
  rw[loopP_succ]
  unfold P.i_nat_text_b0
  dsimp only
  by_cases hn:n=0
  ·subst hn
   rw[nd_zero B32_le,textParts_zero,if_neg (by simp),List.map_nil,List.append_nil]
  ·have hpos:((nd B32 n).length:Int)>0:=by
    rw[nd_pos B32_le hn,List.length_cons]
    omega
   rw[if_pos (decide_eq_true hpos)]
   have sd:S.i_nat_divSmall (nd B32 n,(1000000000,()))=some ((nd B32 (n/1000000000),((n%1000000000:Nat):Int)),()):=by
    unfold S.i_nat_divSmall
    dsimp only
    rw[if_pos ⟨dig_nd B32_le _,by omega,by omega,by omega⟩,dval_nd B32_le]
    rfl
   rw[sd,Option.bind_some]
   dsimp only
   have hm:n%1000000000<1000000000:=Nat.mod_lt _ (by decide)
   have sf:S.strconv_FormatUint (IntKind.wrap .u64 ((n%1000000000:Nat):Int),(10,()))=some (mkB (Go.Lib.decDigits (n%1000000000)),()):=by
    rw[wu (by omega) (by omega)]
    unfold S.strconv_FormatUint
    dsimp only
    rw[if_pos ⟨rfl,by omega,by omega⟩,Int.toNat_natCast]
    rfl
   rw[sf,Option.bind_some]
   dsimp only
   obtain⟨p1,p2⟩:=dec_pad 9 (n%1000000000) (by decide) (by rw[show(10:Nat)^9=1000000000 by decide];exact hm)
   have hsz:(mkB (Go.Lib.decDigits (n%1000000000))).size=(Go.Lib.decDigits (n%1000000000)).length:=ba_sz _
   have hsh:(nd B32 (n/1000000000)).length≤40000000:=by
    refine Nat.le_trans ?_ hl
    rw[nd_len B32_le]
    exact Nat.lt_of_le_of_lt (Nat.div_le_self _ _) ((nd_len B32_le n _).1 (Nat.le_refl _))
   by_cases h1:n/1000000000=0
   ·rw[textParts_one hn h1,List.length_singleton]at hacc
    have hmn:n%1000000000=n:=by omega
    have hc:(acc.length+ [mkB (Go.Lib.decDigits n)].length)*16≤140737488355328:=by
     rw[List.length_singleton]
     omega
    have hz:¬(((nd B32 0).length:Int)>0):=by rw[nd_zero B32_le];simp
    have hi:=ih 0 (by omega) (acc++[mkB (Go.Lib.decDigits n)]) k (by omega) (by rw[nd_zero B32_le];simp) (by rw[textParts_zero];simp;omega)
    rw[h1,hmn,if_neg (by simpa using hz),if_pos (decide_eq_true hc),hi,textParts_zero,textParts_one hn h1,List.map_nil,List.append_nil]
    rfl
   ·rw[textParts_more h1,List.length_cons]at hacc
    have hz:((nd B32 (n/1000000000)).length:Int)>0:=by
     rw[nd_pos B32_le h1,List.length_cons]
     omega
    have sr:S.strings_Repeat (bs [48],(IntKind.wrap .i64 (9 - (((mkB (Go.Lib.decDigits (n%1000000000))).size:Nat):Int)),()))=some (mkB (List.replicate (9 - (Go.Lib.decDigits (n%1000000000)).length) 48),()):=by
     rw[hsz,wr (by omega) (by omega)]
     unfold S.strings_Repeat
     dsimp only
     have h48:(bs [48]).data.toList=[48]:=rfl
     rw[if_pos ⟨by omega,by omega,by decide⟩,h48,repeatL_one,show((9:Int) - ((Go.Lib.decDigits (n%1000000000)).length:Int)).toNat=9 - (Go.Lib.decDigits (n%1000000000)).length by omega]
     rfl
    rw[if_pos (decide_eq_true hz),sr,Option.bind_some]
    dsimp only
    have hsum:(mkB (List.replicate (9 - (Go.Lib.decDigits (n%1000000000)).length) 48)).size+(mkB (Go.Lib.decDigits (n%1000000000))).size≤9223372036854775807:=by
     rw[hsz,show(mkB (List.replicate (9 - (Go.Lib.decDigits (n%1000000000)).length) 48)).size=_ from ba_sz _,List.length_replicate]
     omega
    have happ:mkB (List.replicate (9 - (Go.Lib.decDigits (n%1000000000)).length) 48)++mkB (Go.Lib.decDigits (n%1000000000))=mkB (decPad 9 (n%1000000000)):=by
     rw[←p1]
     exact ba_app _ _
    have hc:(acc.length+ [mkB (decPad 9 (n%1000000000))].length)*16≤140737488355328:=by
     rw[List.length_singleton]
     omega
    have hi:=ih (n/1000000000) (by omega) (acc++[mkB (decPad 9 (n%1000000000))]) k (by omega) hsh (by simp;omega)
    rw[if_pos (decide_eq_true hsum),happ,if_pos (decide_eq_true hc),hi,textParts_more h1,List.map_cons,List.append_assoc]
    rfl
def S.i_nat_text (x:((List Int)×Unit)):(Option (ByteArray×Unit)):=if canon B32 x.1=true∧x.1.length≤40000000 then some (⟨(Go.Lib.decDigits (dval B32 x.1)).toArray⟩,())else none
theorem S.i_nat_text_ok (x:((List Int)×Unit)) (r:_) (h:S.i_nat_text x=some r):∃k,P.i_nat_text k x=some r:=by
 obtain⟨xs,u⟩:=x
 unfold S.i_nat_text at h
 dsimp only at h
 split at h
 case isFalse=>cases h
 rename_i hc
 obtain⟨ca,la⟩:=hc
 cases h
 refine⟨dval B32 xs+1,?_⟩
 unfold P.i_nat_text
 dsimp only
 by_cases he:xs=[]
 ·subst he
  rw[if_pos (by rfl),show dval B32 []=0 from rfl,dec_small (by decide)]
  rfl
 ·have hpos:0<xs.length:=List.length_pos_iff.2 he
  have h0:dval B32 xs≠0:=by
   intro q
   have:=canon_eq ca
   rw[q,nd_zero B32_le]at this
   exact he this.symm
  have hb:dval B32 xs<B32^xs.length:=dval_lt (canon_dig ca)
  have hb2:dval B32 xs<(10^10)^xs.length:=Nat.lt_of_lt_of_le hb (Nat.pow_le_pow_left (by decide) _)
  rw[←Nat.pow_mul]at hb2
  have hlen:(Go.Lib.decDigits (dval B32 xs)).length≤10*xs.length:=dec_len (by omega) hb2
  have hb3:dval B32 xs<B10^(2*xs.length):=by
   refine Nat.lt_of_lt_of_le hb ?_
   rw[Nat.pow_mul]
   exact Nat.pow_le_pow_left (by decide) _
  have hparts:(textParts (dval B32 xs)).length≤2*xs.length:=by
   rw[textParts_len,nd_len B10_le]
   exact hb3
  rw[if_neg (by simp;exact he)]
  have key:=it_loop (dval B32 xs) [] (dval B32 xs+1) (by omega) (by rw[canon_eq ca];omega) (by simp;omega)
  rw[canon_eq ca,List.nil_append]at key
  rw[key]
  have hall:=textParts_all h0
  generalize textParts (dval B32 xs)=ps at*
  unfold S.slices_Reverse__string_string S.strings_Join
  dsimp only
  have hj:joinB (Go.Cm.splice (ps.map mkB) (ps.map mkB).reverse 0) (bs [])=Go.Lib.decDigits (dval B32 xs):=by
   rw[splice_all (by simp)]
   unfold joinB
   rw[show(bs []).data.toList=[]from rfl,join_empty,←List.map_reverse,List.map_map]
   rw[show(fun x:ByteArray=>x.data.toList) ∘ mkB=id by funext l;simp [mkB],List.map_id]
   exact hall
  rw[if_pos (by simp;omega),Option.bind_some]
  dsimp only
  rw[hj,if_pos ⟨by rw[splice_all (by simp)];simp;omega,by omega⟩,Option.bind_some]
def P.i_rat_text (k:Nat) (x:(Bool×List Int×List Int)×Unit):Option ((ByteArray×Bool)×Unit):=
 (S.i_nat_text (x.1.2.1,())).bind fun y0=>(S.i_nat_text (x.1.2.2,())).bind fun y1=>if x.1.1 then if decide (((1:Nat)+y0.1.size)≤(9223372036854775807:Nat))then if ! ((ByteArray.toList y1.1)==(ByteArray.toList (bs [49])))then if decide (((1:Nat)+y1.1.size)≤(9223372036854775807:Nat))then if decide (((ByteArray.size ((bs [45])++y0.1))+(ByteArray.size ((bs [47])++y1.1)))≤(9223372036854775807:Nat))then if decide ((y0.1.size:Int)≤(200:Int))then some ((((bs [45])++y0.1)++((bs [47])++y1.1),decide ((y1.1.size:Int)≤(200:Int))),())else some ((((bs [45])++y0.1)++((bs [47])++y1.1),false),())else none else none else if decide ((y0.1.size:Int)≤(200:Int))then some (((bs [45])++y0.1,decide ((y1.1.size:Int)≤(200:Int))),())else some (((bs [45])++y0.1,false),())else none else if ! ((ByteArray.toList y1.1)==(ByteArray.toList (bs [49])))then if decide (((1:Nat)+y1.1.size)≤(9223372036854775807:Nat))then if decide ((y0.1.size+(ByteArray.size ((bs [47])++y1.1)))≤(9223372036854775807:Nat))then if decide ((y0.1.size:Int)≤(200:Int))then some ((y0.1++((bs [47])++y1.1),decide ((y1.1.size:Int)≤(200:Int))),())else some ((y0.1++((bs [47])++y1.1),false),())else none else none else if decide ((y0.1.size:Int)≤(200:Int))then some ((y0.1,decide ((y1.1.size:Int)≤(200:Int))),())else some ((y0.1,false),())
def S.i_rat_text (x:(RB×Unit)):(Option ((ByteArray×Bool)×Unit)):=if rok B32 40000000 x.1=true then some ((⟨(ratTx (rv B32 x.1)).toArray⟩,fitN (rv B32 x.1)),())else none
theorem S.i_rat_text_ok (x:(RB×Unit)) (r:_) (h:S.i_rat_text x=some r):∃k,P.i_rat_text k x=some r:=by
 obtain⟨⟨neg,as,bs'⟩,u⟩:=x
 unfold S.i_rat_text at h
 dsimp only at h
 split at h
 case isFalse=>cases h
 rename_i hc
 rw[rok_iff]at hc
 obtain⟨ca,cb,la,lb⟩:=hc
 dsimp only at ca cb la lb
 cases h
 refine⟨0,?_⟩
 unfold P.i_rat_text
 dsimp only
 have e1:∀xs,canon B32 xs=true→xs.length≤40000000→S.i_nat_text (xs,())=some (⟨(Go.Lib.decDigits (dval B32 xs)).toArray⟩,()):=by
  intro xs cx lx
  unfold S.i_nat_text
  exact if_pos ⟨cx,lx⟩
 rw[e1 as ca la,Option.bind_some,e1 bs' cb lb,Option.bind_some]
 dsimp only
 have l1:=canon_dec (show B32≤10^10 by decide) ca
 have l2:=canon_dec (show B32≤10^10 by decide) cb
 unfold rv ratTx fitN
 dsimp only
 have hd1:=dec_one (dval B32 bs')
 generalize Go.Lib.decDigits (dval B32 as)=t1 at*
 generalize Go.Lib.decDigits (dval B32 bs')=t2 at*
 rw[ByteArray.toList_eq,ByteArray.toList_eq,show bs [49]=⟨([49]:List UInt8).toArray⟩from rfl,show bs [45]=⟨([45]:List UInt8).toArray⟩from rfl,show bs [47]=⟨([47]:List UInt8).toArray⟩from rfl]
 rw[ba_app,ba_app,ba_app,ba_app,ba_sz,ba_sz,ba_sz,ba_sz]
 have c1:(1+t1.length≤9223372036854775807):=by omega
 have c2:(1+t2.length≤9223372036854775807):=by omega
 have c3:([45]++t1).length+([47]++t2).length≤9223372036854775807:=by simp;omega
 have c4:t1.length+([47]++t2).length≤9223372036854775807:=by simp;omega
 simp only[c1,c2,c3,c4,decide_true,if_true]
 have d1:∀t:List UInt8,decide (((t.length:Nat):Int)≤200)=decide (t.length≤200):=by
  intro t
  rw[decide_eq_decide]
  omega
 rw[d1,d1]
 have d2:((!(t2== [49]))=true)↔¬dval B32 bs'=1:=by
  rw[←hd1]
  simp
 by_cases hq:dval B32 bs'=1
 ·have n2:¬((!(t2== [49]))=true):=by rw[d2];exact fun q=>q hq
  cases neg<;>simp only[n2,hq,if_true,if_false,Bool.false_eq_true,List.append_nil,List.nil_append]<;>cases decide (t1.length≤200)<;>simp
 ·have n2:((!(t2== [49]))=true):=d2.2 hq
  cases neg<;>simp only[n2,hq,if_true,if_false,Bool.false_eq_true,List.nil_append]<;>cases decide (t1.length≤200)<;>simp
abbrev P.i_toldList_b0 (x1:Int×Int×List (Bool×List Int×List Int)×List ByteArray×Unit) (g2:Int×Int×List (Bool×List Int×List Int)×List ByteArray×Unit→Option ((List ByteArray×Bool)×Unit)):Option ((List ByteArray×Bool)×Unit):=
 if decide (x1.1<x1.2.1)then if decide ((0:Int)≤x1.1)then if decide (x1.1<(x1.2.2.1.length:Int))then(S.i_rat_text (((x1.2.2.1.getD x1.1.toNat (false,([]:List Int),([]:List Int))).1,(x1.2.2.1.getD x1.1.toNat (false,([]:List Int),([]:List Int))).2.1,(x1.2.2.1.getD x1.1.toNat (false,([]:List Int),([]:List Int))).2.2),())).bind fun y3=>if !y3.1.2 then some ((([]:List ByteArray),false),())else if decide (((x1.2.2.2.1.length+(List.length [y3.1.1]))*(16:Nat))≤(140737488355328:Nat))then g2 (IntKind.wrap .i64 (x1.1+(1:Int)),x1.2.1,x1.2.2.1,x1.2.2.2.1++[y3.1.1],())else none else none else none else some ((x1.2.2.2.1,true),())
def P.i_toldList (k:Nat) (x:List (Bool×List Int×List Int)×Unit):Option ((List ByteArray×Bool)×Unit):=
 loopP P.i_toldList_b0 k ((0:Int),(x.1.length:Int),x.1,([]:List ByteArray),())
def S.i_toldList (x:((List RB)×Unit)):(Option (((List ByteArray)×Bool)×Unit)):=if x.1.all (rok B32 40000000)=true∧x.1.length≤1000000 then some (giveL (x.1.map (rv B32)),())else none
theorem S.i_toldList_ok (x:((List RB)×Unit)) (r:_) (h:S.i_toldList x=some r):∃k,P.i_toldList k x=some r:=by
 obtain⟨xs,u⟩:=x
 unfold S.i_toldList at h
 dsimp only at h
 split at h
 case isFalse=>cases h
 rename_i hc
 cases h
 obtain⟨qs,rfl⟩:∃qs:List Q3,xs=qs.map (rp B32):=⟨xs.map (rv B32),by
  rw[List.map_map]
  have:∀ys:List (Bool×(List Int×List Int)),ys.all (rok B32 40000000)=true→ys.map (rp B32 ∘ rv B32)=ys:=by
   intro ys
   induction ys with
   |nil=>intro _;rfl
   |cons y ys ih=>
    intro hy
    rw[List.all_cons,Bool.and_eq_true]at hy
    rw[List.map_cons,ih hy.2]
    show rp B32 (rv B32 y)::ys=_
    rw[rp_rv hy.1]
  exact(this xs hc.1).symm⟩
 have hlen:=hc.2
 rw[List.length_map]at hlen
 refine⟨qs.length+1,?_⟩
 unfold P.i_toldList giveL
 dsimp only
 have key:=loop_up0 (k:=qs.length+1) (b:=P.i_toldList_b0) (n:=qs.length) (st:=fun i=>((i:Int),(qs.length:Int),qs.map (rp B32),(qs.take i).map (fun r:Q3=>(⟨(ratTx r).toArray⟩:ByteArray)),())) (F:=fun i=>some (if(qs.drop i).all fitN=true then(qs.map (fun r:Q3=>(⟨(ratTx r).toArray⟩:ByteArray)),true)else([],false),())) (fun i g hi hg'=>by
  unfold P.i_toldList_b0
  dsimp only at hg' ⊢
  have e1:(i:Int)<(qs.length:Int):=by omega
  have e2:(0:Int)≤(i:Int):=by omega
  have e3:(i:Int)<((qs.map (rp B32)).length:Int):=by rw[List.length_map];omega
  simp only[e1,e2,e3,decide_true,if_true]
  rw[getD_cast (qs.map (rp B32)) i _ (by rw[List.length_map];exact hi),List.getElem_map]
  have ht:S.i_rat_text (rp B32 qs[i],())=some ((⟨(ratTx qs[i]).toArray⟩,fitN qs[i]),()):=by
   unfold S.i_rat_text
   dsimp only
   rw[if_pos (by have:=List.all_eq_true.1 hc.1 _ (List.mem_map.2 ⟨qs[i],List.getElem_mem hi,rfl⟩);exact this),rv_rp B32_le]
  show Option.bind (S.i_rat_text (rp B32 qs[i],())) _=_
  rw[ht,Option.bind_some,List.drop_eq_getElem_cons hi,List.all_cons]
  dsimp only
  cases hf:fitN qs[i]
  ·rw[if_pos (by decide),Bool.false_and,if_neg (by decide)]
  ·skip
   skip
   have e4:(((qs.take i).map (fun r:Q3=>(⟨(ratTx r).toArray⟩:ByteArray))).length+1)*16≤140737488355328:=by
    rw[List.length_map,List.length_take]
    omega
   rw[if_neg (by simp),wr (by omega) (by omega),Bool.true_and,←hg']
   simp only[List.length_cons,List.length_nil,Nat.zero_add]
   rw[if_pos (decide_eq_true e4),List.take_add_one,List.getElem?_eq_getElem hi,Option.toList_some,List.map_append]
   rfl) (fun g=>by
  unfold P.i_toldList_b0
  dsimp only
  rw[if_neg (by simp),List.take_length,List.drop_length]
  rfl) (by omega)
 rw[map_rv B32_le,List.length_map]
 refine key.trans ?_
 rw[List.drop_zero]
 by_cases ha:qs.all fitN=true
 ·rw[if_pos ha,if_pos ha]
  congr 3
  refine List.map_congr_left fun r hr=> ?_
  unfold giveN
  rw[if_pos (List.all_eq_true.1 ha r hr)]
 ·rw[if_neg ha,if_neg ha]
def P.i_ToWeights (k:Nat) (x:List ByteArray×Unit):Option ((List ByteArray×Bool)×Unit):=
 (S.i_rats (x.1,())).bind fun y0=>if !y0.1.2 then some ((([]:List ByteArray),false),())else(S.slices_ContainsFunc__i_rat_i_rat (y0.1.1,(),())).bind fun y1=>if y1.1 then some ((([]:List ByteArray),false),())else(S.i_sum (y0.1.1,())).bind fun y2=>(S.i_rat_sign ((y2.1.1,y2.1.2.1,y2.1.2.2),())).bind fun y3=>if y3.1==(0:Int)then some ((([]:List ByteArray),false),())else(S.i_sum (y0.1.1,())).bind fun y4=>(S.i_scaled (y0.1.1,(y4.1.1,y4.1.2.1,y4.1.2.2),())).bind fun y5=>(S.i_toldList (y5.1,())).bind fun y6=>some ((y6.1.1,y6.1.2),())
def S.i_ToWeights (x:((List ByteArray)×Unit)):(Option (((List ByteArray)×Bool)×Unit)):=P.i_ToWeights 0 x
theorem S.i_ToWeights_ok (x:((List ByteArray)×Unit)) (r:_) (h:S.i_ToWeights x=some r):∃k,P.i_ToWeights k x=some r:=⟨0,h⟩
def P.s_l01Zero (k:Nat) (x:(Bool×List Int×List Int)×Unit):Option (Bool×Unit):=
 some ((x.1.2.1.length:Int)==(0:Int),())
def S.s_l01Zero (x:(RB×Unit)):(Option (Bool×Unit)):=P.s_l01Zero 0 x
theorem S.s_l01Zero_ok (x:(RB×Unit)) (r:_) (h:S.s_l01Zero x=some r):∃k,P.s_l01Zero k x=some r:=⟨0,h⟩
abbrev P.s_l01Cut_b0 (x1:Int×ByteArray×Int×List ByteArray×Int×Unit) (g2:Int×ByteArray×Int×List ByteArray×Int×Unit→Option (List ByteArray×Unit)):Option (List ByteArray×Unit):=
 if decide (x1.1≤(x1.2.1.size:Int))then if x1.1==(x1.2.1.size:Int)then if decide ((0:Int)≤x1.1)then if decide (x1.1≤(x1.2.1.size:Int))then if decide ((0:Int)≤x1.2.2.2.2.1)then if decide (x1.2.2.2.2.1≤x1.1)then if decide (((x1.2.2.2.1.length+(List.length [ByteArray.extract x1.2.1 x1.2.2.2.2.1.toNat x1.1.toNat]))*(16:Nat))≤(140737488355328:Nat))then g2 (IntKind.wrap .i64 (x1.1+(1:Int)),x1.2.1,x1.2.2.1,x1.2.2.2.1++[ByteArray.extract x1.2.1 x1.2.2.2.2.1.toNat x1.1.toNat],IntKind.wrap .i64 (x1.1+(1:Int)),())else none else none else none else none else none else if decide ((0:Int)≤x1.1)then if decide (x1.1<(x1.2.1.size:Int))then if(byteAt x1.2.1 x1.1)==x1.2.2.1 then if decide ((0:Int)≤x1.1)then if decide (x1.1≤(x1.2.1.size:Int))then if decide ((0:Int)≤x1.2.2.2.2.1)then if decide (x1.2.2.2.2.1≤x1.1)then if decide (((x1.2.2.2.1.length+(List.length [ByteArray.extract x1.2.1 x1.2.2.2.2.1.toNat x1.1.toNat]))*(16:Nat))≤(140737488355328:Nat))then g2 (IntKind.wrap .i64 (x1.1+(1:Int)),x1.2.1,x1.2.2.1,x1.2.2.2.1++[ByteArray.extract x1.2.1 x1.2.2.2.2.1.toNat x1.1.toNat],IntKind.wrap .i64 (x1.1+(1:Int)),())else none else none else none else none else none else g2 (IntKind.wrap .i64 (x1.1+(1:Int)),x1.2.1,x1.2.2.1,x1.2.2.2.1,x1.2.2.2.2.1,())else none else none else some (x1.2.2.2.1,())
def P.s_l01Cut (k:Nat) (x:ByteArray×Int×Unit):Option (List ByteArray×Unit):=
 loopP P.s_l01Cut_b0 k ((0:Int),x.1,x.2.1,([]:List ByteArray),(0:Int),())
def cutUp (s:ByteArray) (c:Int):Nat→List ByteArray×Nat
 |0=>([],0)
 |i+1=>if i=s.size∨byteAt s (i:Int)=c then((cutUp s c i).1++[s.extract (cutUp s c i).2 i],i+1)else cutUp s c i
theorem cutUp_le (s:ByteArray) (c:Int) (i:Nat):(cutUp s c i).1.length≤i∧(cutUp s c i).2≤i:=by
 induction i with
 |zero=>exact⟨Nat.le_refl _,Nat.le_refl _⟩
 |succ i ih=>
  unfold cutUp
  split
  ·refine⟨?_,Nat.le_refl _⟩
   simp
   omega
  ·omega
def S.s_l01Cut (x:(ByteArray×(Int×Unit))):(Option ((List ByteArray)×Unit)):=if x.1.size≤1000000 then some ((cutUp x.1 x.2.1 (x.1.size+1)).1,())else none
theorem S.s_l01Cut_ok (x:(ByteArray×(Int×Unit))) (r:_) (h:S.s_l01Cut x=some r):∃k,P.s_l01Cut k x=some r:=by
 obtain⟨s,c,u⟩:=x
 unfold S.s_l01Cut at h
 dsimp only at h
 split at h
 case isFalse=>cases h
 rename_i hs
 cases h
 refine⟨s.size+2,?_⟩
 unfold P.s_l01Cut
 dsimp only
 have key:=loop_up0 (k:=s.size+2) (b:=P.s_l01Cut_b0) (n:=s.size+1) (st:=fun i=>((i:Int),s,c,(cutUp s c i).1,((cutUp s c i).2:Int),())) (F:=fun i=>some ((cutUp s c (s.size+1)).1,())) (fun i g hi hg=>by
  unfold P.s_l01Cut_b0
  dsimp only at hg ⊢
  obtain⟨q1,q2⟩:=cutUp_le s c i
  have e1:(i:Int)≤(s.size:Int):=by omega
  have e2:(0:Int)≤(i:Int):=by omega
  have e3:(0:Int)≤((cutUp s c i).2:Int):=by omega
  have e4:((cutUp s c i).2:Int)≤(i:Int):=by omega
  have e5:((cutUp s c i).1.length+([s.extract (cutUp s c i).2 i]:List ByteArray).length)*16≤140737488355328:=by simp;omega
  rw[cutUp]at hg
  by_cases hq:i=s.size
  ·rw[if_pos (.inl hq)]at hg
   rw[←hg]
   have e6:((i:Int)==(s.size:Int))=true:=by simp [hq]
   simp only[e1,e2,e3,e4,e6,decide_true,if_true,Int.toNat_natCast]
   rw[if_pos (decide_eq_true e5),wr (by omega) (by omega)]
   rfl
  ·have e6:¬((i:Int)==(s.size:Int))=true:=by simp;omega
   have e7:(i:Int)<(s.size:Int):=by omega
   rw[if_pos (decide_eq_true e1),if_neg e6,if_pos (decide_eq_true e2),if_pos (decide_eq_true e7)]
   by_cases hb:byteAt s (i:Int)=c
   ·rw[if_pos (.inr hb)]at hg
    rw[←hg,if_pos (by simp [hb])]
    simp only[e1,e2,e3,e4,decide_true,if_true,Int.toNat_natCast]
    rw[if_pos (decide_eq_true e5),wr (by omega) (by omega)]
    rfl
   ·rw[if_neg (fun z=>z.elim hq hb)]at hg
    rw[←hg,if_neg (by simp [hb]),wr (by omega) (by omega)]
    rfl) (fun g=>by
  unfold P.s_l01Cut_b0
  dsimp only
  rw[if_neg (by simp;omega)]) (by omega)
 exact key
theorem cutUp_pieces (s:ByteArray) (c:UInt8):(cutUp s (c.toNat:Int) (s.size+1)).1.map (·.data.toList)=pieces c s.data.toList:=by
 have hsz:s.size=s.data.toList.length:=by rw[Array.length_toList];rfl
 have hex:∀a b,(s.extract a b).data.toList=(s.data.toList.take b).drop a:=by
  intro a b
  simp [ByteArray.data_extract,Array.toList_extract,List.extract_eq_take_drop,List.drop_take]
 have key:∀i,i≤s.size→pieces c s.data.toList=(cutUp s (c.toNat:Int) i).1.map (·.data.toList)++glue ((s.data.toList.take i).drop (cutUp s (c.toNat:Int) i).2) (pieces c (s.data.toList.drop i)):=by
  intro i
  induction i with
  |zero=>
   intro _
   simp [cutUp,glue_nil (pieces_ne c _)]
  |succ i ih=>
   intro hi
   rw[ih (by omega)]
   obtain⟨q1,q2⟩:=cutUp_le s (c.toNat:Int) i
   have hi':i<s.data.toList.length:=by omega
   have hb:byteAt s (i:Int)=(s.data.toList[i].toNat:Int):=by
    unfold byteAt
    rw[getD_cast _ i _ hi']
   rw[List.drop_eq_getElem_cons hi',cutUp,pieces]
   by_cases hc:s.data.toList[i]=c
   ·rw[if_pos hc,if_pos (.inr (by rw[hb,hc]))]
    simp only[List.map_append,List.map_cons,List.map_nil,hex,List.append_assoc]
    congr 1
    rw[show List.drop (i+1) (List.take (i+1) s.data.toList)=[]from List.drop_eq_nil_of_le (by simp;omega),glue_nil (pieces_ne c _)]
    simp [glue]
   ·rw[if_neg hc,if_neg (by
     rw[hb]
     rintro (h|h)
     ·omega
     ·exact hc (UInt8.toNat_inj.1 (by omega)))]
    rw[glue_glue,←List.take_append_getElem hi',List.drop_append_of_le_length (by simp;omega)]
 have h:=key s.size (Nat.le_refl _)
 rw[h,cutUp,if_pos (.inl rfl)]
 simp only[List.map_append,List.map_cons,List.map_nil,hex]
 congr 1
 rw[show List.drop s.size s.data.toList=[]from List.drop_eq_nil_of_le (by omega)]
 simp [pieces,glue]
abbrev P.s_l01Cmp_b0 (x1:Int×List Int×List Int×Unit) (g2:Int×List Int×List Int×Unit→Option (Int×Unit)):Option (Int×Unit):=
 if decide (x1.1≥(0:Int))then if decide ((0:Int)≤x1.1)then if decide (x1.1<(x1.2.1.length:Int))then if decide ((0:Int)≤x1.1)then if decide (x1.1<(x1.2.2.1.length:Int))then if(x1.2.1.getD x1.1.toNat (0:Int)) != (x1.2.2.1.getD x1.1.toNat (0:Int))then if decide ((0:Int)≤x1.1)then if decide (x1.1<(x1.2.1.length:Int))then if decide ((0:Int)≤x1.1)then if decide (x1.1<(x1.2.2.1.length:Int))then if decide ((x1.2.1.getD x1.1.toNat (0:Int))<(x1.2.2.1.getD x1.1.toNat (0:Int)))then some ((-1:Int),())else some ((1:Int),())else none else none else none else none else g2 (IntKind.wrap .i64 (x1.1 - (1:Int)),x1.2.1,x1.2.2.1,())else none else none else none else none else some ((0:Int),())
def P.s_l01Cmp (k:Nat) (x:List Int×List Int×Unit):Option (Int×Unit):=
 if(x.1.length:Int) != (x.2.1.length:Int)then if decide ((x.1.length:Int)<(x.2.1.length:Int))then some ((-1:Int),())else some ((1:Int),())else loopP P.s_l01Cmp_b0 k (IntKind.wrap .i64 ((x.1.length:Int) - (1:Int)),x.1,x.2.1,())
def S.s_l01Cmp (x:((List Int)×((List Int)×Unit))):(Option (Int×Unit)):=if canon B10 x.1=true∧canon B10 x.2.1=true∧x.1.length≤1000000000000 then some (cmpN (dval B10 x.1) (dval B10 x.2.1),())else none
theorem S.s_l01Cmp_ok (x:((List Int)×((List Int)×Unit))) (r:_) (h:S.s_l01Cmp x=some r):∃k,P.s_l01Cmp k x=some r:=by
 obtain⟨xs,ys,u⟩:=x
 unfold S.s_l01Cmp at h
 dsimp only at h
 split at h
 case isFalse=>cases h
 rename_i hc
 obtain⟨cx,cy,hl⟩:=hc
 cases h
 refine⟨xs.length+1,?_⟩
 unfold P.s_l01Cmp
 dsimp only
 by_cases hn:xs.length=ys.length
 ·rw[if_neg (by simp [hn]),wr (by omega) (by omega)]
  have key:=loop_up0 (k:=xs.length+1) (b:=P.s_l01Cmp_b0) (n:=xs.length) (st:=fun j=>((xs.length:Int) - 1 - (j:Int),xs,ys,())) (F:=fun j=>some (cmpN (dval B10 (xs.take (xs.length - j))) (dval B10 (ys.take (xs.length - j))),())) (fun j g hj hg=>by
   unfold P.s_l01Cmp_b0
   dsimp only at hg ⊢
   have e1:(xs.length:Int) - 1 - (j:Int)≥0:=by omega
   have e3:(0:Int)≤(xs.length:Int) - 1 - (j:Int):=by omega
   have e4:(xs.length:Int) - 1 - (j:Int)<(xs.length:Int):=by omega
   have e4':(xs.length:Int) - 1 - (j:Int)<(ys.length:Int):=by omega
   simp only[e1,e4,e4',decide_true,if_true]
   have hi:xs.length - (j+1)<xs.length:=by omega
   have hi':xs.length - (j+1)<ys.length:=by omega
   have e5:(xs.length:Int) - 1 - (j:Int)=((xs.length - (j+1):Nat):Int):=by omega
   have e6:xs.length - j=(xs.length - (j+1))+1:=by omega
   rw[e5,getD_cast xs _ _ hi,getD_cast ys _ _ hi',e6]
   generalize xs.length - (j+1)=i at*
   by_cases hq:xs[i]=ys[i]
   ·rw[if_neg (by simp [hq]),wr (by omega) (by omega)]
    have e7:((i:Nat):Int) - 1=(xs.length:Int) - 1 - ((j+1:Nat):Int):=by omega
    rw[e7,hg,←List.take_append_getElem hi,←List.take_append_getElem hi',dval_append,dval_append,hq]
    have hlx:(xs.take i).length=i:=by simp;omega
    have hly:(ys.take i).length=i:=by simp;omega
    rw[hlx,hly]
    unfold cmpN
    simp only[Nat.add_lt_add_iff_right]
   ·rw[if_pos (by simp [hq])]
    by_cases hlt:xs[i]<ys[i]
    ·have:=dval_top xs ys i hi hi' (canon_dig cx) (canon_dig cy) hlt
     rw[if_pos (decide_eq_true hlt),cmpN,if_pos this]
    ·have:=dval_top ys xs i hi' hi (canon_dig cy) (canon_dig cx) (by omega)
     rw[if_neg (by simpa using hlt),cmpN,if_neg (by omega),if_pos this]) (fun g=>by
   unfold P.s_l01Cmp_b0
   dsimp only
   rw[if_neg (by simp;omega),Nat.sub_self,List.take_zero,List.take_zero]
   rfl) (by omega)
  rw[show(xs.length:Int) - 1 - ((0:Nat):Int)=(xs.length:Int) - 1 by omega,Nat.sub_zero,List.take_length,List.take_of_length_le (by omega)]at key
  exact key
 ·rw[if_pos (by simp;omega)]
  by_cases hlt:xs.length<ys.length
  ·rw[if_pos (decide_eq_true (by omega)),cmpN,if_pos (canon_small B10_le cx cy hlt)]
  ·have:=canon_small B10_le cy cx (by omega)
   rw[if_neg (by simp;omega),cmpN,if_neg (by omega),if_pos this]
abbrev P.s_l01Trim_b0 (x1:List Int×Unit) (g2:List Int×Unit→Option (List Int×Unit)):Option (List Int×Unit):=
 if decide ((x1.1.length:Int)>(0:Int))then if decide ((0:Int)≤(IntKind.wrap .i64 ((x1.1.length:Int) - (1:Int))))then if decide ((IntKind.wrap .i64 ((x1.1.length:Int) - (1:Int)))<(x1.1.length:Int))then if(x1.1.getD (Int.toNat (IntKind.wrap .i64 ((x1.1.length:Int) - (1:Int)))) (0:Int))==(0:Int)then if decide ((0:Int)≤(IntKind.wrap .i64 ((x1.1.length:Int) - (1:Int))))then if decide ((IntKind.wrap .i64 ((x1.1.length:Int) - (1:Int)))≤(x1.1.length:Int))then if decide ((0:Int)≤(IntKind.wrap .i64 ((x1.1.length:Int) - (1:Int))))then g2 (seen x1.1 (0:Nat) ((Int.toNat (IntKind.wrap .i64 ((x1.1.length:Int) - (1:Int)))) - (0:Nat)),())else none else none else none else some (x1.1,())else none else none else some (x1.1,())
def P.s_l01Trim (k:Nat) (x:List Int×Unit):Option (List Int×Unit):=
 loopP P.s_l01Trim_b0 k (x.1,())
theorem trim_loopS (n:Nat):∀(xs:List Int) (k:Nat),xs.length=n→n<k→n≤1000000000000→dig B10 xs=true→loopP (X:=((List Int)×Unit)) (R:=((List Int)×Unit)) P.s_l01Trim_b0 k (xs,())=some (nd B10 (dval B10 xs),()):=by
 induction n with
 |zero=>
  intro xs k hx hk _ _
  have:xs=[]:=List.eq_nil_of_length_eq_zero hx
  subst this
  obtain⟨k,rfl⟩:∃j,k=j+1:=⟨k - 1,by omega⟩
  rw[loopP_succ]
  unfold P.s_l01Trim_b0
  rw[if_neg (by simp)]
  rw[show dval B10 []=0 from rfl,nd_zero B10_le]
 |succ n ih=>
  intro xs k hx hk hn hd
  obtain⟨k,rfl⟩:∃j,k=j+1:=⟨k - 1,by omega⟩
  rw[loopP_succ]
  unfold P.s_l01Trim_b0
  dsimp only
  have e0:IntKind.wrap .i64 ((xs.length:Int) - 1)=(n:Int):=by rw[wr (by omega) (by omega)];omega
  have e1:(xs.length:Int)>0:=by omega
  have e2:(0:Int)≤(n:Int):=by omega
  have e3:(n:Int)<(xs.length:Int):=by omega
  have e4:(n:Int)≤(xs.length:Int):=by omega
  rw[e0]
  simp only[e1,e2,e3,e4,decide_true,if_true]
  rw[getD_cast xs n _ (by omega)]
  have hs:=take_snoc xs n hx
  have hdt:dig B10 (xs.take n++[xs[n]])=true:=by rw[←hs];exact hd
  by_cases hz:xs[n]=0
  ·rw[if_pos (by simp [hz])]
   have e5:seen xs 0 ((n:Int).toNat - 0)=xs.take n:=by simp [seen]
   rw[e5]
   have hdt':=hdt
   rw[dig_append,Bool.and_eq_true]at hdt'
   rw[ih (xs.take n) k (by simp;omega) (by omega) (by omega) hdt'.1]
   have:dval B10 xs=dval B10 (xs.take n):=by
    conv=>lhs;rw[hs,hz]
    exact dval_snoc_zero _
   rw[this]
  ·rw[if_neg (by simp [hz])]
   have:=nd_snoc B10_le (xs.take n) xs[n] hdt hz
   rw[←hs]at this
   rw[this]
def S.s_l01Trim (x:((List Int)×Unit)):(Option ((List Int)×Unit)):=if dig B10 x.1=true∧x.1.length≤1000000000000 then some (nd B10 (dval B10 x.1),())else none
theorem S.s_l01Trim_ok (x:((List Int)×Unit)) (r:_) (h:S.s_l01Trim x=some r):∃k,P.s_l01Trim k x=some r:=by
 obtain⟨xs,u⟩:=x
 unfold S.s_l01Trim at h
 dsimp only at h
 split at h
 case isFalse=>cases h
 rename_i hc
 cases h
 exact⟨xs.length+1,trim_loopS xs.length xs _ rfl (by omega) hc.2 hc.1⟩
theorem trim_s (xs:List Int) (h:dig B10 xs=true) (hl:xs.length≤1000000000000):S.s_l01Trim (xs,())=some (nd B10 (dval B10 xs),()):=by
 unfold S.s_l01Trim
 dsimp only
 rw[if_pos ⟨h,hl⟩]
abbrev P.s_l01Nat_b0 (x1:Int×List Int×Unit) (g2:Int×List Int×Unit→Option (List Int×Unit)):Option (List Int×Unit):=
 if decide (x1.1>(0:Int))then if decide (((x1.2.1.length+(List.length [Int.tmod x1.1 (1000000000:Int)]))*(8:Nat))≤(140737488355328:Nat))then g2 (IntKind.wrap .i64 (Int.tdiv x1.1 (1000000000:Int)),x1.2.1++[Int.tmod x1.1 (1000000000:Int)],())else none else some (x1.2.1,())
def P.s_l01Nat (k:Nat) (x:Int×Unit):Option (List Int×Unit):=
 loopP P.s_l01Nat_b0 k (x.1,([]:List Int),())
def S.s_l01Nat (x:(Int×Unit)):(Option ((List Int)×Unit)):=if 0≤x.1∧x.1≤9223372036854775807 then some (nd B10 x.1.toNat,())else none
theorem l01Nat_loop (k:Nat):∀(n:Nat) (out:List Int),n<2^k→n≤9223372036854775807→out.length+k≤1000000→loopP (X:=(Int×((List Int)×Unit))) (R:=((List Int)×Unit)) P.s_l01Nat_b0 (k+1) ((n:Int),(out,()))=some (out++nd B10 n,()):=by
 induction k with
 |zero=>
  intro n out hn _ _
  have:n=0:=by omega
  subst this
  rw[loopP_succ]
  unfold P.s_l01Nat_b0
  rw[if_neg (by simp),nd_zero B10_le,List.append_nil]
 |succ k ih=>
  intro n out hn hm ho
  rw[loopP_succ]
  unfold P.s_l01Nat_b0
  dsimp only
  by_cases h:n=0
  ·subst h
   rw[if_neg (by simp),nd_zero B10_le,List.append_nil]
  ·have e1:(n:Int)>0:=by omega
   have e2:(out.length+(Int.tmod (n:Int) 1000000000::([]:List Int)).length)*8≤140737488355328:=by simp;omega
   rw[if_pos (decide_eq_true e1),if_pos (decide_eq_true e2)]
   have eT:Int.tdiv (n:Int) 1000000000=((n/1000000000:Nat):Int):=by rw[Int.tdiv_eq_ediv_of_nonneg (by omega)];omega
   have eM:Int.tmod (n:Int) 1000000000=((n%1000000000:Nat):Int):=by rw[Int.tmod_eq_emod_of_nonneg (by omega)];omega
   rw[eT,eM,wr (by omega) (by omega),ih (n/1000000000) _ (by rw[Nat.pow_succ]at hn;omega) (by omega) (by simp;omega),nd_pos B10_le h,List.append_assoc]
   rfl
theorem S.s_l01Nat_ok (x:(Int×Unit)) (r:_) (h:S.s_l01Nat x=some r):∃k,P.s_l01Nat k x=some r:=by
 obtain⟨n,u⟩:=x
 unfold S.s_l01Nat at h
 dsimp only at h
 split at h
 case isFalse=>cases h
 rename_i hc
 cases h
 refine⟨64,?_⟩
 unfold P.s_l01Nat
 dsimp only
 have:=l01Nat_loop 63 n.toNat [] (by have:(2:Nat)^63=9223372036854775808:=by decide
                                     omega) (by omega) (by simp)
 rw[show((n.toNat:Nat):Int)=n by omega]at this
 exact this
def P.s_l01Digit (k:Nat) (x:List Int×Int×Unit):Option (Int×Unit):=
 if decide (x.2.1<(x.1.length:Int))then if decide ((0:Int)≤x.2.1)then if decide (x.2.1<(x.1.length:Int))then some (x.1.getD x.2.1.toNat (0:Int),())else none else none else some ((0:Int),())
def S.s_l01Digit (x:((List Int)×(Int×Unit))):(Option (Int×Unit)):=P.s_l01Digit 0 x
theorem S.s_l01Digit_ok (x:((List Int)×(Int×Unit))) (r:_) (h:S.s_l01Digit x=some r):∃k,P.s_l01Digit k x=some r:=⟨0,h⟩
def P.s_l01Small (k:Nat) (x:List Int×Unit):Option ((Int×Bool)×Unit):=
 if decide ((x.1.length:Int)>(2:Int))then some (((0:Int),false),())else(S.s_l01Digit (x.1,(0:Int),())).bind fun y0=>(S.s_l01Digit (x.1,(1:Int),())).bind fun y1=>some ((IntKind.wrap .i64 (y0.1+(IntKind.wrap .i64 ((1000000000:Int)*y1.1))),true),())
theorem dig_s (xs:List Int) (i:Nat):S.s_l01Digit (xs,((i:Int),()))=some (xs.getD i 0,()):=by
 unfold S.s_l01Digit P.s_l01Digit
 dsimp only
 by_cases h:i<xs.length
 ·have e1:(i:Int)<(xs.length:Int):=by omega
  have e2:(0:Int)≤(i:Int):=by omega
  simp only[e1,e2,decide_true,if_true,Int.toNat_natCast]
 ·rw[if_neg (by simp;omega)]
  simp [List.getD,List.getElem?_eq_none (Nat.le_of_not_lt h)]
def S.s_l01Small (x:((List Int)×Unit)):(Option ((Int×Bool)×Unit)):=if dig B10 x.1=true∧x.1.length≤1000000000000 then some ((if x.1.length≤2 then((dval B10 x.1:Nat):Int)else 0,decide (x.1.length≤2)),())else none
theorem S.s_l01Small_ok (x:((List Int)×Unit)) (r:_) (h:S.s_l01Small x=some r):∃k,P.s_l01Small k x=some r:=by
 obtain⟨xs,u⟩:=x
 unfold S.s_l01Small at h
 dsimp only at h
 split at h
 case isFalse=>cases h
 rename_i hc
 obtain⟨hd,hl⟩:=hc
 cases h
 refine⟨0,?_⟩
 unfold P.s_l01Small
 dsimp only
 by_cases h2:xs.length≤2
 ·rw[if_neg (by simp;omega),if_pos h2,decide_eq_true h2]
  rw[show S.s_l01Digit (xs,((0:Int),()))=_ from dig_s xs 0,show S.s_l01Digit (xs,((1:Int),()))=_ from dig_s xs 1,Option.bind_some,Option.bind_some]
  dsimp only
  match xs,hd,h2 with
  | [],_,_=>rfl
  | [a],hd,_=>
   rw[dig_cons]at hd
   have h1:a<1000000000:=hd.1.2
   have h0:=hd.1.1
   show some ((IntKind.wrap .i64 (a+IntKind.wrap .i64 (1000000000*0)),true),())=_
   rw[wr (x:=(1000000000:Int)*0) (by omega) (by omega),wr (by omega) (by omega)]
   simp only[dval,Option.some.injEq,Prod.mk.injEq,and_true]
   omega
  | [a,b],hd,_=>
   rw[dig_cons,dig_cons]at hd
   have h1:a<1000000000:=hd.1.2
   have h0:=hd.1.1
   have h3:b<1000000000:=hd.2.1.2
   have h4:=hd.2.1.1
   show some ((IntKind.wrap .i64 (a+IntKind.wrap .i64 (1000000000*b)),true),())=_
   rw[wr (x:=(1000000000:Int)*b) (by omega) (by omega),wr (by omega) (by omega)]
   simp only[dval,Option.some.injEq,Prod.mk.injEq,and_true]
   show _=((a.toNat+1000000000*(b.toNat+1000000000*0):Nat):Int)
   omega
  |_::_::_::_,_,h2=>simp at h2
 ·rw[if_pos (decide_eq_true (by omega)),if_neg h2,decide_eq_false h2]
abbrev P.s_l01ShortMul_b0 (x1:Int×Int×List Int×Int×Int×List Int×Unit) (g2:Int×Int×List Int×Int×Int×List Int×Unit→Option (List Int×Unit)):Option (List Int×Unit):=
 if decide (x1.1<x1.2.1)then if decide ((0:Int)≤x1.1)then if decide (x1.1<(x1.2.2.1.length:Int))then if decide (((x1.2.2.2.2.2.1.length+(List.length [Int.tmod (IntKind.wrap .i64 ((IntKind.wrap .i64 ((x1.2.2.1.getD x1.1.toNat (0:Int))*x1.2.2.2.1))+x1.2.2.2.2.1)) (1000000000:Int)]))*(8:Nat))≤(140737488355328:Nat))then g2 (IntKind.wrap .i64 (x1.1+(1:Int)),x1.2.1,x1.2.2.1,x1.2.2.2.1,IntKind.wrap .i64 (Int.tdiv (IntKind.wrap .i64 ((IntKind.wrap .i64 ((x1.2.2.1.getD x1.1.toNat (0:Int))*x1.2.2.2.1))+x1.2.2.2.2.1)) (1000000000:Int)),x1.2.2.2.2.2.1++[Int.tmod (IntKind.wrap .i64 ((IntKind.wrap .i64 ((x1.2.2.1.getD x1.1.toNat (0:Int))*x1.2.2.2.1))+x1.2.2.2.2.1)) (1000000000:Int)],())else none else none else none else if decide (x1.2.2.2.2.1>(0:Int))then if decide (((x1.2.2.2.2.2.1.length+(List.length [x1.2.2.2.2.1]))*(8:Nat))≤(140737488355328:Nat))then some (x1.2.2.2.2.2.1++[x1.2.2.2.2.1],())else none else some (x1.2.2.2.2.2.1,())
def P.s_l01ShortMul (k:Nat) (x:List Int×Int×Unit):Option (List Int×Unit):=
 if decide ((0:Int)≤(IntKind.wrap .i64 ((x.1.length:Int)+(1:Int))))then if decide (((IntKind.wrap .i64 ((x.1.length:Int)+(1:Int)))*(8:Int))≤(281474976710656:Int))then loopP P.s_l01ShortMul_b0 k ((0:Int),(x.1.length:Int),x.1,x.2.1,(0:Int),seen (List.replicate (Int.toNat (IntKind.wrap .i64 ((x.1.length:Int)+(1:Int)))) (0:Int)) 0 (0:Nat),())else none else none
def S.s_l01ShortMul (x:((List Int)×(Int×Unit))):(Option ((List Int)×Unit)):=if canon B10 x.1=true∧0<x.2.1∧x.2.1≤1000000000∧x.1.length≤1000000000000 then some (nd B10 (dval B10 x.1*x.2.1.toNat),())else none
theorem S.s_l01ShortMul_ok (x:((List Int)×(Int×Unit))) (r:_) (h:S.s_l01ShortMul x=some r):∃k,P.s_l01ShortMul k x=some r:=by
 obtain⟨xs,b,u⟩:=x
 unfold S.s_l01ShortMul at h
 dsimp only at h
 split at h
 case isFalse=>cases h
 rename_i hc
 obtain⟨hcan,hb0,hb1,hl⟩:=hc
 have hd:=canon_dig hcan
 cases h
 obtain⟨d,rfl⟩:∃d:Nat,b=(d:Int):=⟨b.toNat,by omega⟩
 refine⟨xs.length+1,?_⟩
 unfold P.s_l01ShortMul
 dsimp only
 rw[wr (by omega) (by omega)]
 have a1:(0:Int)≤(xs.length:Int)+1:=by omega
 have a3:((xs.length:Int)+1)*8≤281474976710656:=by omega
 rw[if_pos (decide_eq_true a1),if_pos (decide_eq_true a3)]
 have e0:seen (List.replicate ((xs.length:Int)+1).toNat (0:Int)) 0 (0:Nat)=[]:=by simp [seen]
 rw[e0,Int.toNat_natCast]
 have key:=loop_up0 (k:=xs.length+1) (b:=P.s_l01ShortMul_b0) (n:=xs.length) (st:=fun i=>((i:Int),(xs.length:Int),xs,(d:Int),((mulUp B10 d xs i).2:Int),(mulUp B10 d xs i).1,())) (F:=fun i=>some (nd B10 (dval B10 xs*d),())) (fun i g hi hg=>by
  unfold P.s_l01ShortMul_b0
  dsimp only at hg ⊢
  obtain⟨q1,q2,q3,q4⟩:=mulUp_ok (d:=d) B10_le hd i (by omega)
  have e1:(i:Int)<(xs.length:Int):=by omega
  have e2:(0:Int)≤(i:Int):=by omega
  simp only[e1,e2,decide_true,if_true]
  have hgD:xs.getD i 0=xs[i]:=by simp [hi]
  have hx:=dig_get hd hi
  have hx1:xs[i]<1000000000:=hx.2
  have hx0:=hx.1
  rw[getD_cast xs i _ hi]
  rw[mulUp,hgD]at hg
  generalize hP:mulUp B10 d xs i=p at*
  obtain⟨z,hz⟩:∃z:Nat,xs[i]=(z:Int):=⟨xs[i].toNat,(Int.toNat_of_nonneg hx0).symm⟩
  rw[hz]at hx1 hg ⊢
  rw[Int.toNat_natCast]at hg
  have hzd:z*d≤999999999000000000:=Nat.mul_le_mul (show z≤999999999 by omega) (show d≤1000000000 by omega)
  have em:(z:Int)*(d:Int)=((z*d:Nat):Int):=(Int.natCast_mul _ _).symm
  rw[em,wr (x:=((z*d:Nat):Int)) (by omega) (by omega),wr (x:=((z*d:Nat):Int)+(p.2:Int)) (by omega) (by omega)]
  have eT:Int.tdiv (((z*d:Nat):Int)+(p.2:Int)) 1000000000=(((z*d+p.2)/B10:Nat):Int):=by
   rw[Int.tdiv_eq_ediv_of_nonneg (by omega)]
   show _=(((z*d+p.2)/1000000000:Nat):Int)
   omega
  have eM:Int.tmod (((z*d:Nat):Int)+(p.2:Int)) 1000000000=(((z*d+p.2)%B10:Nat):Int):=by
   rw[Int.tmod_eq_emod_of_nonneg (by omega)]
   show _=(((z*d+p.2)%1000000000:Nat):Int)
   omega
  have hq:(z*d+p.2)/B10≤9223372036854775807:=Nat.le_trans (Nat.div_le_self _ _) (by omega)
  have hcap:(p.1.length+([Int.tmod (((z*d:Nat):Int)+(p.2:Int)) 1000000000]:List Int).length)*8≤140737488355328:=by
   rw[q2];simp;omega
  rw[if_pos (decide_eq_true hcap),eT,eM,wr (x:=(((z*d+p.2)/B10:Nat):Int)) (Int.le_trans (by decide) (Int.natCast_nonneg _)) (Int.ofNat_le.2 hq),wr (by omega) (by omega)]
  exact hg) (fun g=>by
  unfold P.s_l01ShortMul_b0
  dsimp only
  obtain⟨q1,q2,q3,q4⟩:=mulUp_ok (d:=d) B10_le hd xs.length (Nat.le_refl _)
  rw[List.take_length]at q3
  generalize hP:mulUp B10 d xs xs.length=p at*
  rw[if_neg (by simp)]
  by_cases hz:p.2=0
  ·rw[if_neg (by simp [hz])]
   rw[hz,Nat.mul_zero,Nat.add_zero]at q3
   rw[←q3]
   rcases List.eq_nil_or_concat p.1 with e|_
   ·rw[e]
    show _=some (nd B10 0,())
    rw[nd_zero B10_le]
   ·by_cases hx:xs=[]
    ·subst hx
     have:p.1=[]:=List.eq_nil_of_length_eq_zero q2
     rw[this]
     show _=some (nd B10 0,())
     rw[nd_zero B10_le]
    ·have hpos:0<xs.length:=List.length_pos_iff.2 hx
     have hv:dval B10 xs≠0:=by
      intro q
      have:=canon_eq hcan
      rw[q,nd_zero B10_le]at this
      exact hx this.symm
     have hlow:=nd_low B10_le hv
     rw[canon_eq hcan]at hlow
     have hne:p.1≠ []:=by
      intro q
      rw[q]at q2
      simp at q2
      omega
     have hge:B10^(p.1.length - 1)≤dval B10 p.1:=by
      rw[q2,q3]
      exact Nat.le_trans hlow (Nat.le_mul_of_pos_right _ (by omega))
     rw[nd_full B10_le q1 hne hge]
  ·have e1:(p.2:Int)>0:=by omega
   have hcap:(p.1.length+([(p.2:Int)]:List Int).length)*8≤140737488355328:=by
    rw[q2];simp;omega
   rw[if_pos (decide_eq_true e1),if_pos (decide_eq_true hcap),←q3]
   have hlt:p.2<B10:=by
    have h1:=dval_lt hd
    have h2:B10^xs.length*p.2<B10^xs.length*d:=by
     have:dval B10 xs*d<B10^xs.length*d:=Nat.mul_lt_mul_of_pos_right h1 (by omega)
     omega
    have:=Nat.lt_of_mul_lt_mul_left h2
    show p.2<1000000000
    omega
   have hdd:dig B10 (p.1++[(p.2:Int)])=true:=by
    rw[dig_append,q1,Bool.true_and,dig_cons]
    exact⟨⟨Int.natCast_nonneg _,Int.ofNat_lt.2 hlt⟩,rfl⟩
   have:=nd_snoc B10_le p.1 (p.2:Int) hdd (by omega)
   rw[dval_append,q2]at this
   have e2:dval B10 [(p.2:Int)]=p.2:=by simp [dval]
   rw[e2]at this
   rw[this]) (by omega)
 exact key
abbrev P.s_l01ShortDiv_b0 (x1:Int×Int×List Int×List Int×Int×Unit) (g2:Int×Int×List Int×List Int×Int×Unit→Option ((List Int×Int)×Unit)):Option ((List Int×Int)×Unit):=
 if decide (x1.1≥(0:Int))then if decide ((0:Int)≤x1.1)then if decide (x1.1<(x1.2.2.1.length:Int))then if decide (x1.2.2.2.2.1=(0:Int))then none else if decide ((0:Int)≤x1.1)then if decide (x1.1<(x1.2.2.2.1.length:Int))then if decide (x1.2.2.2.2.1=(0:Int))then none else g2 (IntKind.wrap .i64 (x1.1 - (1:Int)),Int.tmod (IntKind.wrap .i64 ((IntKind.wrap .i64 (x1.2.1*(1000000000:Int)))+(x1.2.2.1.getD x1.1.toNat (0:Int)))) x1.2.2.2.2.1,x1.2.2.1,x1.2.2.2.1.set ((0:Nat)+x1.1.toNat) (IntKind.wrap .i64 (Int.tdiv (IntKind.wrap .i64 ((IntKind.wrap .i64 (x1.2.1*(1000000000:Int)))+(x1.2.2.1.getD x1.1.toNat (0:Int)))) x1.2.2.2.2.1)),x1.2.2.2.2.1,())else none else none else none else none else(S.s_l01Trim (x1.2.2.2.1,())).bind fun y3=>some ((y3.1,x1.2.1),())
def P.s_l01ShortDiv (k:Nat) (x:List Int×Int×Unit):Option ((List Int×Int)×Unit):=
 if decide ((0:Int)≤(x.1.length:Int))then if decide ((x.1.length:Int)≤(x.1.length:Int))then if decide (((x.1.length:Int)*(8:Int))≤(281474976710656:Int))then loopP P.s_l01ShortDiv_b0 k (IntKind.wrap .i64 ((x.1.length:Int) - (1:Int)),(0:Int),x.1,List.replicate (Int.toNat (x.1.length:Int)) (0:Int),x.2.1,())else none else none else none
def S.s_l01ShortDiv (x:((List Int)×(Int×Unit))):(Option (((List Int)×Int)×Unit)):=if dig B10 x.1=true∧0<x.2.1∧x.2.1<1000000001∧x.1.length≤1000000000000 then some ((nd B10 (dval B10 x.1/x.2.1.toNat),((dval B10 x.1%x.2.1.toNat:Nat):Int)),())else none
theorem S.s_l01ShortDiv_ok (x:((List Int)×(Int×Unit))) (r:_) (h:S.s_l01ShortDiv x=some r):∃k,P.s_l01ShortDiv k x=some r:=by
 obtain⟨xs,b,u⟩:=x
 unfold S.s_l01ShortDiv at h
 dsimp only at h
 split at h
 case isFalse=>cases h
 rename_i hc
 obtain⟨hd,hb0,hb1,hl⟩:=hc
 cases h
 refine⟨xs.length+1,?_⟩
 unfold P.s_l01ShortDiv
 dsimp only
 have a1:(0:Int)≤(xs.length:Int):=by omega
 have a2:(xs.length:Int)≤(xs.length:Int):=by omega
 have a3:(xs.length:Int)*8≤281474976710656:=by omega
 simp only[a1,a2,a3,decide_true,if_true]
 rw[wr (by omega) (by omega),Int.toNat_natCast]
 have hdr:∀m,dig B10 (xs.drop m)=true:=by
  intro m
  have:=List.take_append_drop m xs
  have hd':=hd
  rw[←this,dig_append,Bool.and_eq_true]at hd'
  exact hd'.2
 have hbN:0<b.toNat:=by omega
 have key:=loop_up0 (k:=xs.length+1) (b:=P.s_l01ShortDiv_b0) (n:=xs.length) (st:=fun j=>((xs.length:Int) - 1 - (j:Int),((qdiv B10 b.toNat (xs.drop (xs.length - j))).2:Int),xs,List.replicate (xs.length - j) (0:Int)++(qdiv B10 b.toNat (xs.drop (xs.length - j))).1,b,())) (F:=fun j=>some ((nd B10 (dval B10 xs/b.toNat),((dval B10 xs%b.toNat:Nat):Int)),())) (fun j g hj hg=>by
  unfold P.s_l01ShortDiv_b0
  dsimp only at hg ⊢
  obtain⟨q1,q2,q3,q4⟩:=qdiv_ok B10 b.toNat hbN (xs.drop (xs.length - j)) (hdr _)
  have hi:xs.length - (j+1)<xs.length:=by omega
  have e5:(xs.length:Int) - 1 - (j:Int)=((xs.length - (j+1):Nat):Int):=by omega
  have e6:xs.drop (xs.length - (j+1))=xs[xs.length - (j+1)]::xs.drop (xs.length - j):=by
   rw[List.drop_eq_getElem_cons hi]
   congr 2
   omega
  have e7:xs.length - j=(xs.length - (j+1))+1:=by omega
  have hlen:(List.replicate (xs.length - j) (0:Int)++(qdiv B10 b.toNat (xs.drop (xs.length - j))).1).length=xs.length:=by
   rw[List.length_append,List.length_replicate,q2,List.length_drop];omega
  have hx:=dig_get hd hi
  have hx1:xs[xs.length - (j+1)]<1000000000:=hx.2
  have hx0:=hx.1
  have hm:(qdiv B10 b.toNat (xs.drop (xs.length - j))).2<b.toNat:=by rw[q4];exact Nat.mod_lt _ hbN
  rw[e6]at hg
  rw[hlen,e5,getD_cast xs _ _ hi]
  have a1:((xs.length - (j+1):Nat):Int)≥0:=by omega
  have a2:(0:Int)≤((xs.length - (j+1):Nat):Int):=by omega
  have a3:((xs.length - (j+1):Nat):Int)<(xs.length:Int):=by omega
  have a4:¬(b=0):=by omega
  simp only[a1,a3,a4,decide_true,decide_false,if_true,if_false,Bool.false_eq_true]
  generalize hR:(qdiv B10 b.toNat (xs.drop (xs.length - j))).2=R at*
  generalize hX:xs[xs.length - (j+1)]=X at*
  have hRX:(R:Int)*1000000000+X<b*1000000000:=by omega
  rw[wr (x:=(R:Int)*1000000000) (by omega) (by omega),wr (x:=(R:Int)*1000000000+X) (by omega) (by omega)]
  have eT:Int.tdiv ((R:Int)*1000000000+X) b=(((R*B10+X.toNat)/b.toNat:Nat):Int):=by
   rw[Int.tdiv_eq_ediv_of_nonneg (by omega)]
   have:(R:Int)*1000000000+X=((R*1000000000+X.toNat:Nat):Int):=by omega
   rw[this]
   have hb:b=((b.toNat:Nat):Int):=by omega
   conv=>lhs;rw[hb]
   exact(Int.natCast_ediv _ _).symm
  have eM:Int.tmod ((R:Int)*1000000000+X) b=(((R*B10+X.toNat)%b.toNat:Nat):Int):=by
   rw[Int.tmod_eq_emod_of_nonneg (by omega)]
   have:(R:Int)*1000000000+X=((R*1000000000+X.toNat:Nat):Int):=by omega
   rw[this]
   have hb:b=((b.toNat:Nat):Int):=by omega
   conv=>lhs;rw[hb]
   exact(Int.natCast_emod _ _).symm
  have hQ:(R*B10+X.toNat)/b.toNat<B10:=(Nat.div_lt_iff_lt_mul hbN).2 (by
   show R*1000000000+X.toNat<1000000000*b.toNat
   omega)
  have hQ':(R*B10+X.toNat)/b.toNat<1000000000:=hQ
  have z0:(0:Int)≤(((R*B10+X.toNat)/b.toNat:Nat):Int):=Int.natCast_nonneg _
  have z1:(((R*B10+X.toNat)/b.toNat:Nat):Int)<1000000000:=Int.ofNat_lt.2 hQ'
  rw[eT,eM,wr (Int.le_trans (by decide) z0) (Int.le_of_lt (Int.lt_trans z1 (by decide))),wr (x:=((xs.length - (j+1):Nat):Int) - 1) (by omega) (by omega),Nat.zero_add,Int.toNat_natCast]
  have hset:∀(Q:List Int) (v:Int),(List.replicate (xs.length - j) (0:Int)++Q).set (xs.length - (j+1)) v=List.replicate (xs.length - (j+1)) 0++v::Q:=by
   intro Q v
   rw[e7]
   exact set_back _ _ _
  rw[hset,←hg]
  congr 1
  simp only[Prod.mk.injEq,qdiv]
  rw[hR]
  and_intros<;>first|rfl|omega|trivial) (fun g=>by
  unfold P.s_l01ShortDiv_b0
  dsimp only
  obtain⟨q1,q2,q3,q4⟩:=qdiv_ok B10 b.toNat hbN xs hd
  rw[if_neg (by simp;omega),Nat.sub_self,List.drop_zero,List.replicate_zero,List.nil_append,trim_s _ q1 (by omega),Option.bind_some,q3,q4]) (by omega)
 rw[show(xs.length:Int) - 1 - ((0:Nat):Int)=(xs.length:Int) - 1 by omega,Nat.sub_zero,List.drop_length]at key
 simpa [qdiv]using key
abbrev P.s_l01TakeOff_b0 (x1:Int×Int×List Int×List Int×Int×Int×Int×List Int×Unit) (g2:Int×Int×List Int×List Int×Int×Int×Int×List Int×Unit→Option (Bool×List Int×Unit)):Option (Bool×List Int×Unit):=
 if decide (x1.1<x1.2.1)then if decide ((0:Int)≤x1.1)then if decide (x1.1<(x1.2.2.1.length:Int))then if decide ((0:Int)≤(IntKind.wrap .i64 (x1.2.2.2.2.1+x1.1)))then if decide ((IntKind.wrap .i64 (x1.2.2.2.2.1+x1.1))<(x1.2.2.2.1.length:Int))then if decide ((IntKind.wrap .i64 ((IntKind.wrap .i64 ((x1.2.2.2.1.getD ((0:Nat)+(Int.toNat (IntKind.wrap .i64 (x1.2.2.2.2.1+x1.1)))) (0:Int)) - (Int.tmod (IntKind.wrap .i64 ((x1.2.2.1.getD x1.1.toNat (0:Int))*x1.2.2.2.2.2.1)) (1000000000:Int)))) - x1.2.2.2.2.2.2.1))<(0:Int))then if decide ((IntKind.wrap .i64 ((IntKind.wrap .i64 ((IntKind.wrap .i64 ((x1.2.2.2.1.getD ((0:Nat)+(Int.toNat (IntKind.wrap .i64 (x1.2.2.2.2.1+x1.1)))) (0:Int)) - (Int.tmod (IntKind.wrap .i64 ((x1.2.2.1.getD x1.1.toNat (0:Int))*x1.2.2.2.2.2.1)) (1000000000:Int)))) - x1.2.2.2.2.2.2.1))+(1000000000:Int)))<(0:Int))then if decide ((0:Int)≤(IntKind.wrap .i64 (x1.2.2.2.2.1+x1.1)))then if decide ((IntKind.wrap .i64 (x1.2.2.2.2.1+x1.1))<(x1.2.2.2.1.length:Int))then g2 (IntKind.wrap .i64 (x1.1+(1:Int)),x1.2.1,x1.2.2.1,x1.2.2.2.1.set ((0:Nat)+(Int.toNat (IntKind.wrap .i64 (x1.2.2.2.2.1+x1.1)))) (IntKind.wrap .i64 ((IntKind.wrap .i64 ((IntKind.wrap .i64 ((IntKind.wrap .i64 ((x1.2.2.2.1.getD ((0:Nat)+(Int.toNat (IntKind.wrap .i64 (x1.2.2.2.2.1+x1.1)))) (0:Int)) - (Int.tmod (IntKind.wrap .i64 ((x1.2.2.1.getD x1.1.toNat (0:Int))*x1.2.2.2.2.2.1)) (1000000000:Int)))) - x1.2.2.2.2.2.2.1))+(1000000000:Int)))+(1000000000:Int))),x1.2.2.2.2.1,x1.2.2.2.2.2.1,IntKind.wrap .i64 ((IntKind.wrap .i64 ((IntKind.wrap .i64 (Int.tdiv (IntKind.wrap .i64 ((x1.2.2.1.getD x1.1.toNat (0:Int))*x1.2.2.2.2.2.1)) (1000000000:Int)))+(1:Int)))+(1:Int)),x1.2.2.2.2.2.2.2.1,())else none else none else if decide ((0:Int)≤(IntKind.wrap .i64 (x1.2.2.2.2.1+x1.1)))then if decide ((IntKind.wrap .i64 (x1.2.2.2.2.1+x1.1))<(x1.2.2.2.1.length:Int))then g2 (IntKind.wrap .i64 (x1.1+(1:Int)),x1.2.1,x1.2.2.1,x1.2.2.2.1.set ((0:Nat)+(Int.toNat (IntKind.wrap .i64 (x1.2.2.2.2.1+x1.1)))) (IntKind.wrap .i64 ((IntKind.wrap .i64 ((IntKind.wrap .i64 ((x1.2.2.2.1.getD ((0:Nat)+(Int.toNat (IntKind.wrap .i64 (x1.2.2.2.2.1+x1.1)))) (0:Int)) - (Int.tmod (IntKind.wrap .i64 ((x1.2.2.1.getD x1.1.toNat (0:Int))*x1.2.2.2.2.2.1)) (1000000000:Int)))) - x1.2.2.2.2.2.2.1))+(1000000000:Int))),x1.2.2.2.2.1,x1.2.2.2.2.2.1,IntKind.wrap .i64 ((IntKind.wrap .i64 (Int.tdiv (IntKind.wrap .i64 ((x1.2.2.1.getD x1.1.toNat (0:Int))*x1.2.2.2.2.2.1)) (1000000000:Int)))+(1:Int)),x1.2.2.2.2.2.2.2.1,())else none else none else if decide ((0:Int)≤(IntKind.wrap .i64 (x1.2.2.2.2.1+x1.1)))then if decide ((IntKind.wrap .i64 (x1.2.2.2.2.1+x1.1))<(x1.2.2.2.1.length:Int))then g2 (IntKind.wrap .i64 (x1.1+(1:Int)),x1.2.1,x1.2.2.1,x1.2.2.2.1.set ((0:Nat)+(Int.toNat (IntKind.wrap .i64 (x1.2.2.2.2.1+x1.1)))) (IntKind.wrap .i64 ((IntKind.wrap .i64 ((x1.2.2.2.1.getD ((0:Nat)+(Int.toNat (IntKind.wrap .i64 (x1.2.2.2.2.1+x1.1)))) (0:Int)) - (Int.tmod (IntKind.wrap .i64 ((x1.2.2.1.getD x1.1.toNat (0:Int))*x1.2.2.2.2.2.1)) (1000000000:Int)))) - x1.2.2.2.2.2.2.1)),x1.2.2.2.2.1,x1.2.2.2.2.2.1,IntKind.wrap .i64 (Int.tdiv (IntKind.wrap .i64 ((x1.2.2.1.getD x1.1.toNat (0:Int))*x1.2.2.2.2.2.1)) (1000000000:Int)),x1.2.2.2.2.2.2.2.1,())else none else none else none else none else none else none else if decide ((0:Int)≤(IntKind.wrap .i64 (x1.2.2.2.2.1+(x1.2.2.2.2.2.2.2.1.length:Int))))then if decide ((IntKind.wrap .i64 (x1.2.2.2.2.1+(x1.2.2.2.2.2.2.2.1.length:Int)))<(x1.2.2.2.1.length:Int))then if decide ((0:Int)≤(IntKind.wrap .i64 (x1.2.2.2.2.1+(x1.2.2.2.2.2.2.2.1.length:Int))))then if decide ((IntKind.wrap .i64 (x1.2.2.2.2.1+(x1.2.2.2.2.2.2.2.1.length:Int)))<(x1.2.2.2.1.length:Int))then if decide ((0:Int)≤(IntKind.wrap .i64 (x1.2.2.2.2.1+(x1.2.2.2.2.2.2.2.1.length:Int))))then if decide ((IntKind.wrap .i64 (x1.2.2.2.2.1+(x1.2.2.2.2.2.2.2.1.length:Int)))<(List.length (x1.2.2.2.1.set ((0:Nat)+(Int.toNat (IntKind.wrap .i64 (x1.2.2.2.2.1+(x1.2.2.2.2.2.2.2.1.length:Int))))) (IntKind.wrap .i64 ((x1.2.2.2.1.getD ((0:Nat)+(Int.toNat (IntKind.wrap .i64 (x1.2.2.2.2.1+(x1.2.2.2.2.2.2.2.1.length:Int))))) (0:Int)) - x1.2.2.2.2.2.2.1))):Int))then some (decide ((List.getD (x1.2.2.2.1.set ((0:Nat)+(Int.toNat (IntKind.wrap .i64 (x1.2.2.2.2.1+(x1.2.2.2.2.2.2.2.1.length:Int))))) (IntKind.wrap .i64 ((x1.2.2.2.1.getD ((0:Nat)+(Int.toNat (IntKind.wrap .i64 (x1.2.2.2.2.1+(x1.2.2.2.2.2.2.2.1.length:Int))))) (0:Int)) - x1.2.2.2.2.2.2.1))) ((0:Nat)+(Int.toNat (IntKind.wrap .i64 (x1.2.2.2.2.1+(x1.2.2.2.2.2.2.2.1.length:Int))))) (0:Int))<(0:Int)),x1.2.2.2.1.set ((0:Nat)+(Int.toNat (IntKind.wrap .i64 (x1.2.2.2.2.1+(x1.2.2.2.2.2.2.2.1.length:Int))))) (IntKind.wrap .i64 ((x1.2.2.2.1.getD ((0:Nat)+(Int.toNat (IntKind.wrap .i64 (x1.2.2.2.2.1+(x1.2.2.2.2.2.2.2.1.length:Int))))) (0:Int)) - x1.2.2.2.2.2.2.1)),())else none else none else none else none else none else none
def P.s_l01TakeOff (k:Nat) (x:List Int×List Int×Int×Int×Unit):Option (Bool×List Int×Unit):=
 loopP P.s_l01TakeOff_b0 k ((0:Int),(x.2.1.length:Int),x.2.1,x.1,x.2.2.1,x.2.2.2.1,(0:Int),x.2.1,())
def S.s_l01TakeOff (x:((List Int)×((List Int)×(Int×(Int×Unit))))):(Option (Bool×((List Int)×Unit))):=
 if 0≤x.2.2.1∧x.2.2.1.toNat+x.2.1.length<x.1.length∧dig B10 ((x.1.drop x.2.2.1.toNat).take x.2.1.length)=true∧dig B10 x.2.1=true∧0≤x.1.getD (x.2.2.1.toNat+x.2.1.length) 0∧x.1.getD (x.2.2.1.toNat+x.2.1.length) 0≤1000000000∧0≤x.2.2.2.1∧x.2.2.2.1<1000000000∧x.1.length≤1000000000000 then
  let T:Int:=((dval B10 ((x.1.drop x.2.2.1.toNat).take x.2.1.length):Nat):Int)+((B10^x.2.1.length:Nat):Int)*x.1.getD (x.2.2.1.toNat+x.2.1.length) 0 - ((dval B10 x.2.1*x.2.2.2.1.toNat:Nat):Int)
  some (decide (T/((B10^x.2.1.length:Nat):Int)<0),(x.1.take x.2.2.1.toNat++fd B10 x.2.1.length (T%((B10^x.2.1.length:Nat):Int)).toNat)++(T/((B10^x.2.1.length:Nat):Int))::x.1.drop (x.2.2.1.toNat+x.2.1.length+1),())
 else none
theorem takeOff_main (us vs W:List Int) (j t:Nat) (hW:(us.drop j).take vs.length=W) (hl:j+vs.length<us.length) (hw:dig B10 W=true) (hv:dig B10 vs=true) (ht0:0≤us.getD (j+vs.length) 0) (ht1:us.getD (j+vs.length) 0≤1000000000) (hd1:(t:Int)<1000000000) (hbig:us.length≤1000000000000):
  P.s_l01TakeOff (vs.length+1) (us,(vs,((j:Int),((t:Int),()))))=some (decide (((((dval B10 W:Nat):Int)+((B10^vs.length:Nat):Int)*us.getD (j+vs.length) 0 - ((dval B10 vs*t:Nat):Int))/((B10^vs.length:Nat):Int))<0),(us.take j++fd B10 vs.length ((((dval B10 W:Nat):Int)+((B10^vs.length:Nat):Int)*us.getD (j+vs.length) 0 - ((dval B10 vs*t:Nat):Int))%((B10^vs.length:Nat):Int)).toNat)++((((dval B10 W:Nat):Int)+((B10^vs.length:Nat):Int)*us.getD (j+vs.length) 0 - ((dval B10 vs*t:Nat):Int))/((B10^vs.length:Nat):Int))::us.drop (j+vs.length+1),()):=by
 have hWg:∀i,i<vs.length→W.getD i 0=us.getD (j+i) 0:=by
  intro i hi
  rw[←hW,win_getD hi]
 have hWl:W.length=vs.length:=by rw[←hW];simp;omega
 have htB:t<B10:=by show t<1000000000;omega
 unfold P.s_l01TakeOff
 dsimp only
 have key:=loop_up0 (k:=vs.length+1) (b:=P.s_l01TakeOff_b0) (n:=vs.length) (st:=fun i=>((i:Int),(vs.length:Int),vs,(us.take j++(offUp B10 t W vs i).1)++us.drop (j+i),(j:Int),(t:Int),((offUp B10 t W vs i).2:Int),vs,())) (F:=fun i=>some (decide (((((dval B10 W:Nat):Int)+((B10^vs.length:Nat):Int)*us.getD (j+vs.length) 0 - ((dval B10 vs*t:Nat):Int))/((B10^vs.length:Nat):Int))<0),(us.take j++fd B10 vs.length ((((dval B10 W:Nat):Int)+((B10^vs.length:Nat):Int)*us.getD (j+vs.length) 0 - ((dval B10 vs*t:Nat):Int))%((B10^vs.length:Nat):Int)).toNat)++((((dval B10 W:Nat):Int)+((B10^vs.length:Nat):Int)*us.getD (j+vs.length) 0 - ((dval B10 vs*t:Nat):Int))/((B10^vs.length:Nat):Int))::us.drop (j+vs.length+1),())) (fun i g hi hg=>by
  unfold P.s_l01TakeOff_b0
  dsimp only at hg ⊢
  refine Eq.trans ?_ hg
  clear hg
  obtain⟨q1,q2,q3,q4⟩:=offUp_ok (t:=t) B10_le htB hw hv i
  have gx:=dig_getD (B:=B10) (by decide) hw i
  have gy:=dig_getD (B:=B10) (by decide) hv i
  have gx1:W.getD i 0<1000000000:=gx.2
  have gy1:vs.getD i 0<1000000000:=gy.2
  have gx0:=gx.1
  have gy0:=gy.1
  have hAl:(us.take j++(offUp B10 t W vs i).1).length=j+i:=by rw[List.length_append,q2,List.length_take];omega
  have hlen:((us.take j++(offUp B10 t W vs i).1)++us.drop (j+i)).length=us.length:=by rw[List.length_append,hAl,List.length_drop];omega
  have e1:(i:Int)<(vs.length:Int):=by omega
  have e2:(0:Int)≤(i:Int):=by omega
  have e3:(0:Int)≤((j+i:Nat):Int):=by omega
  have e4:((j+i:Nat):Int)<(us.length:Int):=by omega
  rw[hlen,←Int.natCast_add,wr (x:=((j+i:Nat):Int)) (by omega) (by omega)]
  simp only[e1,e2,e3,e4,decide_true,if_true,Nat.zero_add,Int.toNat_natCast]
  rw[drop_cons_getD (xs:=us) (i:=j+i) (by omega),mid_get hAl]
  simp only[mid_set hAl]
  rw[←hWg i hi,offUp]
  dsimp only
  generalize W.getD i 0=x at*
  generalize vs.getD i 0=y at*
  generalize offUp B10 t W vs i=p at*
  obtain⟨pl,c0⟩:=p
  dsimp only at*
  obtain⟨Y,rfl⟩:∃Y:Nat,y=(Y:Int):=⟨y.toNat,by omega⟩
  rw[Int.toNat_natCast]
  have hYt:Y*t≤999999999*999999999:=Nat.mul_le_mul (by omega) (by omega)
  rw[←Int.natCast_mul,wr (x:=((Y*t:Nat):Int)) (by omega) (by omega),Int.tmod_eq_emod_of_nonneg (by omega),Int.tdiv_eq_ediv_of_nonneg (by omega)]
  generalize Y*t=m at*
  have e8:((m:Nat):Int)%1000000000=((m%B10:Nat):Int):=by
   show _=((m%1000000000:Nat):Int)
   omega
  have e9:((m:Nat):Int)/1000000000=((m/B10:Nat):Int):=by
   show _=((m/1000000000:Nat):Int)
   omega
  rw[e8,e9]
  have b1:m%B10<1000000000:=Nat.mod_lt _ (by decide)
  have b2:m/B10≤1000000000:=by
   show m/1000000000≤1000000000
   omega
  generalize m%B10=lo at*
  generalize m/B10=hi' at*
  rw[wr (x:=x - (lo:Int)) (by omega) (by omega),wr (x:=x - (lo:Int) - (c0:Int)) (by omega) (by omega),wr (x:=x - (lo:Int) - (c0:Int)+1000000000) (by omega) (by omega),wr (x:=x - (lo:Int) - (c0:Int)+1000000000+1000000000) (by omega) (by omega),wr (x:=(hi':Int)) (by omega) (by omega),wr (x:=(hi':Int)+1) (by omega) (by omega),wr (x:=(hi':Int)+1+1) (by omega) (by omega),wr (x:=(i:Int)+1) (by omega) (by omega)]
  have eB:((B10:Nat):Int)=1000000000:=rfl
  rw[eB,←Nat.add_assoc j i 1,←List.append_assoc (us.take j)]
  by_cases hn:x - (lo:Int) - (c0:Int)<0
  ·rw[if_pos (decide_eq_true hn),if_pos hn]
   by_cases hn2:x - (lo:Int) - (c0:Int)+1000000000<0
   ·rw[if_pos (decide_eq_true hn2),if_pos hn2,show x - (lo:Int) - (c0:Int)+1000000000+1000000000=(x - (lo:Int) - (c0:Int))%1000000000 by omega]
    rfl
   ·rw[if_neg (by simpa using hn2),if_neg hn2,show x - (lo:Int) - (c0:Int)+1000000000=(x - (lo:Int) - (c0:Int))%1000000000 by omega]
    rfl
  ·rw[if_neg (by simpa using hn),if_neg hn]
   have e11:(x - (lo:Int) - (c0:Int))%1000000000=x - (lo:Int) - (c0:Int):=by omega
   rw[e11]
   rfl) (fun g=>by
  unfold P.s_l01TakeOff_b0
  dsimp only
  obtain⟨q1,q2,q3,q4⟩:=offUp_ok (t:=t) B10_le htB hw hv vs.length
  rw[List.take_length,←hWl,List.take_length,hWl]at q3
  have hAl:(us.take j++(offUp B10 t W vs vs.length).1).length=j+vs.length:=by rw[List.length_append,q2,List.length_take];omega
  have hlen:((us.take j++(offUp B10 t W vs vs.length).1)++us.drop (j+vs.length)).length=us.length:=by rw[List.length_append,hAl,List.length_drop];omega
  have e3:(0:Int)≤((j+vs.length:Nat):Int):=by omega
  have e4:((j+vs.length:Nat):Int)<(us.length:Int):=by omega
  have e5:¬((vs.length:Int)<(vs.length:Int)):=by omega
  rw[←Int.natCast_add,wr (x:=((j+vs.length:Nat):Int)) (by omega) (by omega)]
  simp only[e3,e4,e5,decide_true,decide_false,if_true,Nat.zero_add,Int.toNat_natCast,List.length_set,hlen,Bool.false_eq_true,if_false]
  rw[drop_cons_getD (xs:=us) (i:=j+vs.length) (by omega),mid_get hAl,mid_set hAl,List.append_assoc _ [_],List.singleton_append,mid_get hAl]
  generalize offUp B10 t W vs vs.length=p at*
  obtain⟨pl,c0⟩:=p
  dsimp only at*
  generalize us.getD (j+vs.length) 0=top at*
  rw[wr (x:=top - (c0:Int)) (by omega) (by omega)]
  have hlt:=dval_lt q1
  rw[q2]at hlt
  have eT:((dval B10 W:Nat):Int)+((B10^vs.length:Nat):Int)*top - ((dval B10 vs*t:Nat):Int)=((dval B10 pl:Nat):Int)+((B10^vs.length:Nat):Int)*(top - (c0:Int)):=by
   rw[Int.mul_sub,←Int.natCast_mul]
   omega
  rw[eT,(ediv_top hlt _).1,(ediv_top hlt _).2,Int.toNat_natCast,←fd_eq B10_le q1 q2 rfl]) (by omega)
 have e0:(us.take j++(offUp B10 t W vs 0).1)++us.drop (j+0)=us:=by
  show(us.take j++[])++us.drop j=us
  rw[List.append_nil,List.take_append_drop]
 rw[e0]at key
 exact key
theorem S.s_l01TakeOff_ok (x:((List Int)×((List Int)×(Int×(Int×Unit))))) (r:_) (h:S.s_l01TakeOff x=some r):∃k,P.s_l01TakeOff k x=some r:=by
 obtain⟨us,vs,j',d',u⟩:=x
 unfold S.s_l01TakeOff at h
 dsimp only at h
 split at h
 case isFalse=>cases h
 rename_i hc
 obtain⟨hj0,hl,hw,hv,ht0,ht1,hd0,hd1,hbig⟩:=hc
 obtain⟨j,rfl⟩:∃d:Nat,j'=(d:Int):=⟨j'.toNat,by omega⟩
 obtain⟨t,rfl⟩:∃d:Nat,d'=(d:Int):=⟨d'.toNat,by omega⟩
 refine⟨vs.length+1,?_⟩
 rw[←h]
 exact takeOff_main us vs _ j t rfl hl hw hv ht0 ht1 hd1 hbig
abbrev P.s_l01PutBack_b0 (x1:Int×Int×List Int×List Int×Int×Int×List Int×Unit) (g2:Int×Int×List Int×List Int×Int×Int×List Int×Unit→Option (Unit×List Int×Unit)):Option (Unit×List Int×Unit):=
 if decide (x1.1<x1.2.1)then if decide ((0:Int)≤x1.1)then if decide (x1.1<(x1.2.2.1.length:Int))then if decide ((0:Int)≤(IntKind.wrap .i64 (x1.2.2.2.2.1+x1.1)))then if decide ((IntKind.wrap .i64 (x1.2.2.2.2.1+x1.1))<(x1.2.2.2.1.length:Int))then if decide ((0:Int)≤(IntKind.wrap .i64 (x1.2.2.2.2.1+x1.1)))then if decide ((IntKind.wrap .i64 (x1.2.2.2.2.1+x1.1))<(x1.2.2.2.1.length:Int))then g2 (IntKind.wrap .i64 (x1.1+(1:Int)),x1.2.1,x1.2.2.1,x1.2.2.2.1.set ((0:Nat)+(Int.toNat (IntKind.wrap .i64 (x1.2.2.2.2.1+x1.1)))) (Int.tmod (IntKind.wrap .i64 ((IntKind.wrap .i64 ((x1.2.2.2.1.getD ((0:Nat)+(Int.toNat (IntKind.wrap .i64 (x1.2.2.2.2.1+x1.1)))) (0:Int))+(x1.2.2.1.getD x1.1.toNat (0:Int))))+x1.2.2.2.2.2.1)) (1000000000:Int)),x1.2.2.2.2.1,IntKind.wrap .i64 (Int.tdiv (IntKind.wrap .i64 ((IntKind.wrap .i64 ((x1.2.2.2.1.getD ((0:Nat)+(Int.toNat (IntKind.wrap .i64 (x1.2.2.2.2.1+x1.1)))) (0:Int))+(x1.2.2.1.getD x1.1.toNat (0:Int))))+x1.2.2.2.2.2.1)) (1000000000:Int)),x1.2.2.2.2.2.2.1,())else none else none else none else none else none else none else if decide ((0:Int)≤(IntKind.wrap .i64 (x1.2.2.2.2.1+(x1.2.2.2.2.2.2.1.length:Int))))then if decide ((IntKind.wrap .i64 (x1.2.2.2.2.1+(x1.2.2.2.2.2.2.1.length:Int)))<(x1.2.2.2.1.length:Int))then if decide ((0:Int)≤(IntKind.wrap .i64 (x1.2.2.2.2.1+(x1.2.2.2.2.2.2.1.length:Int))))then if decide ((IntKind.wrap .i64 (x1.2.2.2.2.1+(x1.2.2.2.2.2.2.1.length:Int)))<(x1.2.2.2.1.length:Int))then some ((),x1.2.2.2.1.set ((0:Nat)+(Int.toNat (IntKind.wrap .i64 (x1.2.2.2.2.1+(x1.2.2.2.2.2.2.1.length:Int))))) (IntKind.wrap .i64 ((x1.2.2.2.1.getD ((0:Nat)+(Int.toNat (IntKind.wrap .i64 (x1.2.2.2.2.1+(x1.2.2.2.2.2.2.1.length:Int))))) (0:Int))+x1.2.2.2.2.2.1)),())else none else none else none else none
def P.s_l01PutBack (k:Nat) (x:List Int×List Int×Int×Unit):Option (Unit×List Int×Unit):=
 loopP P.s_l01PutBack_b0 k ((0:Int),(x.2.1.length:Int),x.2.1,x.1,x.2.2.1,(0:Int),x.2.1,())
def S.s_l01PutBack (x:((List Int)×((List Int)×(Int×Unit)))):(Option (Unit×((List Int)×Unit))):=
 if 0≤x.2.2.1∧x.2.2.1.toNat+x.2.1.length<x.1.length∧dig B10 ((x.1.drop x.2.2.1.toNat).take x.2.1.length)=true∧dig B10 x.2.1=true∧ -1000000000≤x.1.getD (x.2.2.1.toNat+x.2.1.length) 0∧x.1.getD (x.2.2.1.toNat+x.2.1.length) 0≤1000000000∧x.1.length≤1000000000000 then
  let T:Int:=((dval B10 ((x.1.drop x.2.2.1.toNat).take x.2.1.length):Nat):Int)+((B10^x.2.1.length:Nat):Int)*x.1.getD (x.2.2.1.toNat+x.2.1.length) 0+((dval B10 x.2.1:Nat):Int)
  some ((),(x.1.take x.2.2.1.toNat++fd B10 x.2.1.length (T%((B10^x.2.1.length:Nat):Int)).toNat)++(T/((B10^x.2.1.length:Nat):Int))::x.1.drop (x.2.2.1.toNat+x.2.1.length+1),())
 else none
theorem putBack_main (us vs W:List Int) (j:Nat) (hW:(us.drop j).take vs.length=W) (hl:j+vs.length<us.length) (hw:dig B10 W=true) (hv:dig B10 vs=true) (ht0: -1000000000≤us.getD (j+vs.length) 0) (ht1:us.getD (j+vs.length) 0≤1000000000) (hbig:us.length≤1000000000000):
  P.s_l01PutBack (vs.length+1) (us,(vs,((j:Int),())))=some ((),(us.take j++fd B10 vs.length ((((dval B10 W:Nat):Int)+((B10^vs.length:Nat):Int)*us.getD (j+vs.length) 0+((dval B10 vs:Nat):Int))%((B10^vs.length:Nat):Int)).toNat)++((((dval B10 W:Nat):Int)+((B10^vs.length:Nat):Int)*us.getD (j+vs.length) 0+((dval B10 vs:Nat):Int))/((B10^vs.length:Nat):Int))::us.drop (j+vs.length+1),()):=by
 have hWg:∀i,i<vs.length→W.getD i 0=us.getD (j+i) 0:=by
  intro i hi
  rw[←hW,win_getD hi]
 have hWl:W.length=vs.length:=by rw[←hW];simp;omega
 unfold P.s_l01PutBack
 dsimp only
 have key:=loop_up0 (k:=vs.length+1) (b:=P.s_l01PutBack_b0) (n:=vs.length) (st:=fun i=>((i:Int),(vs.length:Int),vs,(us.take j++(addUp B10 W vs i).1)++us.drop (j+i),(j:Int),((addUp B10 W vs i).2:Int),vs,())) (F:=fun i=>some ((),(us.take j++fd B10 vs.length ((((dval B10 W:Nat):Int)+((B10^vs.length:Nat):Int)*us.getD (j+vs.length) 0+((dval B10 vs:Nat):Int))%((B10^vs.length:Nat):Int)).toNat)++((((dval B10 W:Nat):Int)+((B10^vs.length:Nat):Int)*us.getD (j+vs.length) 0+((dval B10 vs:Nat):Int))/((B10^vs.length:Nat):Int))::us.drop (j+vs.length+1),())) (fun i g hi hg=>by
  unfold P.s_l01PutBack_b0
  dsimp only at hg ⊢
  refine Eq.trans ?_ hg
  clear hg
  obtain⟨q1,q2,q3,q4⟩:=addUp_ok B10_le hw hv i
  have gx:=dig_getD (B:=B10) (by decide) hw i
  have gy:=dig_getD (B:=B10) (by decide) hv i
  have gx1:W.getD i 0<1000000000:=gx.2
  have gy1:vs.getD i 0<1000000000:=gy.2
  have gx0:=gx.1
  have gy0:=gy.1
  have hAl:(us.take j++(addUp B10 W vs i).1).length=j+i:=by rw[List.length_append,q2,List.length_take];omega
  have hlen:((us.take j++(addUp B10 W vs i).1)++us.drop (j+i)).length=us.length:=by rw[List.length_append,hAl,List.length_drop];omega
  have e1:(i:Int)<(vs.length:Int):=by omega
  have e2:(0:Int)≤(i:Int):=by omega
  have e3:(0:Int)≤((j+i:Nat):Int):=by omega
  have e4:((j+i:Nat):Int)<(us.length:Int):=by omega
  rw[hlen,←Int.natCast_add,wr (x:=((j+i:Nat):Int)) (by omega) (by omega)]
  simp only[e1,e2,e3,e4,decide_true,if_true,Nat.zero_add,Int.toNat_natCast]
  rw[drop_cons_getD (xs:=us) (i:=j+i) (by omega),mid_get hAl]
  simp only[mid_set hAl]
  rw[←hWg i hi,addUp]
  dsimp only
  generalize W.getD i 0=x at*
  generalize vs.getD i 0=y at*
  generalize addUp B10 W vs i=p at*
  obtain⟨pl,c0⟩:=p
  dsimp only at*
  obtain⟨X,rfl⟩:∃Y:Nat,x=(Y:Int):=⟨x.toNat,by omega⟩
  obtain⟨Y,rfl⟩:∃Y:Nat,y=(Y:Int):=⟨y.toNat,by omega⟩
  rw[Int.toNat_natCast,Int.toNat_natCast]
  rw[wr (x:=(X:Int)+(Y:Int)) (by omega) (by omega),wr (x:=(X:Int)+(Y:Int)+(c0:Int)) (by omega) (by omega),Int.tmod_eq_emod_of_nonneg (by omega),Int.tdiv_eq_ediv_of_nonneg (by omega)]
  have e8:((X:Int)+(Y:Int)+(c0:Int))%1000000000=(((c0+X+Y)%B10:Nat):Int):=by
   show _=(((c0+X+Y)%1000000000:Nat):Int)
   omega
  have e9:((X:Int)+(Y:Int)+(c0:Int))/1000000000=(((c0+X+Y)/B10:Nat):Int):=by
   show _=(((c0+X+Y)/1000000000:Nat):Int)
   omega
  have b2:(c0+X+Y)/B10≤1000000000:=by
   show(c0+X+Y)/1000000000≤1000000000
   omega
  rw[e8,e9,wr (x:=(((c0+X+Y)/B10:Nat):Int)) (by omega) (by omega),wr (x:=(i:Int)+1) (by omega) (by omega),←Nat.add_assoc j i 1,←List.append_assoc (us.take j)]
  rfl) (fun g=>by
  unfold P.s_l01PutBack_b0
  dsimp only
  obtain⟨q1,q2,q3,q4⟩:=addUp_ok B10_le hw hv vs.length
  rw[List.take_length,←hWl,List.take_length,hWl]at q3
  have hAl:(us.take j++(addUp B10 W vs vs.length).1).length=j+vs.length:=by rw[List.length_append,q2,List.length_take];omega
  have hlen:((us.take j++(addUp B10 W vs vs.length).1)++us.drop (j+vs.length)).length=us.length:=by rw[List.length_append,hAl,List.length_drop];omega
  have e3:(0:Int)≤((j+vs.length:Nat):Int):=by omega
  have e4:((j+vs.length:Nat):Int)<(us.length:Int):=by omega
  have e5:¬((vs.length:Int)<(vs.length:Int)):=by omega
  rw[←Int.natCast_add,wr (x:=((j+vs.length:Nat):Int)) (by omega) (by omega)]
  simp only[e3,e4,e5,decide_true,decide_false,if_true,Nat.zero_add,Int.toNat_natCast,hlen,Bool.false_eq_true,if_false]
  rw[drop_cons_getD (xs:=us) (i:=j+vs.length) (by omega),mid_get hAl,mid_set hAl,List.append_assoc _ [_],List.singleton_append]
  generalize addUp B10 W vs vs.length=p at*
  obtain⟨pl,c0⟩:=p
  dsimp only at*
  generalize us.getD (j+vs.length) 0=top at*
  rw[wr (x:=top+(c0:Int)) (by omega) (by omega)]
  have hlt:=dval_lt q1
  rw[q2]at hlt
  have eT:((dval B10 W:Nat):Int)+((B10^vs.length:Nat):Int)*top+((dval B10 vs:Nat):Int)=((dval B10 pl:Nat):Int)+((B10^vs.length:Nat):Int)*(top+(c0:Int)):=by
   rw[Int.mul_add,←Int.natCast_mul]
   omega
  rw[eT,(ediv_top hlt _).1,(ediv_top hlt _).2,Int.toNat_natCast,←fd_eq B10_le q1 q2 rfl]) (by omega)
 have e0:(us.take j++(addUp B10 W vs 0).1)++us.drop (j+0)=us:=by
  show(us.take j++[])++us.drop j=us
  rw[List.append_nil,List.take_append_drop]
 rw[e0]at key
 exact key
theorem S.s_l01PutBack_ok (x:((List Int)×((List Int)×(Int×Unit)))) (r:_) (h:S.s_l01PutBack x=some r):∃k,P.s_l01PutBack k x=some r:=by
 obtain⟨us,vs,j',u⟩:=x
 unfold S.s_l01PutBack at h
 dsimp only at h
 split at h
 case isFalse=>cases h
 rename_i hc
 obtain⟨hj0,hl,hw,hv,ht0,ht1,hbig⟩:=hc
 obtain⟨j,rfl⟩:∃d:Nat,j'=(d:Int):=⟨j'.toNat,by omega⟩
 refine⟨vs.length+1,?_⟩
 rw[←h]
 exact putBack_main us vs _ j rfl hl hw hv ht0 ht1 hbig
end Go.Cm
end
