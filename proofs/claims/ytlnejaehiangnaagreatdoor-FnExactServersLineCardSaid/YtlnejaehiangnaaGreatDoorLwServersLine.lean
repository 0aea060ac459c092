import Derived.Test.YtlnejaehiangnaaGreatDoorPlServersLine
import Derived.Test.YtlnejaehiangnaaGreatDoorCmZL
set_option linter.unusedVariables false
namespace Go.Cm
theorem splice_own {α:Type} (xs ys:List α) (h:ys.length=xs.length):splice xs ys 0=ys:=by
 unfold splice
 simp [h]
theorem eqS_refl (xs:List ByteArray) (h:xs.length≤1000000):S.l_eqStringS (xs,(xs,()))=some (true,()):=by
 unfold S.l_eqStringS
 dsimp only
 rw[if_pos (by omega),eqTexts_refl]
theorem mkS (xs:List ByteArray) (q:Int) (h0:0≤q) (hq:q≤10000000) (h:xs.length≤1000000):S.l_markStringS (xs,(q,()))=some (q+(xs.length:Int),(marks q xs.length,())):=by
 unfold S.l_markStringS
 dsimp only
 rw[if_pos ⟨by omega,by omega,by omega⟩]
theorem hdS (n:Nat) (q:Int) (h0:0≤q) (hq:q≤10000000) (h:n≤1000000):S.l_heldStringS (marks q n,(q,()))=some (q+(n:Int),()):=by
 unfold S.l_heldStringS
 dsimp only
 rw[marks_len,if_pos ⟨by omega,by omega,by omega,rfl⟩]
theorem inb_i (n a b:Int):S.i_in (n,(a,(b,())))=some (decide (a≤n∧n≤b),()):=by
 unfold S.i_in P.i_in
 dsimp only
 by_cases h:n≥a
 ·rw[if_pos (decide_eq_true h)]
  congr 2
  rw[decide_eq_decide]
  omega
 ·rw[if_neg (by simpa using h)]
  congr 2
  symm
  exact decide_eq_false (by omega)
theorem eqL_refl (a b:List ByteArray) (ha:a.length≤1000000) (hb:b.length≤1000000):S.l_eqLine ((a,b),((a,b),()))=some (true,()):=by
 unfold S.l_eqLine P.l_eqLine
 dsimp only
 rw[eqS_refl a ha,eqS_refl b hb]
 rfl
theorem heL (a b:Nat) (ha:a≤1000000) (hb:b≤1000000):S.l_heldLine ((marks 101 a,marks (101+(a:Int)) b),(101,()))=some (101+(a:Int)+(b:Int),()):=by
 unfold S.l_heldLine P.l_heldLine
 dsimp only
 rw[hdS a 101 (by omega) (by omega) ha,Option.bind_some]
 dsimp only
 rw[if_neg (by simp;omega),hdS b _ (by omega) (by omega) hb,Option.bind_some]
 dsimp only
 rw[if_neg (by simp;omega)]
theorem mkL (a b:List ByteArray) (ha:a.length≤1000000) (hb:b.length≤1000000):S.l_markLine (a,(b,(101,())))=some (101+(a.length:Int)+(b.length:Int),(marks 101 a.length,(marks (101+(a.length:Int)) b.length,()))):=by
 unfold S.l_markLine P.l_markLine
 dsimp only
 rw[mkS a 101 (by omega) (by omega) ha,Option.bind_some]
 dsimp only
 rw[mkS b _ (by omega) (by omega) hb,Option.bind_some]
 dsimp only
 rw[splice_own _ _ (marks_len _ _),splice_own _ _ (marks_len _ _)]
theorem giveP_len (us ds:List Q3):(giveP us ds).1.1.length≤us.length∧(giveP us ds).1.2.length≤ds.length:=by
 have key:∀qs:List Q3,(giveL qs).1.length≤qs.length:=by
  intro qs
  unfold giveL
  split
  ·simp
  ·simp
 unfold giveP
 split
 ·exact⟨key us,key ds⟩
 ·simp
theorem text_len (a b:ByteArray) (servers limit:Int):(serversT a b servers limit).1.1.length≤20∧(serversT a b servers limit).1.2.length≤20:=by
 unfold serversT
 split
 ·rename_i hc
  simp only[Bool.and_eq_true,decide_eq_true_iff]at hc
  have hg:=giveP_len (List.replicate limit.toNat (posR a).1) (srvL (posR b).1 servers limit.toNat)
  have l1:(List.replicate limit.toNat (posR a).1).length=limit.toNat:=by simp
  have l2:(srvL (posR b).1 servers limit.toNat).length=limit.toNat:=by simp [srvL]
  rw[l1,l2]at hg
  omega
 ·simp
theorem s_law (a b:ByteArray) (servers limit:Int) (ha:a.size≤1000000) (hb:b.size≤1000000):S.s_ServersLine (a,(b,(servers,(limit,()))))=some (serversT a b servers limit,()):=by
 unfold S.s_ServersLine
 exact if_pos ⟨ha,hb⟩
theorem i_law (a b:ByteArray) (servers limit:Int) (ha:a.size≤1000000) (hb:b.size≤1000000):S.i_ServersLine (a,(b,(servers,(limit,()))))=some (serversT a b servers limit,()):=by
 unfold S.i_ServersLine P.i_ServersLine S.i_positive serversT
 dsimp only
 rw[if_pos ha,if_pos hb,Option.bind_some,Option.bind_some]
 dsimp only
 have gt:=posR_ok (s:=a)
 have gs:=posR_ok (s:=b)
 cases ft:(posR a).2
 ·rfl
 cases fs:(posR b).2
 ·rfl
 obtain⟨tl,tb,tp⟩:=gt ft
 obtain⟨sl,sb,sp⟩:=gs fs
 generalize (posR a).1=t at*
 generalize (posR b).1=s at*
 simp only[Bool.not_true,Bool.false_eq_true,if_false,Bool.true_and]
 rw[inb_i,Option.bind_some]
 dsimp only
 by_cases h1:1≤servers∧servers≤20
 case neg=>
  rw[decide_eq_false h1]
  rfl
 rw[decide_eq_true h1,if_neg (by decide),inb_i,Option.bind_some]
 dsimp only
 by_cases h2:1≤limit∧limit≤20
 case neg=>
  rw[decide_eq_false h2]
  rfl
 rw[decide_eq_true h2,if_neg (by decide),if_pos (by decide)]
 obtain⟨M,rfl⟩:∃M:Nat,limit=(M:Int):=⟨limit.toNat,by omega⟩
 have er:S.slices_Repeat__i_rat_i_rat ([rp B32 t],((M:Int),()))=some ((List.replicate M t).map (rp B32),()):=by
  unfold S.slices_Repeat__i_rat_i_rat
  dsimp only
  rw[if_pos ⟨rfl,by omega,by omega⟩,Int.toNat_natCast,List.map_replicate]
  rfl
 have es:S.i_served (rp B32 s,(servers,((M:Int),())))=some ((srvL s servers M).map (rp B32),()):=by
  unfold S.i_served
  dsimp only
  rw[if_pos ⟨⟨s,rfl,sl,sb,sp⟩,h1.1,h1.2,by omega,by omega⟩,rv_rp B32_le,Int.toNat_natCast]
 have el:S.i_toldLine ((List.replicate M t).map (rp B32),((srvL s servers M).map (rp B32),()))=some (giveP (List.replicate M t) (srvL s servers M),()):=by
  unfold S.i_toldLine
  dsimp only
  rw[if_pos ⟨⟨all_rok (n:=200) (by decide) (by decide) (fun q hq=>by rw[(List.mem_replicate.1 hq).2];exact⟨tl,tb⟩),by simp;omega⟩,all_rok (n:=202) (by decide) (by decide) (srvL_ok sl sb h1.1 h1.2 M),by unfold srvL;simp;omega⟩,map_rv B32_le,map_rv B32_le]
 show Option.bind (S.slices_Repeat__i_rat_i_rat ([rp B32 t],((M:Int),()))) _=_
 rw[er,Option.bind_some]
 show Option.bind (S.i_served (rp B32 s,(servers,((M:Int),())))) _=_
 rw[es,Option.bind_some]
 dsimp only
 rw[el,Option.bind_some,Int.toNat_natCast]
theorem ServersLine_true (x:PTy [PK.ro Kd.str,PK.ro Kd.str,PK.ro (Kd.int IntKind.i64),PK.ro (Kd.int IntKind.i64)]) (h:BdA _ x) (hz:SzA _ x):∃m,S.l_FnExactServersLine x=some (true,m):=by
 obtain⟨a,b,servers,limit,q⟩:=x
 obtain⟨z1,z2,_,_,_⟩:=hz
 refine⟨(),?_⟩
 show P.l_FnExactServersLine 0 (a,(b,(servers,(limit,()))))=some (true,())
 unfold P.l_FnExactServersLine
 dsimp only
 have a1:a.size≤reachBytes:=z1
 have b1:b.size≤reachBytes:=z2
 unfold reachBytes at a1 b1
 rw[wr (by omega) (by omega)]
 by_cases hs:(a.size:Int)+(b.size:Int)>1000000
 ·rw[if_pos (decide_eq_true hs)]
 ·rw[if_neg (by simpa using hs),s_law a b servers limit (by omega) (by omega),i_law a b servers limit (by omega) (by omega)]
  simp only[Option.bind_some]
  have hl:=text_len a b servers limit
  generalize serversT a b servers limit=y at hl ⊢
  obtain⟨⟨g1,g2⟩,f⟩:=y
  dsimp only at hl ⊢
  rw[eqL_refl g1 g2 (by omega) (by omega),mkL g1 g2 (by omega) (by omega)]
  simp only[Option.bind_some]
  rw[splice_own _ _ (marks_len _ _),splice_own _ _ (marks_len _ _),heL _ _ (by omega) (by omega)]
  simp only[Option.bind_some]
  have e6:¬(101+(g1.length:Int)+(g2.length:Int)<0):=by omega
  simp [e6]
end Go.Cm
