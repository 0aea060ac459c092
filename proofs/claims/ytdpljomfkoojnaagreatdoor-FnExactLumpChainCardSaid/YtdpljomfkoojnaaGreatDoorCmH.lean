import Derived.Test.YtdpljomfkoojnaaGreatDoorCmG
namespace Go.Cm
theorem beq_iff (a b:Nat):Nat.beq a b=decide (a=b):=by
 cases h:Nat.beq a b with
 |true=>simp [Nat.eq_of_beq_eq_true h]
 |false=>simp [Nat.ne_of_beq_eq_false h]
theorem ups_append (S:St) (us vs:List Up):S.ups (us++vs)=(S.ups us).ups vs:=by simp [St.ups]
def Does (E:En) (S:St) (a:Act) (w:World) (o:Oper) (us:List Up):Prop:=
 ∀(next:Act->World->Prop) (Q:Exit->Act->World->Prop),(∀α' a' w',Inv E (S.ups us) α' a' w'->next a' w')->o.wp E.P a w next Q
theorem Does.val {E:En} {S:St} {a:Act} {w w':World} {o:Oper} {us:List Up} {u:Value} {α':Nat->CO} (hr:(execOp a.eval o).run E.P w= .ok (.value u) w')
  (hi:Inv E (S.ups us) α' (a.put o.dst u) w'):Does E S a w o us:=by
 intro next Q hn;unfold Oper.wp;rw[hr,Oper.upon_value];exact hn _ _ _ hi
theorem Does.skip {E:En} {S:St} {a:Act} {w w':World} {o:Oper} {us:List Up} {α':Nat->CO} (hr:(execOp a.eval o).run E.P w= .ok .skip w')
  (hi:Inv E (S.ups us) α' (a.put o.dst undef) w'):Does E S a w o us:=by
 intro next Q hn;unfold Oper.wp;rw[hr,Oper.upon_skip];exact hn _ _ _ hi
def dstOk (n:Nat) (o:Oper):Prop:=∀d,o.dst=some d->d<n
section
variable {E:En} {S:St} {α:Nat->CO} {a:Act} {w:World}
theorem Inv.dput (h:Inv E S α a w) {o:Oper} (hd:dstOk E.n o) {av:AV} {u:Value} (hv:VR (R0 E S.heap α w) av u):Inv E (S.ups (dput o av)) α (a.put o.dst u) w:=by
 unfold Cm.dput;cases hq:o.dst with
 |none=>exact h
 |some d=>exact h.put (hd d hq) hv
theorem vr_vl {R:A0->Value->Prop} {x:Value} (h:R (.v x) x):VR R (vl x) x:=⟨[x],rfl, .cons h .nil,fun _=>rfl⟩
theorem vr_c0 {R:A0->Value->Prop} {c:A0} {u:Value} (h:R c u):VR R (.one false [c]) u:=⟨[u],rfl, .cons h .nil,fun _=>rfl⟩
theorem vr_c0_inv {R:A0->Value->Prop} {c:A0} {u:Value} (h:VR R (.one false [c]) u):R c u:=by
 obtain⟨us,h1,h2,h3⟩:=h;cases h2 with
 |cons h t=>cases t;simpa [h1,enc]using h
theorem opnd_sound (h:Inv E S α a w) {x:Operand} {v:AV} (hx:(opnd x).ev S=some v):VR (R0 E S.heap α w) v (a.eval x):=by
 cases x with
 |tmp t=>
  simp only[opnd,Cm.ev,Option.some.injEq]at hx;subst hx;exact h.slt t
 |const y=>
  simp only[opnd,Cm.ev,Option.some.injEq]at hx;subst hx;cases y<;>first
   |exact vr_vl rfl
   |skip
  rename_i cs;refine⟨cs.toList,by simp [enc,Act.eval],?_,fun h=>by cases h⟩;have:∀l:List Value,Al (R0 E S.heap α w) (l.map .v) l:=by
   intro l
   induction l with
   |nil=>exact .nil
   |cons x l ih=>exact .cons rfl ih
  exact this _
 |func f=>
  simp only[opnd,Cm.ev,Option.some.injEq]at hx;subst hx;exact vr_vl rfl
 |global g=>
  simp only[opnd,Cm.ev,Option.some.injEq]at hx;subst hx;exact vr_vl rfl
theorem sg_ev {β:Type} {v:AV} {k:A0->Cm β} {r:β} (h:(sg v k).ev S=some r):∃c,v= .one false [c]/\(k c).ev S=some r:=by
 unfold sg at h;split at h
 ·exact⟨_,rfl,h⟩
 ·simp [Cm.ev]at h
theorem sgv_ev {β:Type} {v:AV} {k:Value->Cm β} {r:β} (h:(sgv v k).ev S=some r):∃c,v= .one false [.v c]/\(k c).ev S=some r:=by
 unfold sgv at h;split at h
 ·exact⟨_,rfl,h⟩
 ·simp [Cm.ev]at h
theorem sgi_ev {β:Type} {v:AV} {k:Int->Cm β} {r:β} (h:(sgi v k).ev S=some r):∃c,v= .one false [.v (.int .i64 c)]/\(k c).ev S=some r:=by
 unfold sgi at h;split at h
 ·exact⟨_,rfl,h⟩
 ·simp [Cm.ev]at h
theorem need_ev {β:Type} {c:Prop} [Decidable c] {k:Cm β} {r:β} (h:(Cm.test (decide c) k .fail).ev S=some r):c/\k.ev S=some r:=by
 simp only[Cm.ev]at h;split at h
 ·rename_i hc;exact⟨of_decide_eq_true hc,h⟩
 ·cases h
theorem needn_ev {β:Type} {c:Prop} [Decidable c] {k:Cm β} {r:β} (h:(Cm.test (decide c) .fail k).ev S=some r):¬c/\k.ev S=some r:=by
 simp only[Cm.ev]at h;split at h
 ·cases h
 ·rename_i hc;exact⟨fun hq=>hc (decide_eq_true hq),h⟩
theorem opnd_v (h:Inv E S α a w) {x:Operand} {c:Value} (hx:(opnd x).ev S=some (.one false [.v c])):a.eval x=c:=vr_c0_inv (opnd_sound h hx)
theorem opnd_c (h:Inv E S α a w) {x:Operand} {c:A0} (hx:(opnd x).ev S=some (.one false [c])):R0 E S.heap α w c (a.eval x):=vr_c0_inv (opnd_sound h hx)
theorem bin_sound {P:Program} (op:BinOp) (t:TypeId) (x y:Value) {r:Value} (h:(bin op x y).ev S=some r):(binOp op t x y).run P w= .ok r w:=by
 cases x<;>cases y<;>try (simp [bin,Cm.ev]at h;done)
 case int.int k a k' b=>
  cases op<;>simp only[bin]at h
  case shl=>
   obtain⟨h1,h2⟩:=needn_ev h;simp only[Cm.ev,Option.some.injEq]at h2;subst h2;simp [binOp,Op.shift,h1]
  case shr=>
   obtain⟨h1,h2⟩:=needn_ev h;simp only[Cm.ev,Option.some.injEq]at h2;subst h2;simp [binOp,Op.shift,h1]
  case quo=>
   split at h
   ·rename_i hk;obtain⟨h1,h2⟩:=needn_ev h;simp only[Cm.ev,Option.some.injEq]at h2;subst h2;simp [binOp,hk,Op.intDiv,h1]
   ·simp [Cm.ev]at h
  case rem=>
   split at h
   ·rename_i hk;obtain⟨h1,h2⟩:=needn_ev h;simp only[Cm.ev,Option.some.injEq]at h2;subst h2;simp [binOp,hk,Op.intDiv,h1]
   ·simp [Cm.ev]at h
  all_goals
   split at h
   ·rename_i hk;simp only[Cm.ev,Option.some.injEq,reduceCtorEq]at h
    try (subst h;simp [binOp,hk,Op.intArith,Op.intBits,Op.intCmp])
   ·simp [Cm.ev]at h
 case string.string a b=>
  cases op<;>simp only[bin]at h
  case add=>
   obtain⟨h1,h2⟩:=need_ev h;simp only[Cm.ev,Option.some.injEq]at h2;subst h2;have h3:¬(IntKind.i64.max<((a.size+b.size:Nat):Int)):=by
    have:IntKind.i64.max=9223372036854775807:=by decide
    rw[this];omega
   simp only[binOp,Op.stringOp,gt_iff_lt,h3,if_false];rfl
  all_goals
   simp only[Cm.ev,Option.some.injEq,reduceCtorEq]at h
  all_goals
   subst h;simp [binOp,Op.stringOp]
theorem un_sound {P:Program} (op:UnOp) (x:Value) {r:Value} (h:(un op x).ev S=some r):(Op.unary op x).run P w= .ok r w:=by
 cases x<;>try (simp [un,Cm.ev]at h;done)
 all_goals
  cases op<;>simp only[un,Cm.ev,Option.some.injEq,reduceCtorEq]at h
  subst h;simp [Op.unary,Op.intArith]
theorem bin_scalar {op:BinOp} {x y:Value} {r:Value} (h:(bin op x y).ev S=some r):(∃k a k' b,x= .int k a/\y= .int k' b)\/(∃a b,x= .string a/\y= .string b):=by
 cases x<;>cases y<;>first
  |(simp [bin,Cm.ev]at h;done)
  |exact .inl ⟨_,_,_,_,rfl,rfl⟩
  |exact .inr ⟨_,_,rfl,rfl⟩
end
end Go.Cm
