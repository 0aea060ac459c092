import Derived.Test.YtjacdajcppcdlaaGreatDoorCmI
set_option linter.unusedVariables false
namespace Go.Cm
def a6r (cx:Cx) (P:Program):Prop:=∀t d,d5s t cx.td=some d->TdOk P t d
section
variable {cx:Cx} {E:En} {S:St} {α:Nat->CO} {a:Act} {w:World} {o:Oper} {us:List Up}
theorem a0g {β γ:Type} {m:Cm β} {f:β->Cm γ} {r:γ} (h:(m.bind f).ev S=some r):∃x,m.ev S=some x/\(f x).ev S=some r:=by
 rw[Cm.ev_bind,Option.bind_eq_some_iff]at h;exact h
theorem a0h {β:Type} {x y:β} (h:(Cm.ret x).ev S=some y):x=y:=by simpa [Cm.ev]using h
theorem a0a {β:Type} {y:β} (h:(Cm.fail:Cm β).ev S=some y):False:=by simp [Cm.ev]at h
theorem a3g.pure (h:Inv E S α a w) (hd:a6i E.n o) {v:AV} {u:Value} (hr:(execOp a.eval o).run E.P w= .ok (.value u) w) (hv:VR (R0 E S.heap α w) v u):a3g E S a w o (dput o v):=
 a3g.val hr (h.dput hd hv)
theorem e4u (h:Inv E S α a w) (hd:a6i E.n o) {x:Operand} (ho:o.op= .move x\/o.op= .assign x) (hs:((b0r x).bind fun v=> .ret (dput o v)).ev S=some us):a3g E S a w o us:=by
 obtain⟨v,h1,h2⟩:=a0g hs;rw[<-a0h h2];refine a3g.pure h hd (u:=a.eval x) ?_ (a4x h h1);rcases ho with ho|ho<;>simp [execOp,ho]
theorem step_pick (h:Inv E S α a w) (hd:a6i E.n o) {c x y:Operand} (ho:o.op= .pick c x y)
  (hs:((b0r c).bind fun vc=>sgv vc fun
   | .bool t=> .test t ((b0r x).bind fun v=> .ret (dput o v)) ((b0r y).bind fun v=> .ret (dput o v))
   |_=> .fail).ev S=some us):a3g E S a w o us:=by
 obtain⟨v,h1,h2'⟩:=a0g hs;obtain⟨c',rfl,h2⟩:=d7h h2';have hc:=b2f h h1;clear h2' hs;split at h2
 ·rename_i t;simp only[Cm.ev]at h2;split at h2
  ·rename_i ht;obtain⟨v,h3,h4⟩:=a0g h2;rw[<-a0h h4];refine a3g.pure h hd (u:=a.eval x) ?_ (a4x h h3);simp [execOp,ho,hc,asBool,ht]
  ·rename_i ht;obtain⟨v,h3,h4⟩:=a0g h2;rw[<-a0h h4];refine a3g.pure h hd (u:=a.eval y) ?_ (a4x h h3);simp [execOp,ho,hc,asBool,ht]
 ·exact(a0a h2).elim
theorem equalIn_nil {P:Program} (w:World) (d t:Nat) {ms:Array (String×TypeId)} (h:P.underlying t=some (.interface ms)):(Op.equalIn (d+1) t .nilIface .nilIface).run P w= .ok true w:=by simp [Op.equalIn,run_underlying h]
theorem e4v {P:Program} (w:World) (d t ti:Nat) (u:Value) {ms:Array (String×TypeId)} (h:P.underlying t=some (.interface ms)):(Op.equalIn (d+1) t (.iface ti u) .nilIface).run P w= .ok false w:=by simp [Op.equalIn,run_underlying h]
theorem e4w {P:Program} (w:World) (d t:Nat) (p q:Bool) (h:P.underlying t=some .bool):(Op.equalIn (d+1) t (.bool p) (.bool q)).run P w= .ok (p==q) w:=by simp [Op.equalIn,run_underlying h]
theorem isNilC_eq {y:Operand} (h:isNilC y=true):y= .const .nilIface:=by
 unfold isNilC at h;split at h
 ·rfl
 ·cases h
theorem step_binOp (ht:a6r cx E.P) (h:Inv E S α a w) (hd:a6i E.n o) {op:BinOp} {t t':Nat} {x y:Operand} (ho:o.op= .binOp op t x y t')
  (hs:((b0r x).bind fun vx=>(b0r y).bind fun vy=>sBin cx o op t y vx vy).ev S=some us):a3g E S a w o us:=by
 obtain⟨vx,h1,h2⟩:=a0g hs;obtain⟨vy,h3,h4⟩:=a0g h2;unfold sBin at h4;split at h4
 ·rename_i b;split at h4
  case isFalse=>exact(a0a h4).elim
  rename_i hn;have:=isNilC_eq hn;subst this;obtain⟨d,hf,h5⟩:=a6c h4;split at h5
  case isFalse=>exact(a0a h5).elim
  rename_i hk;have hu:=(ht t d hf).und;rw[hk]at hu;obtain⟨ms,hu⟩:=hu;obtain⟨v,q1,_,q3⟩:=d0t h h1;simp only[List.cons.injEq,and_true]at q1;have he:a.eval (.const .nilIface)= .nilIface:=rfl;have hgd:∀op:BinOp,(eqGuard op t x (.const .nilIface) (a.eval x) .nilIface).run E.P w= .ok () w:=by
   intro op;rw[q1];cases b
   ·simp only[Bool.false_eq_true,if_false]at q3;rw[q3];unfold eqGuard;cases op<;>simp
   ·simp only[if_true]at q3;obtain⟨ti,u,rfl⟩:=q3;unfold eqGuard;cases op<;>simp
  have hop:(Op.equal t (a.eval x) .nilIface).run E.P w= .ok (!b) w:=by
   rw[q1];cases b
   ·simp only[Bool.false_eq_true,if_false]at q3;rw[q3];exact equalIn_nil w 9999 t hu
   ·simp only[if_true]at q3;obtain⟨ti,u,rfl⟩:=q3;exact e4v w 9999 t ti u hu
  have hb:∀ {r:Bool},(binOp op t (a.eval x) .nilIface).run E.P w= .ok (.bool r) w->(execOp a.eval o).run E.P w= .ok (.value (.bool r)) w:=by
   intro r hr;simp [execOp,ho,he,hgd,hr]
  have hx:∀k n,a.eval x≠ .int k n:=by
   intro k n e;rw[q1]at e;cases b
   ·simp only[Bool.false_eq_true,if_false]at q3;rw[q3]at e;cases e
   ·simp only[if_true]at q3;obtain⟨ti,u,rfl⟩:=q3;cases e
  split at h5
  ·rw[<-a0h h5];refine a3g.pure h hd (u:= .bool !b) (hb ?_) (b2e rfl);have:binOp .eql t (a.eval x) .nilIface=(do pure (.bool (<-Op.equal t (a.eval x) .nilIface))):=by
    rw[q1];cases b
    ·simp only[Bool.false_eq_true,if_false]at q3;rw[q3];rfl
    ·simp only[if_true]at q3;obtain⟨ti,u,rfl⟩:=q3;rfl
   rw[this];simp [hop]
  ·rw[<-a0h h5];refine a3g.pure h hd (u:= .bool b) (hb ?_) (b2e rfl);have:binOp .neq t (a.eval x) .nilIface=(do pure (.bool (!(<-Op.equal t (a.eval x) .nilIface)))):=by
    rw[q1];cases b
    ·simp only[Bool.false_eq_true,if_false]at q3;rw[q3];rfl
    ·simp only[if_true]at q3;obtain⟨ti,u,rfl⟩:=q3;rfl
   rw[this];simp [hop]
  ·exact(a0a h5).elim
 ·rename_i p;obtain⟨c',rfl,h5⟩:=d7h h4;split at h5
  case h_2=>exact(a0a h5).elim
  rename_i q;obtain⟨d,hf,h6⟩:=a6c h5;split at h6
  case isFalse=>exact(a0a h6).elim
  rename_i hk;have hu:=(ht t d hf).und;rw[hk]at hu;have e1:=b2f h h1;have e2:=b2f h h3;have hop:(Op.equal t (.bool p) (.bool q)).run E.P w= .ok (p==q) w:=e4w w 9999 t p q hu;split at h6
  ·rw[<-a0h h6];refine a3g.pure h hd (u:= .bool (p==q)) ?_ (b2e rfl);simp [execOp,ho,e1,e2,eqGuard,binOp,hop]
  ·rw[<-a0h h6];refine a3g.pure h hd (u:= .bool !(p==q)) ?_ (b2e rfl);simp [execOp,ho,e1,e2,eqGuard,binOp,hop]
  ·exact(a0a h6).elim
 ·obtain⟨c,rfl,h5⟩:=d7h h4;obtain⟨c',rfl,h6⟩:=d7h h5;obtain⟨r,h7,h8⟩:=a0g h6;rw[<-a0h h8];have e1:=b2f h h1;have e2:=b2f h h3;have e3:=bin_sound (w:=w) (P:=E.P) op t c c' h7;refine a3g.pure h hd (u:=r) ?_ (b2e rfl);have hg:(eqGuard op t x y c c').run E.P w= .ok () w:=by
   rcases bin_scalar h7 with ⟨k,a,k',b,rfl,rfl⟩|⟨a,b,rfl,rfl⟩<;>(unfold eqGuard;simp;try ((repeat' split)<;>simp_all))
  simp [execOp,ho,e1,e2,hg,e3]
theorem step_unOp (h:Inv E S α a w) (hd:a6i E.n o) {op:UnOp} {t:Nat} {x:Operand} (ho:o.op= .unOp op t x)
  (hs:((b0r x).bind fun vx=>sgv vx fun a=>(un op a).bind fun r=> .ret (dput o (vl r))).ev S=some us):a3g E S a w o us:=by
 obtain⟨vx,h1,h2⟩:=a0g hs;obtain⟨c,rfl,h5⟩:=d7h h2;obtain⟨r,h7,h8⟩:=a0g h5;rw[<-a0h h8];have e1:=b2f h h1;refine a3g.pure h hd (u:=r) ?_ (b2e rfl);simp [execOp,ho,e1,un_sound (w:=w) (P:=E.P) op c h7]
theorem e4x (h:Inv E S α a w) (hd:a6i E.n o) {t:Operand} {i:Nat} (ho:o.op= .extract t i)
  (hs:((b0r t).bind fun
   | .tup xs=>(match xs[i]? with|some p=> .ret (dput o (.one p.1 p.2))|none=> .fail)
   |_=> .fail).ev S=some us):a3g E S a w o us:=by
 obtain⟨v,h1,h2⟩:=a0g hs;have hv:=a4x h h1;split at h2
 ·rename_i xs;split at h2
  ·rename_i p hp;rw[<-a0h h2];obtain⟨vs,e1,e2⟩:=hv;obtain⟨y,e3,e4⟩:=e2.get hp;refine a3g.pure h hd (u:=y) ?_ e4;simp [execOp,ho,e1,Instr.extract,e3]
  ·exact(a0a h2).elim
 ·exact(a0a h2).elim
theorem pt_form {c:A0} {u:Value} (hc:R0 E S.heap α w c u) (hc':(∃fl k x,c= .pt fl k x)):∃ad,u= .pointer (some ad):=by
 obtain⟨fl,k,x,rfl⟩:=hc';obtain⟨b,o,es,h1,_⟩:=hc;simp at h1;exact⟨_,h1⟩
theorem d9r (h:Inv E S α a w) (hd:a6i E.n o) {x:Operand} (ho:o.op= .nilCheck x)
  (hs:((b0r x).bind fun v=>match v with
   | .one false [.pt _ _ _]=> .ret (dput o v)
   | .one false [.pm _ _]=> .ret (dput o v)
   |_=> .fail).ev S=some us):a3g E S a w o us:=by
 obtain⟨v,h1,h2⟩:=a0g hs;have hv:=a4x h h1;split at h2
 ·rename_i fl k y;rw[<-a0h h2];obtain⟨ad,he⟩:=pt_form (a1f hv) ⟨_,_,_,rfl⟩;refine a3g.pure h hd (u:=a.eval x) ?_ hv;simp [execOp,ho,he]
 ·rename_i k y;rw[<-a0h h2];obtain⟨b,oo,es,he,_⟩:=a1f hv;refine a3g.pure h hd (u:=a.eval x) ?_ hv;simp [execOp,ho,he]
 ·exact(a0a h2).elim
end
end Go.Cm
