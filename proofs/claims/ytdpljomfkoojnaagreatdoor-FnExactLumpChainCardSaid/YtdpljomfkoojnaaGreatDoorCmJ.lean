import Derived.Test.YtdpljomfkoojnaaGreatDoorCmI
set_option linter.unusedVariables false
namespace Go.Cm
def TdsOk (cx:Cx) (P:Program):Prop:=∀t d,find t cx.td=some d->TdOk P t d
section
variable {cx:Cx} {E:En} {S:St} {α:Nat->CO} {a:Act} {w:World} {o:Oper} {us:List Up}
theorem bind_ev {β γ:Type} {m:Cm β} {f:β->Cm γ} {r:γ} (h:(m.bind f).ev S=some r):∃x,m.ev S=some x/\(f x).ev S=some r:=by
 rw[Cm.ev_bind,Option.bind_eq_some_iff]at h;exact h
theorem ret_ev {β:Type} {x y:β} (h:(Cm.ret x).ev S=some y):x=y:=by simpa [Cm.ev]using h
theorem fail_ev {β:Type} {y:β} (h:(Cm.fail:Cm β).ev S=some y):False:=by simp [Cm.ev]at h
theorem Does.pure (h:Inv E S α a w) (hd:dstOk E.n o) {v:AV} {u:Value} (hr:(execOp a.eval o).run E.P w= .ok (.value u) w) (hv:VR (R0 E S.heap α w) v u):Does E S a w o (dput o v):=
 Does.val hr (h.dput hd hv)
theorem step_move (h:Inv E S α a w) (hd:dstOk E.n o) {x:Operand} (ho:o.op= .move x\/o.op= .assign x) (hs:((opnd x).bind fun v=> .ret (dput o v)).ev S=some us):Does E S a w o us:=by
 obtain⟨v,h1,h2⟩:=bind_ev hs;rw[<-ret_ev h2];refine Does.pure h hd (u:=a.eval x) ?_ (opnd_sound h h1);rcases ho with ho|ho<;>simp [execOp,ho]
theorem step_pick (h:Inv E S α a w) (hd:dstOk E.n o) {c x y:Operand} (ho:o.op= .pick c x y)
  (hs:((opnd c).bind fun vc=>sgv vc fun
   | .bool t=> .test t ((opnd x).bind fun v=> .ret (dput o v)) ((opnd y).bind fun v=> .ret (dput o v))
   |_=> .fail).ev S=some us):Does E S a w o us:=by
 obtain⟨v,h1,h2'⟩:=bind_ev hs;obtain⟨c',rfl,h2⟩:=sgv_ev h2';have hc:=opnd_v h h1;clear h2' hs;split at h2
 ·rename_i t;simp only[Cm.ev]at h2;split at h2
  ·rename_i ht;obtain⟨v,h3,h4⟩:=bind_ev h2;rw[<-ret_ev h4];refine Does.pure h hd (u:=a.eval x) ?_ (opnd_sound h h3);simp [execOp,ho,hc,asBool,ht]
  ·rename_i ht;obtain⟨v,h3,h4⟩:=bind_ev h2;rw[<-ret_ev h4];refine Does.pure h hd (u:=a.eval y) ?_ (opnd_sound h h3);simp [execOp,ho,hc,asBool,ht]
 ·exact(fail_ev h2).elim
theorem equalIn_nil {P:Program} (w:World) (d t:Nat) {ms:Array (String×TypeId)} (h:P.underlying t=some (.interface ms)):(Op.equalIn (d+1) t .nilIface .nilIface).run P w= .ok true w:=by simp [Op.equalIn,run_underlying h]
theorem equalIn_held {P:Program} (w:World) (d t ti:Nat) (u:Value) {ms:Array (String×TypeId)} (h:P.underlying t=some (.interface ms)):(Op.equalIn (d+1) t (.iface ti u) .nilIface).run P w= .ok false w:=by simp [Op.equalIn,run_underlying h]
theorem equalIn_bool {P:Program} (w:World) (d t:Nat) (p q:Bool) (h:P.underlying t=some .bool):(Op.equalIn (d+1) t (.bool p) (.bool q)).run P w= .ok (p==q) w:=by simp [Op.equalIn,run_underlying h]
theorem equalIn_slN {P:Program} (w:World) (d t:Nat) (A:Option Addr) (n c:Nat) {e:TypeId} (h:P.underlying t=some (.slice e)):(Op.equalIn (d+1) t (.slice A n c) (.slice none 0 0)).run P w= .ok A.isNone w:=by
 cases A<;>simp [Op.equalIn,run_underlying h]
theorem isNilS_eq {y:Operand} (h:isNilS y=true):y= .const (.slice none 0 0):=by
 unfold isNilS at h;split at h
 ·rfl
 ·cases h
theorem nil_cmp (h:Inv E S α a w) (hd:dstOk E.n o) {op:BinOp} {t t':Nat} {x y:Operand} (ho:o.op= .binOp op t x y t') {A:Option Addr} {n c:Nat} (hx:a.eval x= .slice A n c) (hy:y= .const (.slice none 0 0))
  {e:TypeId} (hu:E.P.underlying t=some (.slice e)) (hs:(nilCmp o op A.isNone).ev S=some us):Does E S a w o us:=by
 subst hy;have he:a.eval (.const (.slice none 0 0))= .slice none 0 0:=rfl;have hop:(Op.equal t (.slice A n c) (.slice none 0 0)).run E.P w= .ok A.isNone w:=equalIn_slN w 9999 t A n c hu;unfold nilCmp at hs;split at hs
 ·rw[<-ret_ev hs];refine Does.pure h hd (u:= .bool A.isNone) ?_ (vr_vl rfl);simp [execOp,ho,hx,he,eqGuard,binOp,hop]
 ·rw[<-ret_ev hs];refine Does.pure h hd (u:= .bool !A.isNone) ?_ (vr_vl rfl);simp [execOp,ho,hx,he,eqGuard,binOp,hop]
 ·exact(fail_ev hs).elim
theorem isNilC_eq {y:Operand} (h:isNilC y=true):y= .const .nilIface:=by
 unfold isNilC at h;split at h
 ·rfl
 ·cases h
theorem step_binOp (ht:TdsOk cx E.P) (h:Inv E S α a w) (hd:dstOk E.n o) {op:BinOp} {t t':Nat} {x y:Operand} (ho:o.op= .binOp op t x y t')
  (hs:((opnd x).bind fun vx=>(opnd y).bind fun vy=>sBin cx o op t y vx vy).ev S=some us):Does E S a w o us:=by
 obtain⟨vx,h1,h2⟩:=bind_ev hs;obtain⟨vy,h3,h4⟩:=bind_ev h2;unfold sBin at h4;split at h4
 ·rename_i b;split at h4
  case isFalse=>exact(fail_ev h4).elim
  rename_i hn;have:=isNilC_eq hn;subst this;obtain⟨d,hf,h5⟩:=tdOf_ev h4;split at h5
  case isFalse=>exact(fail_ev h5).elim
  rename_i hk;have hu:=(ht t d hf).und;rw[hk]at hu;obtain⟨ms,hu⟩:=hu;obtain⟨v,q1,_,q3⟩:=opnd_c h h1;simp only[List.cons.injEq,and_true]at q1;have he:a.eval (.const .nilIface)= .nilIface:=rfl;have hgd:∀op:BinOp,(eqGuard op t x (.const .nilIface) (a.eval x) .nilIface).run E.P w= .ok () w:=by
   intro op;rw[q1];cases b
   ·simp only[Bool.false_eq_true,if_false]at q3;rw[q3];unfold eqGuard;cases op<;>simp
   ·simp only[if_true]at q3;obtain⟨ti,u,rfl⟩:=q3;unfold eqGuard;cases op<;>simp
  have hop:(Op.equal t (a.eval x) .nilIface).run E.P w= .ok (!b) w:=by
   rw[q1];cases b
   ·simp only[Bool.false_eq_true,if_false]at q3;rw[q3];exact equalIn_nil w 9999 t hu
   ·simp only[if_true]at q3;obtain⟨ti,u,rfl⟩:=q3;exact equalIn_held w 9999 t ti u hu
  have hb:∀ {r:Bool},(binOp op t (a.eval x) .nilIface).run E.P w= .ok (.bool r) w->(execOp a.eval o).run E.P w= .ok (.value (.bool r)) w:=by
   intro r hr;simp [execOp,ho,he,hgd,hr]
  have hx:∀k n,a.eval x≠ .int k n:=by
   intro k n e;rw[q1]at e;cases b
   ·simp only[Bool.false_eq_true,if_false]at q3;rw[q3]at e;cases e
   ·simp only[if_true]at q3;obtain⟨ti,u,rfl⟩:=q3;cases e
  split at h5
  ·rw[<-ret_ev h5];refine Does.pure h hd (u:= .bool !b) (hb ?_) (vr_vl rfl);have:binOp .eql t (a.eval x) .nilIface=(do pure (.bool (<-Op.equal t (a.eval x) .nilIface))):=by
    rw[q1];cases b
    ·simp only[Bool.false_eq_true,if_false]at q3;rw[q3];rfl
    ·simp only[if_true]at q3;obtain⟨ti,u,rfl⟩:=q3;rfl
   rw[this];simp [hop]
  ·rw[<-ret_ev h5];refine Does.pure h hd (u:= .bool b) (hb ?_) (vr_vl rfl);have:binOp .neq t (a.eval x) .nilIface=(do pure (.bool (!(<-Op.equal t (a.eval x) .nilIface)))):=by
    rw[q1];cases b
    ·simp only[Bool.false_eq_true,if_false]at q3;rw[q3];rfl
    ·simp only[if_true]at q3;obtain⟨ti,u,rfl⟩:=q3;rfl
   rw[this];simp [hop]
  ·exact(fail_ev h5).elim
 ·rename_i p;obtain⟨c',rfl,h5⟩:=sgv_ev h4;split at h5
  case h_2=>exact(fail_ev h5).elim
  rename_i q;obtain⟨d,hf,h6⟩:=tdOf_ev h5;split at h6
  case isFalse=>exact(fail_ev h6).elim
  rename_i hk;have hu:=(ht t d hf).und;rw[hk]at hu;have e1:=opnd_v h h1;have e2:=opnd_v h h3;have hop:(Op.equal t (.bool p) (.bool q)).run E.P w= .ok (p==q) w:=equalIn_bool w 9999 t p q hu;split at h6
  ·rw[<-ret_ev h6];refine Does.pure h hd (u:= .bool (p==q)) ?_ (vr_vl rfl);simp [execOp,ho,e1,e2,eqGuard,binOp,hop]
  ·rw[<-ret_ev h6];refine Does.pure h hd (u:= .bool !(p==q)) ?_ (vr_vl rfl);simp [execOp,ho,e1,e2,eqGuard,binOp,hop]
  ·exact(fail_ev h6).elim
 ·rename_i l g rg i vw;split at h4
  case isFalse=>exact(fail_ev h4).elim
  rename_i hn;obtain⟨d,hf,h5⟩:=tdOf_ev h4;split at h5
  case h_2=>exact(fail_ev h5).elim
  rename_i k0 hk;have hu:=(ht t d hf).und;rw[hk]at hu;simp only[Cm.ev]at h5;split at h5
  case isFalse=>exact(fail_ev h5).elim
  rename_i hg;split at h5
  case h_2=>exact(fail_ev h5).elim
  rename_i mine k rg' hdr inn hob;split at h5
  case isFalse=>exact(fail_ev h5).elim
  rename_i hrg;subst hrg;simp only[Cm.ev]at h5;split at h5
  ·cases h5
  rename_i hl;have hl:¬vlen (inn.getD i []) vw=0:=fun e=>hl (decide_eq_true e)
  have hr:=(opnd_c h h1).1.2 hg;obtain⟨A,cap,real,ms,hα,R⟩:=rows_co h hob;rw[hob,hα]at hr;obtain⟨m,xs,g1,g2,g3,g4⟩:=hr.2 rfl;have he:inn.getD i []=xs:=by simp [g2]
  rw[he]at hl;obtain⟨A',q1,q2,q3⟩:=g4;obtain⟨b,oo,_,q4⟩:=q3 (by omega);subst q4;exact nil_cmp h hd ho q1 (isNilS_eq hn) hu h5
 ·split at h4
  case isFalse=>exact(fail_ev h4).elim
  rename_i hn;obtain⟨d,hf,h5⟩:=tdOf_ev h4;split at h5
  case h_2=>exact(fail_ev h5).elim
  rename_i k0 hk;have hu:=(ht t d hf).und;rw[hk]at hu;exact nil_cmp (A:=none) h hd ho (opnd_v h h1) (isNilS_eq hn) hu h5
 ·obtain⟨c,rfl,h5⟩:=sgv_ev h4;obtain⟨c',rfl,h6⟩:=sgv_ev h5;obtain⟨r,h7,h8⟩:=bind_ev h6;rw[<-ret_ev h8];have e1:=opnd_v h h1;have e2:=opnd_v h h3;have e3:=bin_sound (w:=w) (P:=E.P) op t c c' h7;refine Does.pure h hd (u:=r) ?_ (vr_vl rfl);have hg:(eqGuard op t x y c c').run E.P w= .ok () w:=by
   rcases bin_scalar h7 with ⟨k,a,k',b,rfl,rfl⟩|⟨a,b,rfl,rfl⟩<;>(unfold eqGuard;simp;try ((repeat' split)<;>simp_all))
  simp [execOp,ho,e1,e2,hg,e3]
theorem step_unOp (h:Inv E S α a w) (hd:dstOk E.n o) {op:UnOp} {t:Nat} {x:Operand} (ho:o.op= .unOp op t x)
  (hs:((opnd x).bind fun vx=>sgv vx fun a=>(un op a).bind fun r=> .ret (dput o (vl r))).ev S=some us):Does E S a w o us:=by
 obtain⟨vx,h1,h2⟩:=bind_ev hs;obtain⟨c,rfl,h5⟩:=sgv_ev h2;obtain⟨r,h7,h8⟩:=bind_ev h5;rw[<-ret_ev h8];have e1:=opnd_v h h1;refine Does.pure h hd (u:=r) ?_ (vr_vl rfl);simp [execOp,ho,e1,un_sound (w:=w) (P:=E.P) op c h7]
theorem step_extract (h:Inv E S α a w) (hd:dstOk E.n o) {t:Operand} {i:Nat} (ho:o.op= .extract t i)
  (hs:((opnd t).bind fun
   | .tup xs=>(match xs[i]? with|some p=> .ret (dput o (.one p.1 p.2))|none=> .fail)
   |_=> .fail).ev S=some us):Does E S a w o us:=by
 obtain⟨v,h1,h2⟩:=bind_ev hs;have hv:=opnd_sound h h1;split at h2
 ·rename_i xs;split at h2
  ·rename_i p hp;rw[<-ret_ev h2];obtain⟨vs,e1,e2⟩:=hv;obtain⟨y,e3,e4⟩:=e2.get hp;refine Does.pure h hd (u:=y) ?_ e4;simp [execOp,ho,e1,Instr.extract,e3]
  ·exact(fail_ev h2).elim
 ·exact(fail_ev h2).elim
theorem pt_form {c:A0} {u:Value} (hc:R0 E S.heap α w c u) (hc':(∃fl k x,c= .pt fl k x)):∃ad,u= .pointer (some ad):=by
 obtain⟨fl,k,x,rfl⟩:=hc';obtain⟨b,o,es,h1,_⟩:=hc;simp at h1;exact⟨_,h1⟩
theorem step_nilCheck (h:Inv E S α a w) (hd:dstOk E.n o) {x:Operand} (ho:o.op= .nilCheck x)
  (hs:((opnd x).bind fun v=>match v with
   | .one false [.pt _ _ _]=> .ret (dput o v)
   | .one false [.pm _ _]=> .ret (dput o v)
   |_=> .fail).ev S=some us):Does E S a w o us:=by
 obtain⟨v,h1,h2⟩:=bind_ev hs;have hv:=opnd_sound h h1;split at h2
 ·rename_i fl k y;rw[<-ret_ev h2];obtain⟨ad,he⟩:=pt_form (vr_c0_inv hv) ⟨_,_,_,rfl⟩;refine Does.pure h hd (u:=a.eval x) ?_ hv;simp [execOp,ho,he]
 ·rename_i k y;rw[<-ret_ev h2];obtain⟨b,oo,es,he,_⟩:=vr_c0_inv hv;refine Does.pure h hd (u:=a.eval x) ?_ hv;simp [execOp,ho,he]
 ·exact(fail_ev h2).elim
end
end Go.Cm
