import Derived.Test.YtdpljomfkoojnaaGreatDoorCmW
import Derived.Tactics
import Derived.Scope
set_option linter.unusedVariables false
namespace Go.Cm
section
variable {cx:Cx} {E:En} {S:St} {α:Nat->CO} {a:Act} {w:World} {o:Oper} {us:List Up}
theorem step_sound (ht:TdsOk cx E.P) (hct:CtsOk cx E.P E.gl) (h:Inv E S α a w) (hd:dstOk E.n o) (hs:(step cx o).ev S=some us):Does E S a w o us:=by
 unfold step at hs;split at hs
 case h_1 x ho=>exact step_move h hd (.inl ho) hs
 case h_2 x ho=>exact step_move h hd (.inr ho) hs
 case h_3 c x y ho=>exact step_pick h hd ho hs
 case h_4 op t x y t' ho=>exact step_binOp ht h hd ho hs
 case h_5 op t x ho=>exact step_unOp h hd ho hs
 case h_6 t i ho=>exact step_extract h hd ho hs
 case h_7 x ho=>exact step_nilCheck h hd ho hs
 case h_8 s t x ho=>exact step_convert ht h hd ho hs
 case h_9 t x i ho=>exact step_index h hd ht ho hs
 case h_10 t x lo hi ho=>exact step_slice h hd ht ho hs
 case h_11 t x i ho=>exact step_indexAddr h hd ht ho hs
 case h_12 s x f ho=>exact step_fieldAddr ht h hd ho hs
 case h_13 t x ho=>exact step_load ht h hd ho hs
 case h_14 t x y ho=>
  split at hs
  ·exact(fail_ev hs).elim
  ·rename_i hn;refine step_store ht h ho ?_ hs;cases hq:o.dst with
   |none=>rfl
   |some d=>rw[hq]at hn;simp at hn
 case h_15 t ho=>exact step_alloc ht h hd ho hs
 case h_16 t x ho=>exact step_box ht h hd ho hs
 case h_17 t ps ho=>exact step_build ht h hd ho hs
 case h_18 t n ps ho=>exact step_buildSlice ht h hd ho hs
 case h_19 t n c ho=>exact step_makeSlice ht h hd ho hs
 case h_20 c ho=>
  obtain⟨vs,h1,h2⟩:=bind_ev hs;have hv:=opnds_sound h h1;split at h2
  ·rename_i hc;split at h2
   ·rename_i t v hat;obtain⟨c0,rfl,h3⟩:=sg_ev h2;exact step_len h hd ht ho hc hat hv h3
   ·exact(fail_ev h2).elim
  ·rename_i hc;split at h2
   ·rename_i t t' s x hat;split at h2
    case isFalse=>exact(fail_ev h2).elim
    rename_i htt;subst htt;obtain⟨c0,rfl,h3⟩:=sg_ev h2;obtain⟨c1,rfl,h4⟩:=sg_ev h3;exact step_append ht h hd ho hc (t:=t) (by apply Array.ext';rw[hat]) hv h4
   ·exact(fail_ev h2).elim
  ·rename_i hc;split at h2
   ·rename_i t s x hat;obtain⟨c0,rfl,h3⟩:=sg_ev h2;obtain⟨c1,rfl,h4⟩:=sg_ev h3;exact step_copy ht h hd ho hc hat hv h4
   ·exact(fail_ev h2).elim
  ·rename_i hc;split at h2
   ·rename_i k x k' y;split at h2
    case isFalse=>exact(fail_ev h2).elim
    rename_i hk;subst hk;rw[<-ret_ev h2];exact step_minmax h hd ho false hc hv
   ·exact(fail_ev h2).elim
  ·rename_i hc;split at h2
   ·rename_i k x k' y;split at h2
    case isFalse=>exact(fail_ev h2).elim
    rename_i hk;subst hk;rw[<-ret_ev h2];exact step_minmax h hd ho true hc hv
   ·exact(fail_ev h2).elim
  ·rename_i fo hc;obtain⟨vf,h3,h4⟩:=bind_ev h2;split at h4
   ·rename_i f hf;have:=fnOf_eq hf;subst this;split at h4
    ·rename_i s hf2;exact step_shr hct h hd ho hc (opnd_v h h3) hf2 hv h4
    ·exact step_call ht hct h hd ho hc (opnd_v h h3) hv h4
   ·exact(fail_ev h4).elim
  ·exact(fail_ev h2).elim
 case h_21=>exact(fail_ev hs).elim
theorem up_same (S:St) {s:Nat} {v:AV} (h:S.env s=v):S.up (.put s v)=S:=by
 cases S with
 |mk env heap=>
  simp only[St.up,St.mk.injEq,and_true];funext t;rw[beq_iff]
  by_cases ht:t=s
  ·subst ht;simpa using h.symm
  ·simp [ht]
theorem gstep_sound (ht:TdsOk cx E.P) (hct:CtsOk cx E.P E.gl) (h:Inv E S α a w) (hd:dstOk E.n o) {rf:Bool} {all:List Oper} (hs:(gstep cx rf all o).ev S=some us)
  (next:Act->World->Prop) (Q:Exit->Act->World->Prop) (hn:∀α' a' w',Inv E (S.ups us) α' a' w'->next a' w'):
  if Region.wanted o (yielded all.toArray a.tmps)then o.wp E.P a w next Q else next (a.put o.dst undef) w:=by
 unfold gstep at hs;split at hs
 ·rename_i hg;have:Region.wanted o (yielded all.toArray a.tmps)=true:=by simp [Region.wanted,hg]
  rw[if_pos this];exact step_sound ht hct h hd hs next Q hn
 ·rename_i j want hg;split at hs
  ·exact(fail_ev hs).elim
  rename_i s hsl;simp only[Cm.ev]at hs;split at hs
  case h_3=>exact(fail_ev hs).elim
  case h_2=>
   rename_i hb;have hv:=h.slt s;rw[hb]at hv;obtain⟨vs',hv1,hv2⟩:=hv;cases hv2;have hy:yielded all.toArray a.tmps j=none:=by
    unfold yielded;have:(all.toArray[j]?).bind (·.dst)=some s:=by simpa using hsl
    rw[this];rw[Array.getD_eq_getD_getElem?]at hv1;cases hq:a.tmps[s]? with
    |none=>simp [hq]
    |some v=>rw[hq]at hv1;simp at hv1;simp [hq,hv1]
   have hw:Region.wanted o (yielded all.toArray a.tmps)=false:=by simp [Region.wanted,hg,hy]
   rw[hw];have:=ret_ev hs;subst this;refine hn α _ w ?_;have hus:S.ups (if rf=true then Up.put s skp::dput o skp else dput o skp)=S.ups (dput o skp):=by
    split
    ·rw[ups_cons,up_same S (v:=skp) hb]
    ·rfl
   rw[hus];exact h.dput hd ⟨[],rfl, .nil⟩
  rename_i b hb;have hv:=h.slt s;rw[hb]at hv;have hval:a.tmps.getD s undef= .bool b:=vr_c0_inv hv;have hsome:a.tmps[s]? =some (.bool b):=by
   rw[Array.getD_eq_getD_getElem?]at hval;cases hq:a.tmps[s]? with
   |none=>rw[hq]at hval;simp [undef]at hval
   |some v=>rw[hq]at hval;simp at hval;rw[hval]
  have hy:yielded all.toArray a.tmps j=some b:=by
   unfold yielded;have:(all.toArray[j]?).bind (·.dst)=some s:=by simpa using hsl
   rw[this];simp [hsome]
  have hw:Region.wanted o (yielded all.toArray a.tmps)=(b==want):=by
   simp only[Region.wanted,hg,hy];cases b<;>cases want<;>rfl
  have hskip:∀vs,(Cm.ret (dput o skp)).ev S=some vs->S.ups us=S.ups vs->next (a.put o.dst undef) w:=by
   intro vs h1 h2;have:=ret_ev h1;subst this;refine hn α _ w ?_;rw[h2];exact h.dput hd ⟨[],rfl, .nil⟩
  rw[hw];simp only[Cm.ev]at hs;split at hs
  ·rename_i hbt;subst hbt;obtain⟨vs,h1,h2⟩:=bind_ev hs;have hus:S.ups us=S.ups vs:=by
    rw[<-ret_ev h2];split
    ·rw[ups_cons,up_same S (v:=vl (.bool _)) hb]
    ·rfl
   split at h1
   ·rename_i hwt;rw[if_pos (by simp [hwt])];exact step_sound ht hct h hd h1 next Q (fun α' a' w' hi=>hn α' a' w' (by rw[hus];exact hi))
   ·rename_i hwt;rw[if_neg (by simp [hwt])];exact hskip vs h1 hus
  ·rename_i hbt;have hbf:b=false:=by simpa using hbt
   subst hbf;obtain⟨vs,h1,h2⟩:=bind_ev hs;have hus:S.ups us=S.ups vs:=by
    rw[<-ret_ev h2];split
    ·rw[ups_cons,up_same S (v:=vl (.bool _)) hb]
    ·rfl
   split at h1
   ·rename_i hwt;rw[if_pos (by simp [hwt])];exact step_sound ht hct h hd h1 next Q (fun α' a' w' hi=>hn α' a' w' (by rw[hus];exact hi))
   ·rename_i hwt;rw[if_neg (by simpa using hwt)];exact hskip vs h1 hus
theorem runOps_sound (ht:TdsOk cx E.P) (hct:CtsOk cx E.P E.gl) {R:Type} {all:List Oper} {Q:Exit->Act->World->Prop} {r:R} :∀ {ops:List Oper} {S:St} {α:Nat->CO} {a:Act} {w:World} {κ:St->Option R},
  (∀o∈ops,dstOk E.n o)->Inv E S α a w->runOps cx all ops S κ=some r->(∀S' α' a' w',Inv E S' α' a' w'->κ S'=some r->Q .normal a' w')->wpList E.P all.toArray Q ops a w
 | [],S,α,a,w,κ,hd,h,hr,hq=>hq S α a w h hr
 |o::ops,S,α,a,w,κ,hd,h,hr,hq=>by
  simp only[runOps,Cm.run_eq,Option.bind_eq_some_iff]at hr;obtain⟨us,h1,h2⟩:=hr;have:=gstep_sound ht hct h (hd o (by simp)) h1 (wpList E.P all.toArray Q ops) Q (fun α' a' w' hi=>runOps_sound ht hct (fun o' ho'=>hd o' (by simp [ho'])) hi h2 hq);unfold wpList;split
  ·rename_i hw;rw[if_pos hw]at this;exact .inl this
  ·rename_i hw;rw[if_neg hw]at this;exact this
end
end Go.Cm
