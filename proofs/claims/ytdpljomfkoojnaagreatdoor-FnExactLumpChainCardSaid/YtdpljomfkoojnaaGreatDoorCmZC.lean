import Derived.Test.YtdpljomfkoojnaaGreatDoorCmZB
import Derived.Scope
import Derived.Tactics
set_option linter.unusedVariables false
namespace Go.Cm
def Ex.to:Ex->Exit
 | .nrm=> .normal
 | .ext i=> .exit i
 | .rtn=> .ret
def dstB (n:Nat) (o:Oper):Bool:=match o.dst with
 |some d=>Nat.blt d n
 |none=>true
def codeOk (n:Nat):Code->Bool
 | .region _ ops d=>ops.toList.all (dstB n)&&(!d||edgesOk 0 ops.toList)
 | .seq a b=>codeOk n a&&codeOk n b
 | .cond _ a b=>codeOk n a&&codeOk n b
 | .block _ b=>codeOk n b
 | .loop b=>codeOk n b
 | .scope b=>codeOk n b
 |_=>true
theorem dstB_ok {n:Nat} {o:Oper} (h:dstB n o=true):dstOk n o:=by
 intro d hd;simp only[dstB,hd]at h;exact Nat.le_of_ble_eq_true h
section
variable {fx:Fx} {E:En}
theorem Inv.drawn {S:St} {α:Nat->CO} {a:Act} {w:World} (h:Inv E S α a w) (d:Nat):Inv E S α a {w with drawn:=d} :=by
 have:=(h.change (fun _=>False) (H':=S.heap) (α':=α) (w':= {w with drawn:=d}) (fun l _=>⟨rfl,rfl⟩) (fun b o v hv _=>⟨hv,rfl⟩)
  ⟨h.fr.os,h.fr.tape,h.fr.output,h.fr.size,h.fr.block⟩ (fun l hl=>hl.elim) (fun l l' b o hl=>hl.elim) (fun l hl=>hl.elim) (fun l hl=>hl.elim) (Goes.refl _ _) (fun _ _ l hl=>hl.elim)).1
 exact this
theorem exec_sound (hm:E.P.follows .mixedOrders=true) (ht:TdsOk fx.cx E.P) (hct:CtsOk fx.cx E.P E.gl) {R:Type} {r:R} :∀(c:Code) {S:St} {α:Nat->CO} {a:Act} {w:World} {κ:Ex->St->Option R} {Q:Exit->Act->World->Prop},
  codeOk E.n c=true->Inv E S α a w->exec fx c S κ=some r->(∀e S' α' a' w',Inv E S' α' a' w'->κ e S'=some r->Q e.to a' w')->c.wp E.P Q a w
 | .skip,S,α,a,w,κ,Q,hc,hI,hr,hq=>wp_skip (hq .nrm S α a w hI hr)
 | .exit i,S,α,a,w,κ,Q,hc,hI,hr,hq=>wp_exit (hq (.ext i) S α a w hI hr)
 | .ret,S,α,a,w,κ,Q,hc,hI,hr,hq=>wp_ret (hq .rtn S α a w hI hr)
 | .region id ops d,S,α,a,w,κ,Q,hc,hI,hr,hq=>by
  simp only[codeOk,Bool.and_eq_true,List.all_eq_true,Bool.or_eq_true,Bool.not_eq_true']at hc;obtain⟨hc1,hc2⟩:=hc;simp only[exec]at hr;cases d with
  |false=>
   simp only[Bool.false_eq_true,if_false]at hr;refine wp_region_list ?_;have:=runOps_sound ht hct (Q:=Q) (fun o ho=>dstB_ok (hc1 o ho)) hI hr (fun S' α' a' w' hi hk=>hq .nrm S' α' a' w' hi hk);simpa using this
  |true=>
   simp only[if_true]at hr;have:=runDraw_sound (id:=id) (Q:=Q) hm ht hct (fun o ho=>dstB_ok (hc1 o ho)) (hc2.resolve_left (by simp)) (hI.drawn (w.drawn+1)) hr (fun S' α' a' w' hi hk=>hq .nrm S' α' a' w' hi hk);simpa using this
 | .seq x y,S,α,a,w,κ,Q,hc,hI,hr,hq=>by
  simp only[codeOk,Bool.and_eq_true]at hc;refine wp_seq (exec_sound hm ht hct x hc.1 hI hr (fun e S' α' a' w' hi hk=> ?_));cases e with
  |nrm=>exact exec_sound hm ht hct y hc.2 hi hk hq
  |ext i=>exact hq (.ext i) S' α' a' w' hi hk
  |rtn=>exact hq .rtn S' α' a' w' hi hk
 | .cond c x y,S,α,a,w,κ,Q,hc,hI,hr,hq=>by
  simp only[codeOk,Bool.and_eq_true]at hc;simp only[exec,Cm.run_eq,Option.bind_eq_some_iff]at hr;obtain⟨v,h1,h2⟩:=hr;split at h2
  case h_2=>cases h2
  rename_i t;refine wp_cond (opnd_v hI h1) ?_;cases t with
  |true=>
   simp only[if_true]at h2 ⊢;exact exec_sound hm ht hct x hc.1 hI h2 hq
  |false=>
   simp only[Bool.false_eq_true,if_false]at h2 ⊢;exact exec_sound hm ht hct y hc.2 hI h2 hq
 | .block id b,S,α,a,w,κ,Q,hc,hI,hr,hq=>by
  refine wp_block (exec_sound hm ht hct b hc hI hr (fun e S' α' a' w' hi hk=> ?_));cases e with
  |nrm=>exact hq .nrm S' α' a' w' hi hk
  |rtn=>exact hq .rtn S' α' a' w' hi hk
  |ext i=>
   simp only[beq_iff]at hk;show if i=id then Q .normal a' w' else Q (.exit i) a' w'
   by_cases hii:i=id
   ·rw[if_pos hii];simp only[hii,decide_true,cond_true]at hk;exact hq .nrm S' α' a' w' hi hk
   ·rw[if_neg hii];simp only[hii,decide_false,cond_false]at hk;exact hq (.ext i) S' α' a' w' hi hk
 | .scope b,S,α,a,w,κ,Q,hc,hI,hr,hq=>by
  refine wp_scope_straight (exec_sound hm ht hct b hc hI hr (fun e S' α' a' w' hi hk=> ?_));cases e with
  |nrm=>exact hq .nrm S' α' a' w' hi hk
  |rtn=>exact hq .rtn S' α' a' w' hi hk
  |ext i=>exact hq (.ext i) S' α' a' w' hi hk
 | .loop b,S,α,a,w,κ,Q,hc,hI,hr,hq=>by
  simp only[exec]at hr;generalize annAt fx (key b)=h at hr;split at hr
  case isFalse=>cases hr
  rename_i hk;have hhd:∀ {S:St} {α:Nat->CO} {a:Act} {w:World} {n:Nat},Inv E S α a w->head h S (loopN h (fun S κ=>exec fx b S κ) κ n)=some r->∃x α',Inv E (hdSt h x) α' a w/\loopN h (fun S κ=>exec fx b S κ) κ n x=some r:=by
   intro S α a w n hI hh;simp only[head,Cm.run_eq,Option.bind_eq_some_iff]at hh;obtain⟨p,h1,h2⟩:=hh;split at h2
   ·cases h2
   rename_i hdc;simp only[Bool.or_eq_true,not_or,Bool.not_eq_true]at hdc;obtain⟨α',hi⟩:=head_inv hI hk h1 hdc.1 hdc.2;exact⟨p.x,α',hi,h2⟩
  refine wp_loop_ghost (fun n a w=>∃x α,Inv E (hdSt h x) α a w/\loopN h (fun S κ=>exec fx b S κ) κ n x=some r) fx.k (hhd hI hr) (fun n a w ⟨x,α,hi,hl⟩=> ?_);cases n with
  |zero=>cases hl
  |succ n=>
   refine exec_sound hm ht hct b hc hi hl (fun e S' α' a' w' hi' hk'=> ?_);cases e with
   |nrm=>exact⟨n,Nat.lt_succ_self n,hhd hi' hk'⟩
   |ext i=>exact hq (.ext i) S' α' a' w' hi' hk'
   |rtn=>exact hq .rtn S' α' a' w' hi' hk'
end
end Go.Cm
