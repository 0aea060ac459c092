import Derived.Test.YtdpljomfkoojnaaGreatDoorCmH
namespace Go.Cm
structure TdOk (P:Program) (t:Nat) (d:Td):Prop where
 info:∃i,P.info? t=some i/\i.size=d.k.sz/\i.bytes=d.bytes/\(∀cs,d.k.zero=some cs->∃z,i.zero=some z/\z.cells=cs.toArray)
 ag:d.ag=isSt d.k
 und:match d.k with
  | .int k=>P.underlying t=some (.int k)
  | .bool=>P.underlying t=some .bool
  | .str=>P.underlying t=some .string
  | .sl _=>P.underlying t=some (.slice d.el)
  | .pt _=>∃e,P.underlying t=some (.pointer e)
  | .st _=>∃fs,P.underlying t=some (.struct fs)/\fs.toList.map (fun f=>(f.offset,f.type))=d.fs/\∃places,fs.toList.mapM (fun f=>(P.info? f.type).map fun i=>(f.offset,i.size))=some places
  | .pair _ _=>False
  | .sv _=>False
  | .er=>∃ms,P.underlying t=some (.interface ms)
theorem tdOf_ev {β:Type} {cx:Cx} {S:St} {t:Nat} {k:Td->Cm β} {r:β} (h:(tdOf cx t k).ev S=some r):∃d,find t cx.td=some d/\(k d).ev S=some r:=by
 unfold tdOf at h;split at h
 ·exact⟨_,by assumption,h⟩
 ·simp [Cm.ev]at h
theorem add_plain (b o j:Nat):(⟨b,o,none⟩:Addr).add j=⟨b,o+j,none⟩:=by unfold Addr.add;split<;>simp_all
section
variable {P:Program} {t:Nat} {d:Td}
theorem TdOk.size (h:TdOk P t d) (w:World):(sizeOf t).run P w= .ok d.k.sz w:=by
 obtain⟨i,h1,h2,_⟩:=h.info;simp [sizeOf,typeInfo,h1,h2]
theorem TdOk.isAgg (h:TdOk P t d) (w:World):(isAgg t).run P w= .ok d.ag w:=by
 have hu:=h.und;have hg:=h.ag;unfold Go.isAgg;cases hk:d.k<;>rw[hk]at hu hg<;>simp only[isSt]at hg<;>rw[hg]
 case pair=>exact hu.elim
 case sv=>exact hu.elim
 case er=>obtain⟨e,hu⟩:=hu;simp [run_underlying hu]
 case pt=>obtain⟨e,hu⟩:=hu;simp [run_underlying hu]
 case st=>obtain⟨e,hu,_⟩:=hu;simp [run_underlying hu]
 all_goals simp [run_underlying hu]
theorem TdOk.one (h:TdOk P t d) (hg:d.ag=false):d.k.sz=1:=by
 have hu:=h.und;have h2:=h.ag;cases hk:d.k<;>rw[hk]at hu h2
 case pair=>exact hu.elim
 case sv=>exact hu.elim
 case st=>rw[h2]at hg;simp [isSt]at hg
 all_goals rfl
theorem run_loadVar (h:TdOk P t d) {w:World} {b o:Nat} {us:List Value} (hl:us.length=d.k.sz) (hc:Cells0 w b o us):(loadVar t ⟨b,o,none⟩).run P w= .ok (enc d.ag us) w:=by
 unfold loadVar;simp only[Sem.run_bind,h.isAgg,Result.andThen_ok];cases hg:d.ag with
 |true=>
  have:=run_loadCells_list (P:=P) w ⟨b,o,none⟩ us (fun j v hj=>by rw[add_plain];exact hc j v hj);rw[hl]at this;simp [h.size,this,enc]
 |false=>
  have h1:=h.one hg;rw[h1]at hl
  match us,hl with
  | [u],_=>
   have:=hc 0 u rfl;simp at this;simp [this,enc]
theorem run_storeVar (h:TdOk P t d) {w:World} {b o:Nat} {us:List Value} {v:Value} {ag:Bool} (hv:v=enc ag us) (hl:us.length=d.k.sz) (h1:ag=false->us.length=1) (hone:∀u∈us,u.oneCell'=true)
  (hc:∀j,j<us.length->(w.cell? ⟨b,o+j,none⟩).isSome=true) (hf:∀j,j<us.length->w.frozen? ⟨b,o+j,none⟩=false):
  (storeVar t ⟨b,o,none⟩ v).run P w= .ok () (w.setCells b o us):=by
 have hcs:v.cells=us.toArray:=by
  subst hv;cases ag with
  |true=>rfl
  |false=>
   match us,h1 rfl with
   | [u],_=>
    have:=hone u (by simp);cases u<;>first|rfl|(simp [Value.oneCell']at this)
 have:=run_storeCells_cells (P:=P) b o us 0 w (by simpa using hc) (by simpa using hf) hone;simp only[Nat.add_zero]at this;unfold storeVar;simp [h.size,hcs,hl,this]
def Bnd (dflt:Nat):Option Value->Nat->Prop
 |none,x=>x=dflt
 |some v,x=>∃k,v= .int k (x:Int)
theorem run_bounds {w:World} {sl:Bool} {len cap l h:Nat} {lo hi:Option Value} (hlo:Bnd 0 lo l) (hhi:Bnd len hi h) (h1:h<=cap) (h2:l<=h):
  (Instr.sliceBounds sl len cap lo hi none).run P w= .ok (l,h,cap) w:=by
 have g1:∀y code,h<=y->∀k,(Instr.sliceBound (.int k (h:Int)) y code).run P w= .ok h w:=by
  intro y code hy k;simp [Instr.sliceBound,asIntOf];intro hq;omega
 have g2:∀y code,l<=y->∀k,(Instr.sliceBound (.int k (l:Int)) y code).run P w= .ok l w:=by
  intro y code hy k;simp [Instr.sliceBound,asIntOf];intro hq;omega
 cases hi with
 |none=>
  have hh:h=len:=hhi;subst hh;cases lo with
  |none=>
   have hl:l=0:=hlo;subst hl;simp [Instr.sliceBounds]
  |some v=>
   obtain⟨k,rfl⟩:=hlo;simp [Instr.sliceBounds,g2 _ _ h2]
 |some v=>
  obtain⟨k,rfl⟩:=hhi;cases lo with
  |none=>
   have hl:l=0:=hlo;subst hl;simp [Instr.sliceBounds,g1 _ _ h1]
  |some v=>
   obtain⟨k',rfl⟩:=hlo;simp [Instr.sliceBounds,g1 _ _ h1,g2 _ _ h2]
theorem run_sliceAt {w:World} (h:TdOk P t d) {k:Kd} (hk:d.k= .sl k) {e:Td} (he:TdOk P d.el e) {A:Option Addr} {len cap l hh:Nat} {lo hi:Option Value} (hlo:Bnd 0 lo l) (hhi:Bnd len hi hh) (h1:hh<=cap) (h2:l<=hh):
  (Instr.sliceAt t (.slice A len cap) lo hi none).run P w= .ok (.slice (if cap=l then A else A.map (·.add (l*e.k.sz))) (hh - l) (cap - l)) w:=by
 have hu:=h.und;rw[hk]at hu;have hb:=run_bounds (P:=P) (w:=w) (sl:=true) hlo hhi h1 h2;simp [Instr.sliceAt,Instr.slice,run_underlying hu,hb,he.size]
theorem run_sliceStr {w:World} (h:TdOk P t d) (hk:d.k= .str) {s:ByteArray} {l hh:Nat} {lo hi:Option Value} (hlo:Bnd 0 lo l) (hhi:Bnd s.size hi hh) (h1:hh<=s.size) (h2:l<=hh):
  (Instr.sliceAt t (.string s) lo hi none).run P w= .ok (.string (s.extract l hh)) w:=by
 have hu:=h.und;rw[hk]at hu;have hb:=run_bounds (P:=P) (w:=w) (sl:=false) hlo hhi h1 h2;simp [Instr.sliceAt,Instr.slice,run_underlying hu,hb]
theorem run_indexAt {w:World} (h:TdOk P t d) {k:Kd} (hk:d.k= .sl k) {e:Td} (he:TdOk P d.el e) {b o len cap:Nat} {ik:IntKind} {i:Int} (h0:0<=i) (h1:i<(len:Int)):
  (Instr.indexAt t (.slice (some ⟨b,o,none⟩) len cap) (.int ik i)).run P w= .ok (.pointer (some ⟨b,o+i.toNat*e.k.sz,none⟩)) w:=by
 have hu:=h.und;rw[hk]at hu;simp [Instr.indexAt,asIntOf,run_underlying hu,h0,h1,he.size,add_plain]
end
end Go.Cm
