/- Texts that the walks and laws lean on, side by side. -/
import Derived.Test.YtkenfmgolgaidaaProg
import Derived.KernelRfl
import Derived.Shelf.SlGeneric
import Derived.Shelf.SlLaysF0
import Derived.Ground.SlsfProg
import Derived.Test.YtkenfmgolgaidaaADs1
import Derived.Test.YtkenfmgolgaidaaADs2
set_option linter.unusedVariables false
set_option linter.unusedSimpArgs false
namespace Go.Ep
open Go.RowKit
def keysP(m:List (List Int×Value)):Mp:=m.map fun x=>(x.1,[])
theorem keysP_get{m:List (List Int×Value)}{i:Nat}{ns:List Int}{c:List DV}(h:(keysP m)[i]?=some (ns,c)):∃ p,m[i]?=some (ns,p):=by
 unfold keysP at h;rw[List.getElem?_map] at h
 cases hm:m[i]? with
 | none=>rw[hm] at h;cases h
 | some x=>rw[hm] at h;simp only[Option.map_some,Option.some.injEq,Prod.mk.injEq] at h;exact⟨x.2,by rw[← h.1]⟩
section
variable{P:Program}{ctx:Ctx}{Q:PQ}{s:PState}
variable{dst:Option Tmp}{ty:TypeId}{pos:String}{after:Array Edge}{gd:Option (Nat×Bool)}
theorem RelG.reread{g:Ghost}{a:Act}{w:World}(h1:RelG ctx g s a w){id:Nat}{o0 ob:Ob}(hl:look s.objs id=some o0){objs':List (Nat×Ob)}(ho':∀ i,look objs' i=if i=id then some ob else look s.objs i)
  (hr:∀ S,ObRd w g S id o0 → ObRd w g S id ob):RelG ctx g { s with objs:=objs' } a w:=by
 have hF:∀ b,Free ctx g s.objs b → Free ctx g objs' b:=fun b hb=>⟨hb.1,fun i o n ho hgi=>by
  rw[ho'] at ho
  by_cases ei:i=id
  ·subst ei;exact hb.2 i _ n hl hgi
  ·rw[if_neg ei] at ho;exact hb.2 i o n ho hgi⟩
 have hst:Stays w w (Free ctx g s.objs):=⟨Nat.le_refl _,fun _ _ _=>rfl⟩
 refine⟨h1.defers,h1.size,fun i p hp=>(h1.slots i p hp).keep hst (fun b hb _=>hF b hb) (fun _ _=>rfl),fun i o ho=>?_,fun i i2 o o2 b n m ho ho2 hgi hgi2=>?_,fun i o b n ho hgi=>?_,h1.os,h1.tape,h1.output,h1.grows,h1.keep⟩
 ·simp only[ho'] at ho
  by_cases ei:i=id
  ·subst ei;rw[if_pos rfl] at ho
   cases ho
   exact hr _ ((h1.objs i _ hl).keep hst (fun b hb _=>hF b hb) (fun _ _ _=>rfl) rfl (fun _ _=>rfl))
  ·rw[if_neg ei] at ho;exact(h1.objs i o ho).keep hst (fun b hb _=>hF b hb) (fun _ _ _=>rfl) rfl (fun _ _=>rfl)
 ·simp only[ho'] at ho ho2;have key:∀ q o,(if q=id then some ob else look s.objs q)=some o → ∃ o',look s.objs q=some o':=fun q o hq=>by
   by_cases eq:q=id
   ·subst eq;exact⟨_,hl⟩
   ·rw[if_neg eq] at hq;exact⟨o,hq⟩
  obtain⟨p1,q1⟩:=key i o ho;obtain⟨p2,q2⟩:=key i2 o2 ho2;exact h1.inj i i2 p1 p2 b n m q1 q2 hgi hgi2
 ·simp only[ho'] at ho
  by_cases ei:i=id
  ·subst ei;exact h1.own i _ b n hl hgi
  ·rw[if_neg ei] at ho;exact h1.own i o b n ho hgi
theorem look_putdel(id:Nat)(ob:Ob)(l:List (Nat×Ob))(i:Nat):look (putO id ob (delO id l)) i=if i=id then some ob else look l i:=by
 rw[look_putO,look_delO]
 by_cases h:i=id <;> simp[h]
theorem delO_mem{id:Nat}:∀ {l:List (Nat×Ob)} {x:Nat×Ob},x∈delO id l → x.1≠id ∧ x∈l
 | [],x,h=>by simp[delO] at h
 | (k,p)::r,x,h=>by
  unfold delO at h
  by_cases e:id=k
  ·rw[if_pos e] at h;have:=delO_mem h;exact⟨this.1,List.mem_cons_of_mem _ this.2⟩
  ·rw[if_neg e] at h;rcases List.mem_cons.1 h with h | h
   ·subst h;exact⟨Ne.symm e,List.mem_cons_self⟩
   ·have:=delO_mem h;exact⟨this.1,List.mem_cons_of_mem _ this.2⟩
theorem ObRd.junkP{w:World}{g:Ghost}{S:Nat → Prop}{id:Nat}{ks:List IntKind}{m:List (List Int×Value)}{j:Nat}{p:PV}{bs:List Nat}{ck:Nat}(h:ObRd w g S id (.mapP ks m (some (j,p)) bs ck)):ObRd w g S id (.mapP ks m (some (j,.junk)) bs ck):=by
 cases h with
 | mapP _ _ _ _ _ blk n es h hh hsz hst hbl hnd hent hov=>
  refine .mapP ks m _ bs ck blk n es h hh hsz hst hbl hnd (fun i ns u hi=>?_) fun j' p' hj=>?_
  ·obtain⟨e,h1,h2,h3,h4,h5⟩:=hent i ns u hi;refine⟨e,h1,h2,h3,h4,fun hne=>h5 fun q hq=>?_⟩
   cases hq
   exact hne .junk rfl
  ·cases hj
   obtain⟨e,h1,h2⟩:=hov j p rfl;exact⟨e,h1,.junk _⟩
section
variable{x kx:Operand}{t kt et:TypeId}{ks:List IntKind}{m:List (List Int×Value)}{ns:List Int}{bs:List Nat}{ck id:Nat}{ov:Option (Nat×PV)}
theorem mapP_keys{es:Array MapEntry}
  (hent:∀ (i:Nat) (ns:List Int) (u:Value),m[i]?=some (ns,u) → ∃ e,es[i]?=some e ∧ e.key=keyV ks ns ∧ ns.length=ks.length ∧ e.val.oneCell'=true ∧ ((∀ p,ov≠some (i,p)) → e.val=u)) :
  ∀ (i:Nat) (e:MapEntry) (nn:List Int) (c:List DV),es.toList[i]?=some e → (keysP m)[i]?=some (nn,c) → e.key=keyV ks nn ∧ nn.length=ks.length:=fun i e nn c h1 h2=>by
 obtain⟨q,hq⟩:=keysP_get h2;obtain⟨e',g1,g2,g3,_⟩:=hent i nn q hq;have:e'=e:=by simp at h1;rw[g1] at h1;cases h1;rfl
 subst this;exact⟨g2,g3⟩
variable(hu:P.underlying t=some (.map kt et))(K:KeyOK P kt ks)(hx:s.ev x=some (.mp id))(hl:look s.objs id=some (.mapP ks m ov bs ck))(hk:s.ev kx=some (keyP ks ns))(hn:ns.length=ks.length)
include hu K hx hl hk hn
theorem LR.lookupP{j:Nat}{p:PV}(hj:pfind ns (keysP m) 0=some j)(hp:ov=some (j,p)):Local P ctx ⟨dst,.lookup t x kx false,ty,pos,after,gd⟩ s (s.putD dst p):=
 local_pure (o:=⟨dst,.lookup t x kx false,ty,pos,after,gd⟩) fun a w g hg=>by
  have h:=hg.ev hx
  generalize hv:a.eval x=v at h
  cases h with
  | mpNil _ hgn=>
   cases hg.objs id _ hl with
   | mapP _ _ _ _ _ blk' n' es h' hh hsz hst hbl hnd hent hov=>rw[hgn] at h';cases h'
  | mp _ blk n hgi=>
   cases hg.objs id _ hl with
   | mapP _ _ _ _ _ blk' n' es h' hh hsz hst hbl hnd hent hov=>
    rw[hgi] at h';cases h';have hf:=K.find w ns (keysP m) es.toList hn (by simpa[keysP] using hsz) (mapP_keys hent);obtain⟨e,g1,g5⟩:=hov j p hp;have he:es.toList[j]?=some e:=by simpa using g1
    rw[hj] at hf;simp only[Option.bind_some,he,Option.map_some] at hf;refine⟨e.val,?_,g5⟩;simp only[execOp,hv,keyP_eq (hg.ev hk),Instr.lookup,Sem.run_bind,run_underlying hu,Result.andThen_ok,MapKept.run_getObj_map hh,Sem.run_pure,K.check w _ ns hn,hf]
    rfl
theorem LR.lookupPN{z:Value}(hz:∀ w,(zeroValue et).run P w=.ok z w)(h1:z.oneCell'=true)(hj:pfind ns (keysP m) 0=none):Local P ctx ⟨dst,.lookup t x kx false,ty,pos,after,gd⟩ s (s.putD dst (.d (.v z))):=
 local_pure (o:=⟨dst,.lookup t x kx false,ty,pos,after,gd⟩) fun a w g hg=>by
  have h:=hg.ev hx
  generalize hv:a.eval x=v at h
  cases h with
  | mpNil _ hgn=>
   cases hg.objs id _ hl with
   | mapP _ _ _ _ _ blk' n' es h' hh hsz hst hbl hnd hent hov=>rw[hgn] at h';cases h'
  | mp _ blk n hgi=>
   cases hg.objs id _ hl with
   | mapP _ _ _ _ _ blk' n' es h' hh hsz hst hbl hnd hent hov=>
    rw[hgi] at h';cases h';have hf:=K.find w ns (keysP m) es.toList hn (by simpa[keysP] using hsz) (mapP_keys hent);rw[hj] at hf;simp only[Option.bind_none] at hf;refine⟨z,?_,.d (.v z h1)⟩;simp only[execOp,hv,keyP_eq (hg.ev hk),Instr.lookup,Sem.run_bind,run_underlying hu,Result.andThen_ok,MapKept.run_getObj_map hh,Sem.run_pure,K.check w _ ns hn,hf,hz]
    rfl
omit hu K hx hl hk hn in
theorem row_one{w:World}{g:Ghost}{S:Nat → Prop}{q n:Nat}{u:Value}(h:Rd w g S (.row q n) u):u.oneCell'=true:=by cases h <;> rfl
theorem LR.mapUpdateP{vx:Operand}{j q nn:Nat}{p:PV}(hov:ov=some (j,p))(hv:s.ev vx=some (.row q nn))(hj:pfind ns (keysP m) 0=some j):Local P ctx ⟨none,.mapUpdate t x kx vx,ty,pos,after,gd⟩ s (s.setO id (.mapP ks m (some (j,.row q nn)) bs ck)):=by
 subst hov;refine local_skip (o:=⟨none,.mapUpdate t x kx vx,ty,pos,after,gd⟩) fun a w g hg=>?_
 have h:=hg.ev hx
 generalize hxv:a.eval x=v at h
 cases h with
 | mpNil _ hgn=>
  cases hg.objs id _ hl with
  | mapP _ _ _ _ _ blk' n' es h' hh hsz hst hbl hnd hent hov=>rw[hgn] at h';cases h'
 | mp _ blk n hgi=>
  cases hg.objs id _ hl with
  | mapP _ _ _ _ _ blk' n' es h' hh hsz hst hbl hnd hent hov=>
   rw[hgi] at h';cases h';have hf:=K.find w ns (keysP m) es.toList hn (by simpa[keysP] using hsz) (mapP_keys hent);obtain⟨k,hjk,cs0,h2,h3⟩:=pfind_off ns (keysP m) 0 j hj;have:j=k:=by omega
   subst this;obtain⟨p0,hp0⟩:=keysP_get h2;obtain⟨e0,g1,g2,g3,g4,g5⟩:=hent j ns p0 hp0;have he:es.toList[j]?=some e0:=by simpa using g1
   rw[hj] at hf;simp only[Option.bind_some,he,Option.map_some] at hf;have hvr:=hg.ev hv
   generalize hu':a.eval vx=u at hvr
   have hsame:(Instr.keyThatStays (((es[j]?).map (·.key)).getD (keyV ks ns)) (keyV ks ns)).run P w=.ok (keyV ks ns) w:=by
    simp only[g1,Option.map_some,Option.getD_some,g2,Instr.keyThatStays,sameBits_key,if_true,Sem.run_pure]
   have hrun:(Instr.mapUpdate t (.map (some blk)) (keyV ks ns) u).run P w=.ok () { w with heap:=w.heap.setIfInBounds blk (.map (es.modify j fun e=>{ e with key:=keyV ks ns,val:=u }) ck) }:=by
    simp only[Instr.mapUpdate,Sem.run_bind,run_underlying hu,Result.andThen_ok,MapKept.run_getObj_map hh,K.check w _ ns hn,hf,hsame];exact MapKept.run_setObj_map _ hh
   refine⟨_,by simp only[execOp,hxv,keyP_eq (hg.ev hk),hu',Sem.run_bind,hrun,Result.andThen_ok,Sem.run_pure];rfl,g,?_⟩;have hown:=hg.own id _ blk n hl hgi;have hother:∀ k,k < w.heap.size → k≠blk → ({ w with heap:=w.heap.setIfInBounds blk (.map (es.modify j fun e=>{ e with key:=keyV ks ns,val:=u }) ck) }:World).heap[k]?=w.heap[k]?:=fun k _ hne=>set_other w blk k _ hne
   have hst':Stays w { w with heap:=w.heap.setIfInBounds blk (.map (es.modify j fun e=>{ e with key:=keyV ks ns,val:=u }) ck) } (Free ctx g s.objs):=⟨by simp,fun b ⟨_,h2⟩ hlt=>hother b hlt fun e=>by subst e;exact h2 id _ n hl hgi⟩
   refine hg.wrote hl hgi rfl rfl rfl (by simp) hother hown.2 (.mapP ks _ _ bs ck blk n (es.modify j fun e=>{ e with key:=keyV ks ns,val:=u }) hgi (set_same w blk _ hown.1) (by simp[hsz]) ?_ hbl hnd (fun i nn' u' hi=>?_) fun j' p' hj'=>?_)
   ·rw[hst];apply List.ext_getElem?;intro i;simp only[List.getElem?_map,Array.getElem?_toList,Array.getElem?_modify]
    by_cases hij:j=i
    ·subst hij;simp[g1]
    ·simp[hij]
   ·by_cases hij:i=j
    ·subst hij;rw[hp0] at hi
     cases hi
     exact⟨_,by rw[Array.getElem?_modify,if_pos rfl,g1];rfl,rfl,hn,row_one hvr,fun hne=>(hne _ rfl).elim⟩
    ·obtain⟨e,q1,q2,q3,q4,q5⟩:=hent i nn' u' hi;exact⟨e,by rw[Array.getElem?_modify,if_neg (Ne.symm hij)];exact q1,q2,q3,q4,fun _=>q5 fun p hp=>by cases hp;exact hij rfl⟩
   ·cases hj'
    exact⟨_,by rw[Array.getElem?_modify,if_pos rfl,g1];rfl,hvr.keep hst' (fun b hb _=>free_put hl b hb) (fun _ _=>rfl)⟩
theorem LR.mapUpdatePN{vx:Operand}{q nn:Nat}(hov:ov=none)(hv:s.ev vx=some (.row q nn))(hj:pfind ns (keysP m) 0=none):Local P ctx ⟨none,.mapUpdate t x kx vx,ty,pos,after,gd⟩ s (s.setO id (.mapP ks (m++[(ns,undef)]) (some (m.length,.row q nn)) (bs++[ck]) (ck+1))):=by
 subst hov;refine local_skip (o:=⟨none,.mapUpdate t x kx vx,ty,pos,after,gd⟩) fun a w g hg=>?_
 have h:=hg.ev hx
 generalize hxv:a.eval x=v at h
 cases h with
 | mpNil _ hgn=>
  cases hg.objs id _ hl with
  | mapP _ _ _ _ _ blk' n' es h' hh hsz hst hbl hnd hent hov=>rw[hgn] at h';cases h'
 | mp _ blk n hgi=>
  cases hg.objs id _ hl with
  | mapP _ _ _ _ _ blk' n' es h' hh hsz hst hbl hnd hent hov=>
   rw[hgi] at h';cases h';have hf:=K.find w ns (keysP m) es.toList hn (by simpa[keysP] using hsz) (mapP_keys hent);rw[hj] at hf;simp only[Option.bind_none] at hf;have hvr:=hg.ev hv
   generalize hu':a.eval vx=u at hvr
   have hrun:(Instr.mapUpdate t (.map (some blk)) (keyV ks ns) u).run P w=.ok () { w with heap:=w.heap.setIfInBounds blk (.map (es.push { key:=keyV ks ns,val:=u,born:=ck }) (ck+1)) }:=by
    simp only[Instr.mapUpdate,Sem.run_bind,run_underlying hu,Result.andThen_ok,MapKept.run_getObj_map hh,K.check w _ ns hn,hf];exact MapKept.run_setObj_map _ hh
   refine⟨_,by simp only[execOp,hxv,keyP_eq (hg.ev hk),hu',Sem.run_bind,hrun,Result.andThen_ok,Sem.run_pure];rfl,g,?_⟩;have hown:=hg.own id _ blk n hl hgi;have hother:∀ k,k < w.heap.size → k≠blk → ({ w with heap:=w.heap.setIfInBounds blk (.map (es.push { key:=keyV ks ns,val:=u,born:=ck }) (ck+1)) }:World).heap[k]?=w.heap[k]?:=fun k _ hne=>set_other w blk k _ hne
   have hst':Stays w { w with heap:=w.heap.setIfInBounds blk (.map (es.push { key:=keyV ks ns,val:=u,born:=ck }) (ck+1)) } (Free ctx g s.objs):=⟨by simp,fun b ⟨_,h2⟩ hlt=>hother b hlt fun e=>by subst e;exact h2 id _ n hl hgi⟩
   refine hg.wrote hl hgi rfl rfl rfl (by simp) hother hown.2 (.mapP ks _ _ (bs++[ck]) (ck+1) blk n (es.push { key:=keyV ks ns,val:=u,born:=ck }) hgi (set_same w blk _ hown.1) (by simp[hsz]) (by simp[hst]) ?_ ?_ (fun i nn' u' hi=>?_) fun j' p' hj'=>?_)
   ·intro b hb;rcases List.mem_append.1 hb with h | h
    ·have:=hbl b h;omega
    ·simp at h;omega
   ·rw[List.nodup_append];refine⟨hnd,by simp,fun b hb c hc=>?_⟩;simp at hc;have:=hbl b hb;omega
   ·rw[List.getElem?_append] at hi
    split at hi
    ·rename_i hlt
     obtain⟨e,q1,q2,q3,q4,q5⟩:=hent i nn' u' hi;exact⟨e,by rw[Array.getElem?_push,if_neg (by rw[hsz];omega)];exact q1,q2,q3,q4,fun _=>q5 fun p hp=>by cases hp⟩
    ·rename_i hge
     have hi0:i=m.length:=by
      have:i - m.length < 1:=by simpa using (List.getElem?_eq_some_iff.1 hi).1
      omega
     subst hi0;simp at hi;obtain⟨rfl,rfl⟩:=hi;exact⟨_,by rw[Array.getElem?_push,if_pos hsz.symm],rfl,hn,row_one hvr,fun hne=>(hne _ rfl).elim⟩
   ·cases hj'
    exact⟨_,by rw[Array.getElem?_push,if_pos hsz.symm],hvr.keep hst' (fun b hb _=>free_put hl b hb) (fun _ _=>rfl)⟩
end
end
section
variable{P:Program}{ctx:Ctx}{ops:Array Oper}{Q:PState → Prop}{s:PState}
variable{dst:Option Tmp}{ty:TypeId}{pos:String}{after:Array Edge}{gd:Option (Nat×Bool)}
theorem Local.post{o:Oper}{t u:PState}(h:Local P ctx o s t)(hs:Sub ctx t u):Local P ctx o s u:=fun a w hr K Qx hK=>h a w hr K Qx fun a' w' h'=>hK a' w' (hs a' w' h')
theorem Local.pre{o:Oper}{t u:PState}(hs:Sub ctx s t)(h:Local P ctx o t u):Local P ctx o s u:=fun a w hr K Qx hK=>h a w (hs a w hr) K Qx hK
section
variable{α:Type}{enc:α → List DV}{L R:List α}{x y:Operand}{id mid m k bs':Nat}{t t' e e':TypeId}{ks:List IntKind}{mm:List (List Int×Value)}{j:Nat}{p:PV}{bs:List Nat}{ck:Nat}
theorem LR.appP(js:List Nat)(hE:ElemOK P t e k bs')(hu':P.underlying t'=some (.slice e'))(hx:s.ev x=some (.row id m))(hm:m=L.length)(hl:look s.objs id=some (.row e k (L.map enc)))
  (hlm:look s.objs mid=some (.mapP ks mm (some (j,p)) bs ck)) (hne:Nat.beq id mid=false)
  (hy:∀ s':PState,s'.n=s.n → s'.sl=s.sl → Src ctx s' y (R.map enc) k) (hk:∀ x,(enc x).length=k) (hb:(L.length+R.length)*bs' ≤ 140737488355328) (h1:Nat.ble 1 bs'=true) (ha:(s.junks js).aloneX id [mid]=true) :
  Local P ctx ⟨dst,.call ⟨.builtin .append,#[x,y],#[t,t']⟩,ty,pos,after,gd⟩ s ((((s.junks js).setO mid (.mapP ks mm (some (j,.junk)) bs ck)).setO id (.row e k ((L++R).map enc))).putD dst (.row id (L++R).length)):=by
 have hne':id≠mid:=fun e=>by rw[e] at hne;simp at hne
 let s2:PState:={ s with objs:=putO mid (.mapP ks mm (some (j,.junk)) bs ck) (delO mid s.objs) }
 have hsub:Sub ctx s s2:=fun a w ⟨g,hg⟩=>⟨g,hg.reread hlm (look_putdel _ _ _) fun S h=>h.junkP⟩
 have hj2:∀ js,(s2.junks js).sl=(s.junks js).sl:=fun js=>by rw[junks_sl,junks_sl]
 have ha2:(s2.junks js).alone id=true:=by
  unfold PState.aloneX at ha;unfold PState.alone;rw[hj2 js];rw[Bool.and_eq_true] at ha ⊢;refine⟨ha.1,List.all_eq_true.2 fun q hq=>?_⟩;rw[junks_objs] at hq;have h2:=List.all_eq_true.1 ha.2;obtain⟨qk,qo⟩:=q;rcases putO_mem hq with h3 | h3
  ·cases h3;rfl
  ·have h4:=delO_mem h3;have h5:=h2 (qk,qo) (by rw[junks_objs];exact h4.2);have h6:inL [mid] qk=false:=by
    rw[inL_false];simpa using h4.1
   simpa[h6] using h5
 have hl2:look s2.objs id=some (.row e k (L.map enc)):=by
  show look (putO _ _ _) _=_;rw[look_putdel,if_neg hne'];exact hl
 refine Local.pre hsub ((LR.appT (enc:=enc) (L:=L) (R:=R) (s:=s2) js hE hu' (by cases x <;> exact hx) hm hl2 (hy s2 rfl rfl) hk hb h1 ha2).post ?_);refine Sub.drop ?_ (fun i q hq=>?_) (fun i o ho=>?_)
 ·simp only[putD_len];show(s2.junks js).n=(s.junks js).n;rw[junks_n,junks_n]
 ·have hsl:(((s2.junks js).setO id (.row e k ((L++R).map enc))).putD dst (.row id (L++R).length)).sl=((((s.junks js).setO mid (.mapP ks mm (some (j,.junk)) bs ck)).setO id (.row e k ((L++R).map enc))).putD dst (.row id (L++R).length)).sl:=by
   cases dst <;> simp[PState.putD,PState.put,PState.setO,hj2]
  have hn:(((s2.junks js).setO id (.row e k ((L++R).map enc))).putD dst (.row id (L++R).length)).n=((((s.junks js).setO mid (.mapP ks mm (some (j,.junk)) bs ck)).setO id (.row e k ((L++R).map enc))).putD dst (.row id (L++R).length)).n:=by
   simp only[putD_len];show(s2.junks js).n=(s.junks js).n;rw[junks_n,junks_n]
  rw[at_eq] at hq ⊢;rw[hsl,hn];exact hq
 ·rw[putD_objs] at ho ⊢;simp only[PState.setO,junks_objs] at ho ⊢;rw[look_putO] at ho ⊢
  by_cases hi:i=id
  ·rw[if_pos hi] at ho ⊢;exact ho
  ·rw[if_neg hi] at ho ⊢;rw[look_putO] at ho;show look (putO _ _ (delO _ _)) _=_;rw[look_putdel];exact ho
theorem PQe.stepX{o:Oper}{rest:List Oper}{f:Ft}{fs:List Ft}{p:PV}{id mid:Nat}{ob obm:Ob}(js:List Nat)(hl:∀ s':PState,(∀ {x q},readsX o x=true → s.ev x=some q → s'.ev x=some q) → (∀ {id ob},inL f.ro id=true → look s.objs id=some ob → look s'.objs id=some ob) → (s'.junks js).aloneX id [mid]=true → Local P ctx o s' ((((s'.junks js).setO mid obm).setO id ob).putD o.dst p))
  (ha:inAl f.al id js=true) (hao:f.ao=[mid]) (hg:Wd ops o s) (hk:okE f ⟨dstL o.dst p++(js.map fun t=>(t,PV.junk)).reverse,[(id,ob),(mid,obm)]⟩=true) (h:PQe P ctx ops Q rest fs ((((s.junks js).setO mid obm).setO id ob).putD o.dst p)):PQe P ctx ops Q (o::rest) (f::fs) s:=by
 have happ:∀ s:PState,s.app ⟨dstL o.dst p++(js.map fun t=>(t,PV.junk)).reverse,[(id,ob),(mid,obm)]⟩=(((s.junks js).setO mid obm).setO id ob).putD o.dst p:=fun s=>by
  have h1:=junks_sl js s;have h2:=junks_n js s;have h3:=junks_objs js s
  cases o.dst <;> simp[PState.app,dstL,PState.putD,PState.put,PState.setO,h1,h2,h3]
 refine .step (e:=⟨dstL o.dst p++(js.map fun t=>(t,PV.junk)).reverse,[(id,ob),(mid,obm)]⟩) (fun s' _ he ho _ hal=>?_) hg hk (by rw[happ];exact h);rw[happ];refine hl s' he (fun hi=>ho (inL_iff.1 hi)) ?_;unfold inAl at ha;obtain⟨a,h1,h2⟩:=List.any_eq_true.1 ha;simp only[Bool.and_eq_true,beq_iff_eq] at h2;have:=hal a h1
 rwa [Nat.eq_of_beq_eq_true h2.1,h2.2,hao] at this
theorem LR.appNilX(hE:ElemOK P t e k bs')(hu':P.underlying t'=some (.slice e'))(hx:s.ev x=some (.d (.v (.slice none 0 0))))(hf:s.fresh id=true)
  (hy:Src ctx { s with objs:=putO id (.row e k []) s.objs } y (R.map enc) k) (hk:∀ x,(enc x).length=k) (hb:R.length*bs' ≤ 140737488355328) (h1:Nat.ble 1 bs'=true) (ha:({ s with objs:=putO id (.row e k []) s.objs }:PState).alone id=true) :
  Local P ctx ⟨some id,.call ⟨.builtin .append,#[x,y],#[t,t']⟩,ty,pos,after,gd⟩ s (s.newO id (.row e k (R.map enc)) (.row id R.length)):=by
 rintro a w ⟨g,hg⟩ K Qx hK;have hn:=hg.new (Go.RowKit.Below.refl _ w) hf none (fun b n e=>by cases e) (.row e k []) (.rowNil e k (upd_same _ _ _));have h2:=Nat.le_of_ble_eq_true h1;have h3:R.length*1 ≤ R.length*bs':=Nat.mul_le_mul_left _ h2;have hlk:look (putO id (Ob.row e k []) s.objs) id=some (.row e k []):=by rw[look_putO,if_pos rfl]
 have hxv:=hg.ev hx;have hxe:a.eval x=.slice none 0 0:=hxv.of_v;obtain⟨v,w',hrun,hr⟩:=append_core (dst:=some id) (ty:=ty) (pos:=pos) (after:=after) (gd:=gd) (l:=[]) (n:=0) (x:=x) [] hE hu' hlk rfl hy (eachMap hk R) (by simpa using hb) (by simp;omega) ha hn (by rw[hxe];exact .rowNil id (upd_same _ _ _));unfold Oper.wp;rw[hrun];refine hK _ _ ?_;refine Sub.drop ?_ (fun i q hq=>?_) (fun i o ho=>?_) _ _ hr
 ·rfl
 ·rw[Nat.zero_add,List.length_map];exact hq
 ·simp only[PState.newO,look_putO] at ho;simp only[PState.putD,PState.put,PState.setO,PState.junks,look_putO,List.nil_append]
  by_cases hi:i=id
  ·rw[if_pos hi] at ho ⊢;exact ho
  ·rw[if_neg hi] at ho;rw[if_neg hi,if_neg hi];exact ho
end
end
end Go.Ep
namespace Go.Ep
open Go.RowKit
section
variable{ctx:Ctx}{s:PState}
theorem RelG.obj{g:Ghost}{a:Act}{w:World}(h1:RelG ctx g s a w){id:Nat}{o o':Ob}(hl:look s.objs id=some o)(hob:ObRd w g (Free ctx g s.objs) id o'):RelG ctx g { s with objs:=putO id o' s.objs } a w:=by
 have hF:∀ b,Free ctx g s.objs b → Free ctx g (putO id o' s.objs) b:=fun b hb=>⟨hb.1,fun i o2 n ho hgi=>by
  rw[look_putO] at ho
  by_cases ei:i=id
  ·subst ei;exact hb.2 i _ n hl hgi
  ·rw[if_neg ei] at ho;exact hb.2 i o2 n ho hgi⟩
 have hst:Stays w w (Free ctx g s.objs):=⟨Nat.le_refl _,fun _ _ _=>rfl⟩
 have hlk:∀ i o2,look (putO id o' s.objs) i=some o2 → ∃ o3,look s.objs i=some o3:=fun i o2 ho=>by
  rw[look_putO] at ho
  by_cases ei:i=id
  ·subst ei;exact⟨_,hl⟩
  ·rw[if_neg ei] at ho;exact⟨_,ho⟩
 refine⟨h1.defers,h1.size,fun i p hp=>(h1.slots i p hp).keep hst (fun b hb _=>hF b hb) (fun _ _=>rfl),fun i o2 ho=>?_,fun i i2 o2 o3 b n m ho ho2 hgi hgi2=>?_,fun i o2 b n ho hgi=>?_,h1.os,h1.tape,h1.output,h1.grows,h1.keep⟩
 ·rw[look_putO] at ho
  by_cases ei:i=id
  ·subst ei;rw[if_pos rfl] at ho
   cases ho
   exact hob.keep hst (fun b hb _=>hF b hb) (fun _ _ _=>rfl) rfl (fun _ _=>rfl)
  ·rw[if_neg ei] at ho;exact(h1.objs i o2 ho).keep hst (fun b hb _=>hF b hb) (fun _ _ _=>rfl) rfl (fun _ _=>rfl)
 ·obtain⟨o4,e4⟩:=hlk i o2 ho;obtain⟨o5,e5⟩:=hlk i2 o3 ho2;exact h1.inj i i2 o4 o5 b n m e4 e5 hgi hgi2
 ·obtain⟨o4,e4⟩:=hlk i o2 ho;exact h1.own i o4 b n e4 hgi
variable{id:Nat}{nl:Bool}{ks:List IntKind}{ag:Bool}{m:List (List Int×List DV)}{bs:List Nat}{ck:Nat}
theorem Sub.hT(hl:look s.objs id=some (.mapH nl ks ag m))(hn:nl=true):Sub ctx s { s with objs:=putO id (.mapN true ks ag m [] 0) s.objs }:=
 Sub.obj hl fun w g S h=>by
  subst hn
  cases h with
  | mapHNil _ _ h=>exact .mapNil _ _ _ h
theorem openH(hl:look s.objs id=some (.mapH nl ks ag m)){a:Act}{w:World}(hr:Rel ctx s a w):∃ bs ck,Rel ctx { s with objs:=putO id (.mapN nl ks ag m bs ck) s.objs } a w:=by
 obtain⟨g,hg⟩:=hr;have h:=hg.objs id _ hl
 cases h with
 | mapHNil _ _ h=>exact⟨[],0,g,hg.obj hl (.mapNil _ _ _ h)⟩
 | mapH _ _ _ bs ck blk n es h hh hm=>exact⟨bs,ck,g,hg.obj hl (.mapN _ _ _ _ _ blk n es h hh hm)⟩
variable{P:Program}{Q:PQ}
theorem PWc.openH{c:Code}(hl:look s.objs id=some (.mapH nl ks ag m))(h:∀ bs ck,PWc P ctx c Q { s with objs:=putO id (.mapN nl ks ag m bs ck) s.objs }):PWc P ctx c Q s:=fun a w hr=>by
 obtain⟨bs,ck,h2⟩:=Go.Ep.openH hl hr;exact h bs ck a w h2
theorem PWl.openH{ops:Array Oper}{l:List Oper}(hl:look s.objs id=some (.mapH nl ks ag m))(h:∀ bs ck,PWl P ctx ops Q l { s with objs:=putO id (.mapN nl ks ag m bs ck) s.objs }):PWl P ctx ops Q l s:=fun a w hr=>by
 obtain⟨bs,ck,h2⟩:=Go.Ep.openH hl hr;exact h bs ck a w h2
theorem look_put2(id:Nat)(o o':Ob)(l:List (Nat×Ob))(i:Nat):look (putO id o (putO id o' l)) i=look (putO id o l) i:=by
 rw[look_putO,look_putO,look_putO]
 by_cases h:i=id <;> simp[h]
theorem Sub.same{t:PState}(hn:s.n=t.n)(hs:s.sl=t.sl)(ho:∀ i,look s.objs i=look t.objs i):Sub ctx s t:=
 Sub.drop hn (fun i p hp=>by rw[at_eq] at hp ⊢;rw[hn,hs];exact hp) (fun i o h=>by rw[ho];exact h)
theorem PWc.hF{c:Code}(hl:look s.objs id=some (.mapH nl ks ag m))(hn:nl=false)(h:∀ bs ck,PWc P ctx c Q { s with objs:=putO id (.map ks ag m bs ck) s.objs }):PWc P ctx c Q s:=
 PWc.openH hl fun bs ck=>PWc.sub (Sub.mapF (id:=id) (by show look (putO id _ _) id=_;rw[look_putO,if_pos rfl]) hn) (PWc.sub (Sub.same (t:={ s with objs:=putO id (.map ks ag m bs ck) s.objs }) rfl rfl fun i=>by
  show look (putO id _ (putO id _ _)) i=look (putO id _ _) i;rw[look_put2]) (h bs ck))
theorem Local.openH{o:Oper}{t:PState}(hl:look s.objs id=some (.mapH nl ks ag m))(h:∀ bs ck,Local P ctx o { s with objs:=putO id (.mapN nl ks ag m bs ck) s.objs } t):Local P ctx o s t:=fun a w hr K Qx hK=>by
 obtain⟨bs,ck,h2⟩:=Go.Ep.openH hl hr;exact h bs ck a w h2 K Qx hK
end
section
variable{P:Program}{ctx:Ctx}{Q:PQ}{s:PState}
variable{dst:Option Tmp}{ty:TypeId}{pos:String}{after:Array Edge}{gd:Option (Nat×Bool)}
variable{κ ν:Type}[DecidableEq κ]{eK:κ → List Int}{eV:ν → List DV}{m:List (κ×ν)}{q:κ}{zv:ν}(inj:∀ a b,eK a=eK b → a=b)
variable{x kx:Operand}{t kt et:TypeId}{ks:List IntKind}{ag:Bool}{z:Value}{p kp:PV}{id:Nat}{nl:Bool}{bs:List Nat}{ck:Nat}
section
variable(hu:P.underlying t=some (.map kt et))(K:KeyOK P kt ks)(hz:∀ w,(zeroValue et).run P w=.ok z w)(hzr:∀ (w:World) (g:Ghost) (S:Nat → Prop),Rd w g S (elP ag (eV zv)) z)(hk:s.ev kx=some kp)(hkp:kp=keyP ks (eK q))(hn:(eK q).length=ks.length)(hp:elP ag (eV (AL.getZ m q zv))=p)
include inj hu K hz hzr hk hkp hn hp
end
end
inductive JCs (nm:List Nat):List PV → List PV → Prop
 | nil:JCs nm [] []
 | keep {p:PV} {cs cs':List PV} (h:p.named nm=true) (t:JCs nm cs cs'):JCs nm (p::cs) (p::cs')
 | junk {p:PV} {cs cs':List PV} (t:JCs nm cs cs'):JCs nm (p::cs) (.junk::cs')
inductive JOb (nm:List Nat):Ob → Ob → Prop
 | same {o:Ob} (h:o.named nm=true):JOb nm o o
 | cells {T:TypeId} {cs cs':List PV} (h:JCs nm cs cs'):JOb nm (.cells T cs) (.cells T cs')
inductive JObs (nm:List Nat):List (Nat×Ob) → List (Nat×Ob) → Prop
 | nil:JObs nm [] []
 | cons {k:Nat} {o o':Ob} {F F':List (Nat×Ob)} (h:JOb nm o o') (t:JObs nm F F'):JObs nm ((k,o)::F) ((k,o')::F')
theorem JCs.len{nm:List Nat}{cs cs':List PV}(h:JCs nm cs cs'):cs'.length=cs.length:=by
 induction h with
 | nil=>rfl
 | keep _ _ ih=>simp[ih]
 | junk _ ih=>simp[ih]
theorem JCs.get{nm:List Nat}{cs cs':List PV}(h:JCs nm cs cs'):∀ (i:Nat) (p:PV),cs'[i]?=some p → p=.junk ∨ cs[i]?=some p:=by
 induction h with
 | nil=>intro i p h;simp at h
 | keep _ _ ih=>
  intro i p h
  cases i with
  | zero=>exact .inr (by simpa using h)
  | succ i=>simpa using ih i p (by simpa using h)
 | junk _ ih=>
  intro i p h
  cases i with
  | zero=>exact .inl (by simpa using h.symm)
  | succ i=>simpa using ih i p (by simpa using h)
theorem JCs.named{nm:List Nat}{cs cs':List PV}(h:JCs nm cs cs'):PV.named.namedL nm cs'=true:=by
 induction h with
 | nil=>rfl
 | keep h _ ih=>simp only[PV.named.namedL,h,ih,Bool.and_self]
 | junk _ ih=>simp only[PV.named.namedL,PV.named,ih,Bool.and_self]
theorem JOb.named{nm:List Nat}{o o':Ob}(h:JOb nm o o'):o'.named nm=true:=by
 cases h with
 | same h=>exact h
 | cells h=>exact h.named
theorem JObs.look{nm:List Nat}{F F':List (Nat×Ob)}(h:JObs nm F F'):∀ (id:Nat) (o':Ob),Go.Ep.look F' id=some o' → ∃ o,Go.Ep.look F id=some o ∧ JOb nm o o':=by
 induction h with
 | nil=>intro id o' h;simp[Go.Ep.look] at h
 | cons h _ ih=>
  intro id o' hl;simp only[Go.Ep.look] at hl ⊢
  split at hl
  ·rename_i e;cases hl;exact⟨_,by rw[if_pos e],h⟩
  ·rename_i e;rw[if_neg e];exact ih id o' hl
theorem OwnB.app{g:Ghost}{a b:List (Nat×Ob)}{k:Nat}(h:OwnB g (a++b) k):OwnB g a k ∨ OwnB g b k:=by
 obtain⟨id,o,n,h1,h2⟩:=h;rw[look_append] at h1
 cases hl:look a id with
 | none=>rw[hl,Option.none_or] at h1;exact .inr ⟨id,o,n,h1,h2⟩
 | some q=>rw[hl,Option.some_or] at h1;exact .inl ⟨id,q,n,hl,h2⟩
section
variable{ctx:Ctx}{s:PState}
inductive RSl (s:PState) (ρ:List (Nat×Nat)):List (Nat×PV) → Prop
 | nil:RSl s ρ []
 | cons {i:Nat} {p:PV} {r:List (Nat×PV)} (h:s.at i=some (p.ren ρ)) (t:RSl s ρ r):RSl s ρ ((i,p)::r)
theorem RSl.get{ρ:List (Nat×Nat)}{l:List (Nat×PV)}(h:RSl s ρ l):∀ i p,getS l i=some p → s.at i=some (p.ren ρ):=by
 induction h with
 | nil=>intro i p h;simp[getS] at h
 | cons h _ ih=>
  intro i p hl;rw[getS_cons] at hl
  split at hl
  ·rename_i e;subst e;cases hl;exact h
  ·exact ih i p hl
end
inductive LookIn (os':List (Nat×Ob)):List (Nat×Ob) → Prop
 | nil:LookIn os' []
 | cons {i:Nat} {o:Ob} {r:List (Nat×Ob)} (h:Go.Ep.look os' i=some o) (t:LookIn os' r):LookIn os' ((i,o)::r)
theorem LookIn.get{os' l:List (Nat×Ob)}(h:LookIn os' l):∀ i o,Go.Ep.look l i=some o → Go.Ep.look os' i=some o:=by
 induction h with
 | nil=>intro i o h;simp[Go.Ep.look] at h
 | cons h _ ih=>
  intro j o2 hl;simp only[Go.Ep.look] at hl
  split at hl
  ·rename_i e;subst e;cases hl;exact h
  ·exact ih j o2 hl
section
variable{P:Program}{ctx:Ctx}{Q:PState → Prop}{s:PState}{ops:Array Oper}{rest:List Oper}{fs:List Ft}{f:Ft}
variable{dst:Option Tmp}{ty:TypeId}{pos:String}{after:Array Edge}{gd:Option (Nat×Bool)}
end
section
variable{P:Program}{ctx:Ctx}{s:PState}
variable{dst:Option Tmp}{ty:TypeId}{pos:String}{after:Array Edge}{gd:Option (Nat×Bool)}
end
end Go.Ep
namespace Go.Ep
open Go.RowKit
theorem DRd0.mono{w:World}{z:Bool}{S S':Nat → Prop}(hS:∀ b,S b → S' b){x:DV}{u:Value}(h:DRd0 w z S x u):DRd0 w z S' x u:=h.keep ⟨Nat.le_refl _,fun _ _ _=>rfl⟩ fun b hb _=>hS b hb
def Plain(x:DV):Prop:=∀ (w:World) (S:Nat → Prop) (u:Value),DRd w S x u → DRd0 w false S x u
theorem Plain.v(x:Value):Plain (.v x):=fun w S u h=>by cases h with | v _ h=>exact .v x h
theorem Plain.sl{l:List (List DV)}(h:∀ cs∈l,∀ x∈cs,Plain x):Plain (.sl l):=fun w S u hd=>by
 cases hd with
 | nil a cap hc hn=>exact .nil a cap hc hn
 | sl _ b off cap k c hl hcap hs hb hkk hc hr=>
  exact .sl l b off cap k c hl hcap hs hb (fun h=>by cases h) hkk hc fun i cs j x hi hx=>h cs (List.mem_of_getElem? hi) x (List.mem_of_getElem? hx) _ _ _ (hr i cs j x hi hx)
theorem Plain.slm{α:Type}{enc:α → List DV}(h:∀ a,∀ x∈enc a,Plain x)(l:List α):Plain (.sl (l.map enc)):=.sl fun cs hcs x hx=>by
 obtain⟨a,_,rfl⟩:=List.mem_map.1 hcs;exact h a x hx
theorem DRd0.bound{w:World}{z:Bool}{S:Nat → Prop}{x:DV}{u:Value}(h:DRd0 w z S x u):DRd0 w z (fun b=>S b ∧ b < w.heap.size) x u:=by
 induction h with
 | v x h=>exact .v x h
 | nil a cap hc hn=>exact .nil a cap hc hn
 | sl l b off cap k c hl hcap hs hb hz hkk hc hr ih=>exact .sl l b off cap k c hl hcap ⟨hs,hb⟩ hb hz hkk hc ih
def MonoD(d:(Nat → Prop) → DV):Prop:=∀ (w:World) (S N N':Nat → Prop) (u:Value),(∀ b,N b → N' b) → DRd w S (d N) u → DRd w S (d N') u
theorem MonoD.nw(x:DV):MonoD fun N=>.nw N x:=fun w S N N' u hN h=>by
 cases h with
 | nw _ _ _ h=>exact .nw _ _ _ (h.mono fun b hb=>⟨hb.1,hN b hb.2⟩)
def MonoP(r:(Nat → Prop) → PV):Prop:=∀ (w:World) (g:Ghost) (S N N':Nat → Prop) (u:Value),(∀ b,N b → N' b) → Rd w g S (r N) u → Rd w g S (r N') u
theorem MonoP.d{x:(Nat → Prop) → DV}(h:MonoD x):MonoP fun N=>.d (x N):=fun w g S N N' u hN hr=>by
 cases hr with
 | d hd=>exact .d (h w S N N' u hN hd)
inductive MonoL : ((Nat → Prop) → List PV) → Prop
 | nil:MonoL fun _=>[]
 | cons {p:(Nat → Prop) → PV} {l:(Nat → Prop) → List PV} (h:MonoP p) (t:MonoL l):MonoL fun N=>p N::l N
theorem MonoL.get{l:(Nat → Prop) → List PV}(h:MonoL l):(∀ N N',(l N).length=(l N').length) ∧ ∀ (i:Nat),(∀ N,(l N)[i]?=none) ∨ ∃ p,MonoP p ∧ ∀ N,(l N)[i]?=some (p N):=by
 induction h with
 | nil=>exact⟨fun _ _=>rfl,fun i=>.inl fun N=>by simp⟩
 | cons h t ih=>
  refine⟨fun N N'=>by simp[ih.1 N N'],fun i=>?_⟩
  cases i with
  | zero=>exact .inr ⟨_,h,fun N=>by simp⟩
  | succ i=>
   rcases ih.2 i with h0 | ⟨p,hp,h1⟩
   ·exact .inl fun N=>by simpa using h0 N
   ·exact .inr ⟨p,hp,fun N=>by simpa using h1 N⟩
def PNew(P:Program)(f:FuncId)(ps:List PV)(r:(Nat → Prop) → PV):Prop:=∀ (w:World) (S:Nat → Prop),FunAt P f ps (r fun b=>w.heap.size ≤ b) w S
def newIn(ctx:Ctx):Nat → Prop:=fun b=>ctx.w0.heap.size ≤ b
theorem PNew.intro{P:Program}{f:FuncId}{fn:Func}{c:Code}{ps:List PV}{r:(Nat → Prop) → PV}{n:Nat}{sl:List (Nat×PV)}(hf:P.funcs[f]?=some fn)(hb:fn.body=some c)(hn:fn.ntmps=n)(hsl:args 0 ps=sl)(hpn:Nat.ble ps.length n=true)
  (body:∀ ctx:Ctx,(∀ b,ctx.K b → ctx.S b) → (∀ b,¬ ctx.K b) → PWc P ctx c (Ends P fn (r (newIn ctx))) ⟨n,sl,[]⟩):PNew P f ps r:=
 fun w S=>FunAt.intro hf hb hn hsl hpn (body ⟨w,S,fun _=>False⟩ (fun _ h=>h.elim) fun _ h=>h)
def flatL(l:List (List DV)):Prop:=∀ cs∈l,∀ x∈cs,∃ v,x=.v v
theorem flatL.map{α:Type}{enc:α → List DV}(h:∀ a,∀ x∈enc a,∃ v,x=.v v)(l:List α):flatL (l.map enc):=fun cs hcs x hx=>by
 obtain⟨a,_,rfl⟩:=List.mem_map.1 hcs;exact h a x hx
theorem RowRd.new{w:World}{S:Nat → Prop}{base:Nat}{e:TypeId}{k:Nat}{l:List (List DV)}{u:Value}(h:RowRd w S base e k l u)(hf:flatL l):DRd0 w true (fun b=>(S b ∨ base ≤ b) ∧ base ≤ b) (.sl l) u:=by
 cases h with
 | nil=>exact .nil none 0 (Nat.zero_le _) (fun _=>rfl)
 | row _ blk cap cur hb hh hlc hcap hcs hk hr=>
  refine .sl l blk 0 cap k (fun i j=>cur.getD (i*k+j) undef) hlc hcap ⟨.inr hb,hb⟩ (Array.getElem?_eq_some_iff.1 hh).1 (fun _=>⟨_,_,hh⟩) hk ?_ ?_
  ·intro i j hi hj;have hlt:i*k+j < cur.length:=by rw[hcs];exact idx_lt (by omega) hj
   rw[cell_of_heap hh];simp[hlt]
  ·intro i cs j x hi hx;obtain⟨u,hu,hd⟩:=hr i cs j x hi hx;have e:cur.getD (i*k+j) undef=u:=by simp[List.getD,hu]
   show DRd0 w true _ x (cur.getD (i*k+j) undef);rw[e];obtain⟨v,rfl⟩:=hf cs (List.mem_of_getElem? hi) x (List.mem_of_getElem? hx)
   cases hd with
   | v _ h=>exact .v _ h
theorem PRow.new{P:Program}{f:FuncId}{ps:List PV}{e:TypeId}{k:Nat}{l:List (List DV)}(h:PRow P f ps e k l)(hf:flatL l):PNew P f ps fun N=>.d (.nw N (.sl l)):=
 fun w S vs hl hv=>(h w S vs hl hv).mono fun _ _ ⟨u,he,hb,hr⟩=>⟨u,he,hb,.d (.nw _ _ _ (hr.new hf))⟩
section
variable{P:Program}{ctx:Ctx}{Q:PQ}{s:PState}
variable{dst:Option Tmp}{ty:TypeId}{pos:String}{after:Array Edge}{gd:Option (Nat×Bool)}
def Unm(N:Nat → Prop)(l l0:List (List DV)):Prop:=l.length=l0.length ∧ (∀ (i:Nat) (cs cs0:List DV),l[i]?=some cs → l0[i]?=some cs0 → cs.length=cs0.length) ∧
 ∀ (w:World) (S:Nat → Prop) (i j:Nat) (cs cs0:List DV) (x x0:DV) (u:Value),l[i]?=some cs → l0[i]?=some cs0 → cs[j]?=some x → cs0[j]?=some x0 → DRd w S x u → DRd0 w true (fun b=>S b ∧ N b) x0 u
theorem Unm.map{N:Nat → Prop}{α:Type}{encN enc:α → List DV}(hl:∀ a,(encN a).length=(enc a).length)(h:∀ (w:World) (S:Nat → Prop) (a:α) (j:Nat) (x x0:DV) (u:Value),(encN a)[j]?=some x → (enc a)[j]?=some x0 → DRd w S x u → DRd0 w true (fun b=>S b ∧ N b) x0 u)(l:List α):Unm N (l.map encN) (l.map enc):=by
 refine⟨by simp,fun i cs cs0 h1 h2=>?_,fun w S i j cs cs0 x x0 u h1 h2 h3 h4 h5=>?_⟩
 ·rw[List.getElem?_map] at h1 h2
  cases ha:l[i]? with
  | none=>simp[ha] at h1
  | some a=>simp[ha] at h1 h2;subst h1 h2;exact hl a
 ·rw[List.getElem?_map] at h1 h2
  cases ha:l[i]? with
  | none=>simp[ha] at h1
  | some a=>simp[ha] at h1 h2;subst h1 h2;exact h w S a j x x0 u h3 h4 h5
end
end Go.Ep
namespace Go.Ep
open Go.RowKit
section
variable{P:Program}{ctx:Ctx}{ops:Array Oper}
theorem cont_ext{β:Type}:∀ {l l':List (Option β)} {E:Nat → Bool} {b:Nat} {c:Option β},l.length=l'.length → (∀ j,E (b+j)=true → l[j]?=l'[j]?) → cont l E b c=cont l' E b c
 | [],[],_,_,_,_,_=>rfl
 | [],_::_,_,_,_,hl,_=>by cases hl
 | _::_,[],_,_,_,hl,_=>by cases hl
 | x::r,x'::r',E,b,c,hl,h=>by
  unfold cont;have h1:(bif E b then x.or c else c)=(bif E b then x'.or c else c):=by
   cases hb:E b with
   | false=>rfl
   | true=>have:=h 0 (by simpa using hb);simp at this;rw[this]
  rw[h1];exact cont_ext (by simpa using hl) fun j hj=>by have:=h (j+1) (by rw[← hj];congr 1;omega);simpa using this
theorem InvE.congr{s0 s:PState}{es es':List Ef}{E:Nat → Bool}(hl:es.length=es'.length)(he:∀ j,E j=true → es[j]?=es'[j]?)(h:InvE s0 es E s):InvE s0 es' E s:=by
 refine⟨h.n,fun t=>?_,fun id=>?_,fun x hx=>?_,fun x hx=>?_⟩
 ·rw[h.sl];exact cont_ext (by simp[hl]) fun j hj=>by rw[Nat.zero_add] at hj;simp[he j hj]
 ·rw[h.ob];exact cont_ext (by simp[hl]) fun j hj=>by rw[Nat.zero_add] at hj;simp[he j hj]
 ·rcases h.ms x hx with h1 | ⟨j,e,h1,h2,h3⟩
  ·exact .inl h1
  ·exact .inr ⟨j,e,h1,by rw[← he j h1];exact h2,h3⟩
 ·rcases h.mo x hx with h1 | ⟨j,e,h1,h2,h3⟩
  ·exact .inl h1
  ·exact .inr ⟨j,e,h1,by rw[← he j h1];exact h2,h3⟩
variable(P ctx ops) in
inductive RunH (i3:Nat):Nat → List Oper → List Ft → PState → List Ef → PState → Prop
 | nil {b:Nat} {s:PState}:RunH i3 b [] [] s [] s
 | cons {b:Nat} {o:Oper} {rest:List Oper} {f:Ft} {fs:List Ft} {s t:PState} {e:Ef} {es:List Ef} (y:b=i3 ∨ Does P ctx ops o s f e) (hk:okE f e=true) (h:RunH i3 (b+1) rest fs (s.app e) es t):RunH i3 b (o::rest) (f::fs) s (e::es) t
theorem RunH.at_{i3:Nat}:∀ {rest:List Oper} {fs:List Ft} {s t s0:PState} {es pre all:List Ef} {b:Nat},RunH P ctx ops i3 b rest fs s es t → all=pre++es → pre.length=b → InvE s0 all (fun j=>decide (j < b)) s →
  (∀ (i:Nat) (o:Oper) (f:Ft),b+i≠i3 → rest[i]?=some o → fs[i]?=some f → ∃ S e,all[b+i]?=some e ∧ InvE s0 all (fun j=>decide (j < b+i)) S ∧ Does P ctx ops o S f e) ∧ InvE s0 all (fun j=>decide (j < b+rest.length)) t:=by
 intro rest
 induction rest with
 | nil=>
  intro fs s t s0 es pre all b h _ _ hh
  cases h
  exact⟨by simp,by simpa using hh⟩
 | cons o rest ih=>
  intro fs s t s0 es pre all b h hall hb hh
  cases h with
  | @cons _ _ _ f fs _ _ e es y _ h=>
   have he:all[b]?=some e:=by subst hall;subst hb;simp
   have hst:InvE s0 all (fun j=>decide (j < b+1)) (s.app e):=hh.step he (by simp) (by simp) (fun j hj=>by
    have:(j < b+1)=(j < b):=by apply propext;omega
    simp only[this]) (fun j _ hj _ hE=>by simp at hE;omega) (fun j _ hj _ hE=>by simp at hE;omega)
   obtain⟨h1,h2⟩:=ih (b:=b+1) (pre:=pre++[e]) h (by simp[hall]) (by simp[hb]) hst;refine⟨fun i o' f' hne ho hf=>?_,by rw[List.length_cons,show b+(rest.length+1)=b+1+rest.length by omega];exact h2⟩
   cases i with
   | zero=>
    simp at ho hf;subst ho;subst hf;rcases y with y | y
    ·exact(hne (by simpa using y)).elim
    ·exact⟨s,e,he,hh,y⟩
   | succ i=>
    simp at ho hf;obtain⟨S,q,e1,e2,e3⟩:=h1 i o' f' (by omega) ho hf;exact⟨S,q,by rw[← e1];congr 1;omega,by rw[show b+(i+1)=b+1+i by omega];exact e2,e3⟩
section
variable{s:PState}{o:Oper}{f:Ft}
end
end
end Go.Ep
namespace Go.Ep
open Go.RowKit
theorem Shp.trans{x y z:DV}(h:Shp x y):Shp y z → Shp x z:=by
 induction h generalizing z with
 | eq x=>exact id
 | int k a b=>intro h2;cases h2 with
  | eq=>exact .int k a b
  | int _ _ c=>exact .int k a c
 | str a b=>intro h2;cases h2 with
  | eq=>exact .str a b
  | str _ c=>exact .str a c
 | sl l l' hl hk h ih=>
  intro h2
  cases h2 with
  | eq=>exact .sl l l' hl hk h
  | sl _ l2 hl2 hk2 h2=>
   refine .sl l l2 (hl.trans hl2) (fun i cs cs2 h1 h3=>?_) (fun i j cs cs2 x x2 h1 h3 h4 h5=>?_)
   ·have hi:i < l'.length:=by have:=(List.getElem?_eq_some_iff.1 h1).1;omega
    exact(hk i cs _ h1 (List.getElem?_eq_getElem hi)).trans (hk2 i _ cs2 (List.getElem?_eq_getElem hi) h3)
   ·have hi:i < l'.length:=by have:=(List.getElem?_eq_some_iff.1 h1).1;omega
    have hj:j < l'[i].length:=by rw[← hk i cs _ h1 (List.getElem?_eq_getElem hi)];exact(List.getElem?_eq_some_iff.1 h4).1
    exact ih i j cs _ x _ h1 (List.getElem?_eq_getElem hi) h4 (List.getElem?_eq_getElem hj) (h2 i j _ cs2 _ x2 (List.getElem?_eq_getElem hi) h3 (List.getElem?_eq_getElem hj) h5)
structure Spoils(w w':World)(b o:Nat)(v v':Value):Prop where
 size:w'.heap.size=w.heap.size
 other:∀ k,k≠b → w'.heap[k]?=w.heap[k]?
 kept:∀ cur T,w.heap[b]?=some (.cells cur T (0,0)) → ∃ cur',w'.heap[b]?=some (.cells cur' T (0,0))
 cell:w.cell? ⟨b,o,none⟩=some v
 cell':w'.cell? ⟨b,o,none⟩=some v'
 rest:∀ o',o'≠o → w'.cell? ⟨b,o',none⟩=w.cell? ⟨b,o',none⟩
 kind:(∃ k m n,v=.int k m ∧ v'=.int k n) ∨ ∃ m n,v=.string m ∧ v'=.string n
theorem Spoils.at_{w w':World}{b o:Nat}{v v':Value}(h:Spoils w w' b o v v')(b' o':Nat):w'.cell? ⟨b',o',none⟩=if b'=b ∧ o'=o then some v' else w.cell? ⟨b',o',none⟩:=by
 by_cases hb:b'=b
 ·subst hb
  by_cases ho:o'=o
  ·subst ho;rw[if_pos ⟨rfl,rfl⟩];exact h.cell'
  ·rw[if_neg (fun hh=>ho hh.2)];exact h.rest o' ho
 ·rw[if_neg (fun hh=>hb hh.1)];exact World.cell?_of_block (h.other b' hb)
theorem Spoils.one{w w':World}{b o:Nat}{v v':Value}(h:Spoils w w' b o v v'){S:Nat → Prop}{x:DV}(hd:DRd0 w true S x v):∃ x',Shp x x' ∧ DRd0 w' true S x' v':=by
 rcases h.kind with⟨k,m,n,rfl,rfl⟩ | ⟨m,n,rfl,rfl⟩
 ·cases hd with
  | v _ _=>exact⟨_,.int k m n,.v _ rfl⟩
 ·cases hd with
  | v _ _=>exact⟨_,.str m n,.v _ rfl⟩
theorem Spoils.data{w w':World}{b o:Nat}{v v':Value}(h:Spoils w w' b o v v'){S:Nat → Prop}{x:DV}{u:Value}(hd:DRd0 w true S x u):∃ x',Shp x x' ∧ DRd0 w' true S x' u:=by
 induction hd with
 | v x hx=>exact⟨_,.eq _,.v x hx⟩
 | nil a cap hc hn=>exact⟨_,.eq _,.nil a cap hc hn⟩
 | sl l b' off cap k c hl hcap hs hb hz hkk hc hr ih=>
  let c':Nat → Nat → Value:=fun i j=>if b'=b ∧ off+(i*k+j)=o then v' else c i j
  have key:∀ (i:Nat) (cs:List DV) (j:Nat) (x:DV),l[i]?=some cs → cs[j]?=some x → ∃ x',Shp x x' ∧ DRd0 w' true S x' (c' i j):=by
   intro i cs j x hi hj;show ∃ x',Shp x x' ∧ DRd0 w' true S x' (if b'=b ∧ off+(i*k+j)=o then v' else c i j)
   by_cases e:b'=b ∧ off+(i*k+j)=o
   ·rw[if_pos e];have hlt:i < l.length:=(List.getElem?_eq_some_iff.1 hi).1;have hjk:j < k:=by rw[← hkk i cs hi];exact(List.getElem?_eq_some_iff.1 hj).1
    have h1:=hc i j hlt hjk;obtain⟨e1,e2⟩:=e;subst e1;rw[e2,h.cell] at h1
    cases h1
    exact h.one (hr i cs j x hi hj)
   ·rw[if_neg e];exact ih i cs j x hi hj
  let F:Nat → Nat → DV → DV:=fun i j x=>Classical.epsilon fun x'=>Shp x x' ∧ DRd0 w' true S x' (c' i j)
  let l':List (List DV):=l.mapIdx fun i cs=>cs.mapIdx fun j x=>F i j x
  have hg:∀ (i:Nat) (cs':List DV),l'[i]?=some cs' → ∃ cs,l[i]?=some cs ∧ cs'=cs.mapIdx fun j x=>F i j x:=by
   intro i cs' hi;simp only[l',List.getElem?_mapIdx] at hi
   cases hh:l[i]? with
   | none=>rw[hh] at hi;cases hi
   | some cs=>rw[hh] at hi;simp at hi;exact⟨cs,rfl,hi.symm⟩
  have hF:∀ (i:Nat) (cs:List DV) (j:Nat) (x x':DV),l[i]?=some cs → cs[j]?=some x → (cs.mapIdx fun j x=>F i j x)[j]?=some x' → Shp x x' ∧ DRd0 w' true S x' (c' i j):=by
   intro i cs j x x' hi hj hx;rw[List.getElem?_mapIdx,hj] at hx;simp only[Option.map_some,Option.some.injEq] at hx;subst hx;have hk:=key i cs j x hi hj;exact Classical.epsilon_spec (p:=fun x'=>Shp x x' ∧ DRd0 w' true S x' (c' i j)) hk
  have hll:l'.length=l.length:=by simp[l']
  refine⟨.sl l',.sl l l' hll.symm (fun i cs cs' h1 h2=>?_) (fun i j cs cs' x x' h1 h2 h3 h4=>?_),?_⟩
  ·obtain⟨cs0,h3,rfl⟩:=hg i cs' h2;rw[h1] at h3;cases h3;simp
  ·obtain⟨cs0,h5,rfl⟩:=hg i cs' h2;rw[h1] at h5;cases h5;exact(hF i cs j x x' h1 h3 h4).1
  ·rw[← hll];refine .sl l' b' off cap k c' (by omega) hcap hs (by rw[h.size];exact hb) (fun _=>?_) (fun i cs' hi=>?_) (fun i j hi hj=>?_) (fun i cs' j x' hi hx=>?_)
   ·obtain⟨cur,T,hh⟩:=hz rfl
    by_cases e:b'=b
    ·subst e;obtain⟨cur',hh'⟩:=h.kept cur T hh;exact⟨cur',T,hh'⟩
    ·exact⟨cur,T,by rw[h.other b' e];exact hh⟩
   ·obtain⟨cs0,h3,rfl⟩:=hg i cs' hi;simp[hkk i cs0 h3]
   ·rw[h.at_];show _=some (if b'=b ∧ off+(i*k+j)=o then v' else c i j)
    by_cases e:b'=b ∧ off+(i*k+j)=o
    ·rw[if_pos e,if_pos e]
    ·rw[if_neg e,if_neg e];exact hc i j (by omega) hj
   ·obtain⟨cs0,h3,rfl⟩:=hg i cs' hi;rw[List.getElem?_mapIdx] at hx
    cases hx0:cs0[j]? with
    | none=>rw[hx0] at hx;cases hx
    | some x0=>
     exact(hF i cs0 j x0 x' h3 hx0 (by rw[List.getElem?_mapIdx];exact hx)).2
section
variable{P:Program}{ctx:Ctx}{Q:PQ}{s:PState}
variable{dst:Option Tmp}{ty:TypeId}{pos:String}{after:Array Edge}{gd:Option (Nat×Bool)}
end
inductive FL : ((DV → DV) → List DV) → Prop
 | nil:FL fun _=>[]
 | v {F:(DV → DV) → List DV} (x:Value) (t:FL F):FL fun f=>.v x::F f
 | f {F:(DV → DV) → List DV} (y:DV) (t:FL F):FL fun f=>f y::F f
theorem FL.get{F:(DV → DV) → List DV}(h:FL F):(∀ f f',(F f).length=(F f').length) ∧ ∀ i:Nat,(∀ f,(F f)[i]?=none) ∨ (∃ x,∀ f,(F f)[i]?=some (.v x)) ∨ ∃ y,∀ f,(F f)[i]?=some (f y):=by
 induction h with
 | nil=>exact⟨fun _ _=>rfl,fun i=>.inl fun _=>by simp⟩
 | v x t ih=>
  refine⟨fun f f'=>by simp[ih.1 f f'],fun i=>?_⟩
  cases i with
  | zero=>exact .inr (.inl ⟨x,fun _=>by simp⟩)
  | succ i=>
   rcases ih.2 i with h | ⟨y,h⟩ | ⟨y,h⟩
   ·exact .inl fun f=>by simpa using h f
   ·exact .inr (.inl ⟨y,fun f=>by simpa using h f⟩)
   ·exact .inr (.inr ⟨y,fun f=>by simpa using h f⟩)
 | f y t ih=>
  refine⟨fun f f'=>by simp[ih.1 f f'],fun i=>?_⟩
  cases i with
  | zero=>exact .inr (.inr ⟨y,fun _=>by simp⟩)
  | succ i=>
   rcases ih.2 i with h | ⟨z,h⟩ | ⟨z,h⟩
   ·exact .inl fun f=>by simpa using h f
   ·exact .inr (.inl ⟨z,fun f=>by simpa using h f⟩)
   ·exact .inr (.inr ⟨z,fun f=>by simpa using h f⟩)
def oldB(B:Nat):Nat → Prop:=fun b=>b < B
theorem FL.obj{F:(DV → DV) → List DV}(hF:FL F){w w':World}{g g':Ghost}{S S':Nat → Prop}{id blk n:Nat}{T:TypeId}{f f':DV → DV}(h:ObRd w g S id (.cells T ((F f).map .d)))(hg:g id=some (blk,n))(hg':g' id=some (blk,n))(hh:w'.heap[blk]?=w.heap[blk]?)
  (hf:∀ y u,DRd w S (f y) u → DRd w' S' (f' y) u):ObRd w' g' S' id (.cells T ((F f').map .d)):=by
 cases h with
 | cells _ _ blk' n' us h1 h2 h3 h4 h5=>
  rw[hg] at h1
  cases h1
  refine .cells T _ blk n us hg' (by rw[hh];exact h2) (by rw[← h3];simp[hF.get.1 f' f]) (fun i p u hp hu=>?_) h5;rw[List.getElem?_map] at hp;rcases hF.get.2 i with h | ⟨x,h⟩ | ⟨y,h⟩
  ·rw[h] at hp;cases hp
  ·rw[h] at hp;cases hp;have:=h4 i (.d (.v x)) u (by rw[List.getElem?_map,h];rfl) hu
   cases this with
   | d hd=>cases hd with | v _ h6=>exact .d (.v _ h6)
  ·rw[h] at hp;cases hp;have:=h4 i (.d (f y)) u (by rw[List.getElem?_map,h];rfl) hu
   cases this with
   | d hd=>exact .d (hf y u hd)
theorem cells_g{w:World}{g:Ghost}{S:Nat → Prop}{id:Nat}{T:TypeId}{cs:List PV}(h:ObRd w g S id (.cells T cs)):∃ blk n,g id=some (blk,n):=by
 cases h with
 | cells _ _ blk n _ h=>exact⟨blk,n,h⟩
end Go.Ep
namespace Go.Ep
open Go.RowKit
theorem old_of{w:World}{S:Nat → Prop}{y:DV}(hp:Plain y){u:Value}(h:DRd w S y u):DRd w S (.od (oldB w.heap.size) y) u:=
 .od _ _ _ ((hp w S u h).bound.mono fun b hb=>⟨hb.1,hb.2⟩)
theorem DRd.unod{w:World}{S N:Nat → Prop}{x:DV}{u:Value}(h:DRd w S (.od N x) u):DRd w S x u:=by
 cases h with
 | od _ _ _ h=>exact(h.mono fun _ hb=>hb.1).up
section
variable{P:Program}{ctx:Ctx}
theorem free_putO{g:Ghost}{objs:List (Nat×Ob)}{id:Nat}{o o':Ob}(h:look objs id=some o){b:Nat}:Free ctx g (putO id o' objs) b↔Free ctx g objs b:=by
 have key:∀ j,(∃ q,look (putO id o' objs) j=some q)↔∃ q,look objs j=some q:=fun j=>by
  rw[look_putO]
  by_cases e:j=id
  ·subst e;rw[if_pos rfl,h];simp
  ·rw[if_neg e]
 unfold Free
 constructor
 ·rintro⟨h1,h2⟩;exact⟨h1,fun j q m hq hg=>let ⟨q',hq'⟩:=(key j).2 ⟨q,hq⟩;h2 j q' m hq' hg⟩
 ·rintro⟨h1,h2⟩;exact⟨h1,fun j q m hq hg=>let ⟨q',hq'⟩:=(key j).1 ⟨q,hq⟩;h2 j q' m hq' hg⟩
end
end Go.Ep
namespace Go.Ep
open Go.RowKit
def flatD(l:List (List Value)):List (List DV):=l.map fun cs=>cs.map DV.v
theorem flatD_get{l:List (List Value)}{i:Nat}{cs:List DV}(h:(flatD l)[i]?=some cs):∃ vs,l[i]?=some vs ∧ cs=vs.map .v:=by
 unfold flatD at h;rw[List.getElem?_map] at h
 cases hi:l[i]? with
 | none=>rw[hi] at h;cases h
 | some vs=>rw[hi] at h;exact⟨vs,rfl,by simpa using h.symm⟩
theorem DRd.unrw{w:World}{S M:Nat → Prop}{e:TypeId}{k:Nat}{l:List (List Value)}{u:Value}(h:DRd w S (.rw M e k l) u):DRd w S (.sl (flatD l)) u:=by
 cases h with
 | rwNil=>exact .nil none 0 (Nat.zero_le _) (fun _=>rfl)
 | rw _ _ _ _ blk cap cur hS hM hb hh hlc hcap hcs hk hr=>
  have hl:(flatD l).length=l.length:=by simp[flatD]
  have:=DRd.sl (w:=w) (S:=S) (flatD l) blk 0 cap k (fun i j=>cur.getD (i*k+j) undef) (by rw[hl];exact hlc) hcap hS hb (fun i cs hi=>by
   obtain⟨vs,h1,rfl⟩:=flatD_get hi;rw[List.length_map];exact hk i vs h1) (fun i j hi hj=>by
   rw[hl] at hi;have hlt:i*k+j < cur.length:=by rw[hcs];exact idx_lt (by omega) hj
   rw[cell_of_heap hh];simp[hlt]) (fun i cs j x hi hx=>by
   obtain⟨vs,h1,rfl⟩:=flatD_get hi;rw[List.getElem?_map] at hx
   cases hv:vs[j]? with
   | none=>rw[hv] at hx;cases hx
   | some y=>
    rw[hv] at hx
    cases hx
    obtain⟨h2,h3⟩:=hr i vs j y h1 hv;have e:cur.getD (i*k+j) undef=y:=by simp[List.getD,h2]
    show DRd w S (.v y) (cur.getD (i*k+j) undef);rw[e];exact .v y h3)
  rw[hl] at this;exact this
def InjB(B:Nat)(β:Nat → Option Nat):Prop:=(∀ i j b,i≠j → β i=some b → β j≠some b) ∧ ∀ i b,β i=some b → B ≤ b
theorem InjB.none{B:Nat}:InjB B fun _=>none:=⟨fun _ _ _ _ h=>(by cases h),fun _ _ h=>(by cases h)⟩
def updB(β:Nat → Option Nat)(i:Nat)(x:Option Nat):Nat → Option Nat:=fun j=>if j < i then β j else if j=i then x else none
theorem InjB.upd{B:Nat}{β:Nat → Option Nat}(h:InjB B β){i:Nat}{x:Option Nat}(hB:∀ b,x=some b → B ≤ b)(hx:∀ j b,j < i → x=some b → β j≠some b):InjB B (updB β i x):=by
 refine⟨fun p q b hpq hp=>?_,fun p b hp=>?_⟩
 ·unfold updB at hp ⊢
  by_cases p1:p < i
  ·rw[if_pos p1] at hp
   by_cases q1:q < i
   ·rw[if_pos q1];exact h.1 p q b hpq hp
   ·rw[if_neg q1]
    by_cases q2:q=i
    ·rw[if_pos q2];exact fun e=>hx p b p1 e hp
    ·rw[if_neg q2];simp
  ·rw[if_neg p1] at hp
   by_cases p2:p=i
   ·rw[if_pos p2] at hp
    by_cases q1:q < i
    ·rw[if_pos q1];exact hx q b q1 hp
    ·rw[if_neg q1,if_neg (by omega)];simp
   ·rw[if_neg p2] at hp;cases hp
 ·unfold updB at hp
  by_cases p1:p < i
  ·rw[if_pos p1] at hp;exact h.2 p b hp
  ·rw[if_neg p1] at hp
   by_cases p2:p=i
   ·rw[if_pos p2] at hp;exact hB b hp
   ·rw[if_neg p2] at hp;cases hp
def PRowB(P:Program)(f:FuncId)(ps:List PV)(e:TypeId)(k:Nat)(l:(Nat → Option Nat) → List (List DV)):Prop:=
 ∀ (w:World) (S:Nat → Prop) (vs:List Value),ps.length=vs.length → (∀ (i:Nat) (p:PV) (v:Value),ps[i]?=some p → vs[i]?=some v → Rd w g0 S p v) →
  Calls P f vs.toArray w (fun en w'=>∃ u β,InjB w.heap.size β ∧ en=.returned u ∧ Below w.heap.size w w' ∧ RowRd w' S w.heap.size e k (l β) u)
theorem PRowB.intro{P:Program}{f:FuncId}{fn:Func}{c:Code}{ps:List PV}{e:TypeId}{k:Nat}{l:(Nat → Option Nat) → List (List DV)}{n:Nat}{sl:List (Nat×PV)}(hf:P.funcs[f]?=some fn)(hb:fn.body=some c)(hn:fn.ntmps=n)(hsl:args 0 ps=sl)(hpn:Nat.ble ps.length n=true)
  (body:∀ ctx:Ctx,(∀ b,ctx.K b → ctx.S b) → (∀ b,¬ ctx.K b) → PWc P ctx c (fun en s=>∃ β,InjB ctx.w0.heap.size β ∧ EndsRow fn e k (l β) en s) ⟨n,sl,[]⟩):PRowB P f ps e k l:=by
 intro w S vs hlen hreal
 let ctx:Ctx:=⟨w,S,fun _=>False⟩
 have hK:∀ b,¬ ctx.K b:=fun _ h=>h
 refine calls_of_wp hf hb ?_;subst hsl;have hrel:RelG ctx g0 ⟨n,args 0 ps,[]⟩ { tmps:=vs.toArray++Array.replicate (fn.ntmps - vs.toArray.size) undef,defers:=[] } w:=by
  rw[hn];exact rel_args hlen hreal (by rw[← hlen];exact Nat.le_of_ble_eq_true hpn)
 refine wp_mono (body ctx (fun _ h=>h.elim) hK _ w ⟨g0,hrel⟩) fun en a' w' ⟨s,⟨β,hβ,he,t,hres,hcase⟩,g,hg⟩=>?_
 have hbel:Below w.heap.size w w':=⟨hg.os,hg.tape,hg.output,hg.grows,fun k hk=>hg.keep k hk (hK k)⟩
 have main:a'.defers=[] ∧ ∃ v,(results fn a'.tmps).run P w'=.ok v w' ∧ (∃ u β,InjB w.heap.size β ∧ Ending.returned v=.returned u ∧ Below w.heap.size w w' ∧ RowRd w' S w.heap.size e k (l β) u):=by
  refine⟨hg.defers,_,results_tmp hres _ _ _,_,β,hβ,rfl,hbel,?_⟩
  generalize l β=l0 at hcase
  rcases hcase with⟨rfl,hs⟩ | ⟨id,m,hs,hlm,hl⟩
  ·have:=(hg.slots t _ hs).of_v;rw[this];exact .nil
  ·have hr:=hg.slots t _ hs
   generalize hv:a'.tmps.getD t undef=v at hr
   cases hg.objs id _ hl with
   | rowNil _ _ hgn=>
    cases hr with
    | row _ _ blk cap hgi=>rw[hgn] at hgi;cases hgi
    | rowNil=>exact .nil
   | row _ _ _ blk' cap' cur hgi hh hlc hcap hcs hkk hr'=>
    cases hr with
    | rowNil _ hgn=>rw[hgn] at hgi;cases hgi
    | row _ _ blk cap hgi'=>
     rw[hgi] at hgi'
     cases hgi'
     subst hlm;have hown:=hg.own id _ blk' cap' hl hgi;refine .row l0 blk' cap' cur (hown.2.resolve_right (hK _)) hh hlc hcap hcs hkk fun i cs j x hi hx=>?_
     obtain⟨u,hu,hd⟩:=hr' i cs j x hi hx;exact⟨u,hu,hd.keep ⟨Nat.le_refl _,fun _ _ _=>rfl⟩ fun b ⟨h1,h2⟩ _=>⟨h1,fun eb=>by subst eb;exact h2 id _ cap' hl hgi⟩⟩
 rcases he with rfl | rfl
 ·exact main
 ·exact main
section
variable{P:Program}{ctx:Ctx}{Q:PQ}{s:PState}
theorem PWc.loopI{σ ρ G:Type}{c:Code}{body:σ → M (M.Step σ ρ)}{s0:σ}{R:ρ → Prop}(inv:σ → Prop)(hi:inv s0)(J:σ → G → PState)(g0:G)(h:(M.loop body s0).wp R)(hs:Sub ctx s (J s0 g0))
  (round:∀ (N:σ → Prop) (x:σ) (g:G),inv x → (body x).wp (M.Step.post N R) → PWc P ctx c (Then (fun t=>∃ y g',inv y ∧ N y ∧ Sub ctx t (J y g')) Q) (J x g)):PWc P ctx (.loop c) Q s:=by
 intro a w hr;refine LoopAt.loop ?_;have key:inv s0 → ∀ g a w,Rel ctx (J s0 g) a w → LoopAt P c (lift ctx Q) a w:=by
  refine h (fun x=>inv x → ∀ g a w,Rel ctx (J x g) a w → LoopAt P c (lift ctx Q) a w) fun x hx hi g a w hr=>?_
  refine LoopAt.step (wp_mono (round _ x g hi hx a w hr) fun e a' w' ⟨t,h1,h2⟩=>?_)
  cases e with
  | normal=>
   obtain⟨y,g',hi',hy,hsub⟩:=h1;exact hy hi' g' a' w' (hsub a' w' h2)
  | _=>exact⟨t,h1,h2⟩
 exact key hi g0 a w (hs a w hr)
theorem markS{g:Ghost}{a:Act}{w:World}{t:Nat}{y:DV}(hp:Plain y)(h:s.at t=some (.d y))(hg:RelG ctx g s a w):RelG ctx g (s.put t (.d (.od (oldB w.heap.size) y))) a w:=
 ⟨hg.defers,hg.size,fun i p hi=>by
  rcases put_at s t _ i p hi with⟨rfl,rfl⟩ | ⟨_,h2⟩
  ·have:=hg.slots t _ h;show Rd w g (Free ctx g s.objs) _ _
   generalize a.tmps.getD t undef=v at this
   cases this with
   | d hd=>exact .d (old_of hp hd)
  ·exact hg.slots i p h2,hg.objs,hg.inj,hg.own,hg.os,hg.tape,hg.output,hg.grows,hg.keep⟩
theorem callRowAt{ops:Array Oper}{rest:List Oper}{id:Nat}{ty:TypeId}{pos:String}{after:Array Edge}{x:Operand}{xs:List Operand}{ats:Array TypeId}{f:FuncId}{ps:List PV}{e:TypeId}{k:Nat}{l:(Nat → Option Nat) → List (List DV)}(hc:PRowB P f ps e k l)
  {a:Act} {w:World} {g:Ghost} (hg:RelG ctx g s a w) (hx:s.ev x=some (.d (.v (.func (.func f) #[] #[])))) (he:∀ args w,(callFunc f args).run P w=.ok (.enter f args) w)
  (hps:s.evs xs=some ps) (hd:PV.isData.isDataL ps=true) (hf:s.fresh id=true)
  (h:∀ β,InjB w.heap.size β → PWl P ctx ops Q rest (s.newO id (.row e k (l β)) (.row id (l β).length))):wpList P ops (lift ctx Q) (⟨some id,.call ⟨.value x,xs.toArray,ats⟩,ty,pos,after,none⟩::rest) a w:=by
 obtain⟨hlen,hreal⟩:=evs_real hps hd hg;refine wpList_plain (o:=⟨some id,.call ⟨.value x,xs.toArray,ats⟩,ty,pos,after,none⟩) rfl fun K hK2=>?_
 unfold Oper.wp;rw[exec_call (o:=⟨some id,.call ⟨.value x,xs.toArray,ats⟩,ty,pos,after,none⟩) rfl (ev_v hg hx) he w,List.map_toArray];refine(hc w (Free ctx g s.objs) _ hlen hreal).mono fun en w' ⟨u,β,hβ,he,hb,hru⟩=>?_
 subst he;refine hK2 _ _ (h β hβ _ _ ?_)
 generalize l β=l0 at hru
 cases hru with
 | nil=>exact⟨upd g id none,(hg.new hb hf none (fun b n e=>by cases e) (.row e k []) (.rowNil e k (upd_same _ _ _))).put (some id) (.rowNil id (upd_same _ _ _))⟩
 | row _ blk cap cur hbase hh hlc hcap hcs hk hr=>
  have hlt:blk < w'.heap.size:=(Array.getElem?_eq_some_iff.1 hh).1;refine⟨upd g id (some (blk,cap)),(hg.new hb hf (some (blk,cap)) (fun b n e=>by cases e;exact⟨hbase,hlt⟩) (.row e k l0) ?_).put (some id) (.row id _ blk cap (upd_same _ _ _))⟩;refine .row e k l0 blk cap cur (upd_same _ _ _) hh hlc hcap hcs hk fun i cs j x hi hx=>?_
  obtain⟨u,hu,hd⟩:=hr i cs j x hi hx;refine⟨u,hu,hd.keep ⟨Nat.le_refl _,fun _ _ _=>rfl⟩ fun b ⟨h1,h2⟩ hblt=>?_⟩;have hfr:=free_new hg h1;refine⟨hfr.1,fun j o m hj hgj=>?_⟩;rw[look_putO] at hj
  by_cases ej:j=id
  ·subst ej;rw[upd_same] at hgj;cases hgj;exact h2 rfl
  ·rw[if_neg ej] at hj;rw[upd_ne ej] at hgj;exact hfr.2 j o m hj hgj
theorem PWl.callRowB{ops:Array Oper}{rest:List Oper}{id:Nat}{ty:TypeId}{pos:String}{after:Array Edge}{x:Operand}{xs:List Operand}{ats:Array TypeId}{f:FuncId}{ps:List PV}{e:TypeId}{k:Nat}{l:(Nat → Option Nat) → List (List DV)}{t1 t2:Nat}{y1 y2:DV}(hc:PRowB P f ps e k l)
  (p1:Plain y1) (h1:s.at t1=some (.d y1)) (p2:Plain y2) (h2:∀ p,(s.put t1 p).at t2=some (.d y2)) (hx:∀ p q,((s.put t1 p).put t2 q).ev x=some (.d (.v (.func (.func f) #[] #[])))) (he:∀ args w,(callFunc f args).run P w=.ok (.enter f args) w)
  (hps:∀ p q,((s.put t1 p).put t2 q).evs xs=some ps) (hd:PV.isData.isDataL ps=true) (hf:∀ p q:DV,((s.put t1 (.d p)).put t2 (.d q)).fresh id=true)
  (h:∀ B β,ctx.w0.heap.size ≤ B → InjB B β → PWl P ctx ops Q rest (((s.put t1 (.d (.od (oldB B) y1))).put t2 (.d (.od (oldB B) y2))).newO id (.row e k (l β)) (.row id (l β).length))):PWl P ctx ops Q (⟨some id,.call ⟨.value x,xs.toArray,ats⟩,ty,pos,after,none⟩::rest) s:=
 fun a w ⟨g,hg⟩=>callRowAt hc (markS p2 (h2 _) (markS p1 h1 hg)) (hx _ _) he (hps _ _) hd (hf _ _) fun β hβ=>h w.heap.size β hg.grows hβ
theorem PFun.intro0{f:FuncId}{fn:Func}{c:Code}{ps:List PV}{r:PV}{n:Nat}{sl:List (Nat×PV)}(hf:P.funcs[f]?=some fn)(hb:fn.body=some c)(hn:fn.ntmps=n)(hsl:args 0 ps=sl)(hpn:Nat.ble ps.length n=true)
  (body:∀ ctx:Ctx,(∀ b,ctx.K b → ctx.S b) → (∀ b,¬ ctx.K b) → PWc P ctx c (Ends P fn r) ⟨n,sl,[]⟩):PFun P f ps r:=fun w S=>FunAt.intro hf hb hn hsl hpn (body ⟨w,S,fun _=>False⟩ (fun _ h=>h.elim) fun _ h=>h)
theorem PWc.rowMax{c:Code}{id k:Nat}{e:TypeId}{l:List (List DV)}(hl:look s.objs id=some (.row e k l))(h:l.length ≤ maxLen → PWc P ctx c Q s):PWc P ctx c Q s:=by
 intro a w ⟨g,hg⟩;refine h ?_ a w ⟨g,hg⟩
 cases hg.objs id _ hl with
 | rowNil=>exact Nat.zero_le _
 | row _ _ _ blk cap cur _ _ hlc hcap=>exact Nat.le_trans hlc hcap
def PState.frzRw(s:PState)(id:Nat)(M:Nat → Prop)(e:TypeId)(k:Nat)(l:List (List Value))(js:List Nat):PState:={ n:=s.n,sl:=(s.sets (.d (.rw M e k l)) js).sl,objs:=delO id s.objs }
theorem PWl.frzRw{ops:Array Oper}{rest:List Oper}{id r n k k':Nat}{e e':TypeId}{l:List (List Value)}{X:List (List DV)}(js:List Nat)(hl:look s.objs id=some (.row e k (flatD l)))(hn:(flatD l).length=n)(hjs:AllRow s id n js)(hr:look s.objs r=some (.row e' k' X))(hK:∀ b,ctx.K b → ctx.S b)(hK0:∀ b,¬ ctx.K b)
  (h:∀ β:Option Nat,(∀ b,β=some b → ctx.w0.heap.size ≤ b) → (∀ (i:Nat) cs,X[i]?=some cs → ∀ (j:Nat) M e k l,cs[j]?=some (DV.rw M e k l) → (∀ b,¬ M b) ∨ ∃ b,M b ∧ β≠some b) → PWl P ctx ops Q rest (s.frzRw id (fun b=>β=some b) e k l js)):PWl P ctx ops Q rest s:=by
 rintro a w ⟨g,hg⟩;have hjs:=hjs.get;have hF:∀ b,Free ctx g s.objs b → Free ctx g (delO id s.objs) b:=fun b ⟨h1,h2⟩=>⟨h1,fun j o m hj hgj=>by
  rw[look_delO] at hj
  split at hj
  ·cases hj
  ·exact h2 j o m hj hgj⟩
 have hst:Stays w w (Free ctx g s.objs):=⟨Nat.le_refl _,fun _ _ _=>rfl⟩
 have hlk:∀ {j:Nat} {o:Ob},look (delO id s.objs) j=some o → j≠id ∧ look s.objs j=some o:=fun {j o} hj=>by
  rw[look_delO] at hj
  split at hj
  ·cases hj
  ·rename_i hne;exact⟨hne,hj⟩
 refine h ((g id).map (·.1)) (fun b hb=>?_) (fun i cs hi j M e'' k'' l'' hj=>?_) a w ⟨g,⟨hg.defers,hg.size,fun i p hp=>?_,fun j o hj=>?_,fun i j oi oj b n m hi hj=>hg.inj i j oi oj b n m (hlk hi).2 (hlk hj).2,fun j o b n hj=>hg.own j o b n (hlk hj).2,hg.os,hg.tape,hg.output,hg.grows,hg.keep⟩⟩
 ·cases hgi:g id with
  | none=>rw[hgi] at hb;cases hb
  | some q=>
   rw[hgi] at hb;obtain⟨b',m⟩:=q
   cases hb
   exact(hg.own id _ b' m hl hgi).2.resolve_right (hK0 _)
 ·have hob:=hg.objs r _ hr;have main:∀ (u:Value),DRd w (Free ctx g s.objs) (.rw M e'' k'' l'') u → (∀ b,¬ M b) ∨ ∃ b,M b ∧ (g id).map (·.1)≠some b:=fun u hd=>by
   cases hd with
   | rwNil _ _ _ hM=>exact .inl hM
   | rw _ _ _ _ blk cap cur hS hM=>
    refine .inr ⟨blk,hM,fun ec=>?_⟩
    cases hgi:g id with
    | none=>rw[hgi] at ec;cases ec
    | some q=>
     rw[hgi] at ec;obtain⟨b,m⟩:=q
     cases ec
     exact hS.2 id _ m hl hgi
  cases hob with
  | rowNil=>simp at hi
  | row _ _ _ blk cap cur hgi hh hlc hcap hcs hkk hr'=>
   obtain⟨u,_,hd⟩:=hr' i cs j _ hi hj;exact main u hd
 ·have old:s.at i=some p → Rd w g (Free ctx g (delO id s.objs)) p (a.tmps.getD i undef):=fun hq=>(hg.slots i p hq).keep hst (fun b hb _=>hF b hb) (fun _ _=>rfl)
  have hp':(s.sets (.d (.rw (fun b=>(g id).map (·.1)=some b) e k l)) js).at i=some p:=at_of (by rw[sets_len];exact at_lt (s:=s.frzRw id _ e k l js) hp) (at_get (s:=s.frzRw id _ e k l js) hp);rcases sets_get _ js s i p hp' with⟨h1,rfl⟩ | h2
  ·have hr0:=hg.slots i _ (hjs i h1);have hob:=hg.objs id _ hl
   generalize hfl:flatD l=fl at hob hl hn
   generalize hv:a.tmps.getD i undef=v at hr0
   cases hob with
   | rowNil _ _ hgn=>
    cases hr0 with
    | row _ _ blk cap hgi=>rw[hgn] at hgi;cases hgi
    | rowNil=>
     have:l=[]:=by cases l with | nil=>rfl | cons _ _=>simp[flatD] at hfl
     subst this;exact .d (.rwNil _ e k fun b hb=>by rw[hgn] at hb;cases hb)
   | row _ _ _ blk' cap' cur hgi hh hlc hcap hcs hkk hr'=>
    cases hr0 with
    | rowNil _ hgn=>rw[hgn] at hgi;cases hgi
    | row _ _ blk cap hgi'=>
     rw[hgi] at hgi'
     cases hgi'
     have hlen:fl.length=l.length:=by rw[← hfl];simp[flatD]
     have hown:=hg.own id _ blk' cap' hl hgi;have hfree:Free ctx g (delO id s.objs) blk':=⟨hown.2.elim .inr fun h=>.inl (hK _ h),fun j o m hj hgj=>by
      obtain⟨hne,hj'⟩:=hlk hj;exact hne (hg.inj j id o _ blk' m cap' hj' hl hgj hgi)⟩
     rw[← hn,hlen];refine .d (.rw _ e k l blk' cap' cur hfree (by rw[hgi];rfl) hown.1 hh (by omega) hcap hcs (fun i cs hi=>?_) (fun i cs j x hi hx=>?_))
     ·have:=hkk i (cs.map .v) (by rw[← hfl];unfold flatD;rw[List.getElem?_map,hi];rfl);simpa using this
     ·obtain⟨u,hu,hd⟩:=hr' i (cs.map .v) j (.v x) (by rw[← hfl];unfold flatD;rw[List.getElem?_map,hi];rfl) (by rw[List.getElem?_map,hx];rfl)
      cases hd with
      | v _ h1=>exact⟨hu,h1⟩
  ·exact old h2
 ·obtain⟨_,hj'⟩:=hlk hj;exact(hg.objs j o hj').keep hst (fun b hb _=>hF b hb) (fun _ _ _=>rfl) rfl (fun _ _=>rfl)
inductive AvD (M:Nat → Prop):DV → Prop
 | v (x:Value):AvD M (.v x)
 | od (N:Nat → Prop) (x:DV) (h:∀ b,M b → ¬ N b):AvD M (.od N x)
 | rw(N:Nat → Prop) (e:TypeId) (k:Nat) (l:List (List Value)) (h:∀ b,M b → ¬ N b):AvD M (.rw N e k l)
inductive AvP (M:Nat → Prop):PV → Prop
 | junk:AvP M .junk
 | d {x:DV} (h:AvD M x):AvP M (.d x)
 | ref (id o:Nat):AvP M (.ref id o)
 | row (id n:Nat):AvP M (.row id n)
inductive AvO (M:Nat → Prop):Ob → Prop
 | cells (T:TypeId) (cs:List PV) (h:∀ p∈cs,AvP M p):AvO M (.cells T cs)
 | row (T:TypeId) (k:Nat) (l:List (List DV)) (h:∀ cs∈l,∀ x∈cs,AvD M x):AvO M (.row T k l)
theorem AvD.keep{M:Nat → Prop}{w:World}{S:Nat → Prop}{blk:Nat}(hM:M blk){x:DV}{u:Value}(h:AvD M x)(hd:DRd w S x u):DRd w (fun b=>S b ∧ b≠blk) x u:=by
 cases h with
 | v=>cases hd with | v _ h=>exact .v _ h
 | od N x h=>cases hd with | od _ _ _ h0=>exact .od N x u (h0.mono fun b hb=>⟨⟨hb.1,fun e=>h blk hM (e▸hb.2)⟩,hb.2⟩)
 | rw N e k l h=>
  cases hd with
  | rwNil _ _ _ h1=>exact .rwNil _ _ _ h1
  | rw _ _ _ _ b cap cur hS hN hb hh hlc hcap hcs hk hr=>exact .rw _ _ _ _ b cap cur ⟨hS,fun e=>h blk hM (e▸hN)⟩ hN hb hh hlc hcap hcs hk hr
theorem AvP.keep{M:Nat → Prop}{w:World}{g:Ghost}{S:Nat → Prop}{blk:Nat}(hM:M blk){x:PV}{u:Value}(h:AvP M x)(hd:Rd w g S x u):Rd w g (fun b=>S b ∧ b≠blk) x u:=by
 cases h with
 | junk=>exact .junk _
 | d h=>cases hd with | d hd=>exact .d (h.keep hM hd)
 | ref=>cases hd with | ref _ _ b n h=>exact .ref _ _ b n h
 | row=>
  cases hd with
  | row _ _ b c h=>exact .row _ _ b c h
  | rowNil _ h=>exact .rowNil _ h
theorem AvO.keep{M:Nat → Prop}{w:World}{g:Ghost}{S:Nat → Prop}{blk id:Nat}(hM:M blk){o:Ob}(h:AvO M o)(hd:ObRd w g S id o):ObRd w g (fun b=>S b ∧ b≠blk) id o:=by
 cases h with
 | cells T cs h=>cases hd with | cells _ _ b n us h1 h2 h3 h4 h5=>exact .cells T cs b n us h1 h2 h3 (fun i p u hp hu=>(h p (List.mem_of_getElem? hp)).keep hM (h4 i p u hp hu)) h5
 | row T k l h=>
  cases hd with
  | rowNil _ _ hgn=>exact .rowNil _ _ hgn
  | row _ _ _ b cap cur h1 h2 h3 h4 h5 h6 h7=>exact .row T k l b cap cur h1 h2 h3 h4 h5 h6 fun i cs j x hi hx=>let ⟨u,hu,hd⟩:=h7 i cs j x hi hx;⟨u,hu,(h cs (List.mem_of_getElem? hi) x (List.mem_of_getElem? hx)).keep hM hd⟩
theorem PWc.thaw{c:Code}{id rid j k:Nat}{T e:TypeId}{cs:List PV}{M:Nat → Prop}{l:List (List Value)}(hl:look s.objs id=some (.cells T cs))(hj:cs[j]?=some (.d (.rw M e k l)))(hcs:∀ (i:Nat) p,i≠j → cs[i]?=some p → AvP M p)
  (hsl:∀ x∈s.sl,AvP M x.2) (hob:∀ x∈s.objs,x.1≠id → AvO M x.2) (hf:s.fresh rid=true) (hne:rid≠id) (hK:∀ b,¬ ctx.K b) (hnew:∀ b,M b → ctx.w0.heap.size ≤ b)
  (h:PWc P ctx c Q { n:=s.n,sl:=s.sl,objs:=putO rid (.row e k (flatD l)) (putO id (.cells T (cs.set j (.row rid (flatD l).length))) s.objs) }):PWc P ctx c Q s:=by
 rintro a w ⟨g,hg⟩
 let new:List (Nat×Ob):=putO rid (.row e k (flatD l)) (putO id (.cells T (cs.set j (.row rid (flatD l).length))) s.objs)
 have hlk:∀ q,look new q=if q=rid then some (.row e k (flatD l)) else if q=id then some (.cells T (cs.set j (.row rid (flatD l).length))) else look s.objs q:=fun q=>by
  show look (putO rid _ (putO id _ s.objs)) q=_;rw[look_putO,look_putO]
 have hrid:=fresh_look hf;have hfl:(flatD l).length=l.length:=by simp[flatD]
 obtain⟨blk0,n0,hg0⟩:=cells_g (hg.objs id _ hl)
 -- what lies in the cell
 have hcell:∃ (u:Value) (us:List Value),w.heap[blk0]?=some (.cells us.toArray T (0,0)) ∧ cs.length=us.length ∧ us[j]?=some u ∧ DRd w (Free ctx g s.objs) (.rw M e k l) u ∧ (∀ (i:Nat) (p:PV) (u:Value),cs[i]?=some p → us[i]?=some u → Rd w g (Free ctx g s.objs) p u) ∧ ∀ u∈us,u.oneCell'=true:=by
  cases hg.objs id _ hl with
  | cells _ _ b n us h1 h2 h3 h4 h5=>
   rw[hg0] at h1;cases h1;have hjl:j < us.length:=by rw[← h3];exact(List.getElem?_eq_some_iff.1 hj).1
   have:=h4 j _ _ hj (List.getElem?_eq_getElem hjl)
   cases this with
   | d hd=>exact⟨_,us,h2,h3,List.getElem?_eq_getElem hjl,hd,h4,h5⟩
 obtain⟨u0,us,hh0,hlen0,hu0,hd0,hall0,hone0⟩:=hcell
 -- both cases alike
 have main:∀ (gv:Option (Nat×Nat)),(∀ b m,gv=some (b,m) → M b ∧ Free ctx g s.objs b ∧ b < w.heap.size) → ObRd w (upd g rid gv) (Free ctx (upd g rid gv) new) rid (.row e k (flatD l)) → Rd w (upd g rid gv) (Free ctx (upd g rid gv) new) (.row rid (flatD l).length) u0 → RelG ctx (upd g rid gv) { n:=s.n,sl:=s.sl,objs:=new } a w:=by
  intro gv hgv hrow hval;have hst:∀ S:Nat → Prop,Stays w w S:=fun S=>⟨Nat.le_refl _,fun _ _ _=>rfl⟩
  have hF:∀ b,Free ctx g s.objs b → (∀ m,gv≠some (b,m)) → Free ctx (upd g rid gv) new b:=fun b hb hne2=>⟨hb.1,fun q o m hq hgq=>by
   rw[hlk] at hq
   by_cases e1:q=rid
   ·subst e1;rw[upd_same] at hgq;exact hne2 m hgq
   ·rw[if_neg e1] at hq;rw[upd_ne e1] at hgq
    by_cases e2:q=id
    ·subst e2;exact hb.2 q _ m hl hgq
    ·rw[if_neg e2] at hq;exact hb.2 q o m hq hgq⟩
  have keepP:∀ {p:PV} {u:Value},AvP M p → p.has rid=false → Rd w g (Free ctx g s.objs) p u → Rd w (upd g rid gv) (Free ctx (upd g rid gv) new) p u:=fun {p u} hav hh hd=>by
   cases hgv':gv with
   | none=>rw[← hgv'];exact hd.keep (hst _) (fun b hb _=>hF b hb fun m e=>by rw[hgv'] at e;cases e) fun q hq=>upd_ne fun e=>by rw[e,hh] at hq;cases hq
   | some z=>
    obtain⟨b9,m9⟩:=z;obtain⟨hM,_,_⟩:=hgv b9 m9 hgv';rw[← hgv'];exact(hav.keep hM hd).keep (hst _) (fun b hb _=>hF b hb.1 fun m e=>by rw[hgv'] at e;cases e;exact hb.2 rfl) fun q hq=>upd_ne fun e=>by rw[e,hh] at hq;cases hq
  have keepO:∀ {q:Nat} {o:Ob},q≠rid → AvO M o → o.has rid=false → ObRd w g (Free ctx g s.objs) q o → ObRd w (upd g rid gv) (Free ctx (upd g rid gv) new) q o:=fun {q o} hq hav hh hd=>by
   cases hgv':gv with
   | none=>rw[← hgv'];exact hd.keep (hst _) (fun b hb _=>hF b hb fun m e=>by rw[hgv'] at e;cases e) (fun _ _ _=>rfl) (upd_ne hq) fun i hi=>upd_ne fun e=>by rw[e,hh] at hi;cases hi
   | some z=>
    obtain⟨b9,m9⟩:=z;obtain⟨hM,_,_⟩:=hgv b9 m9 hgv';rw[← hgv'];exact(hav.keep hM hd).keep (hst _) (fun b hb _=>hF b hb.1 fun m e=>by rw[hgv'] at e;cases e;exact hb.2 rfl) (fun _ _ _=>rfl) (upd_ne hq) fun i hi=>upd_ne fun e=>by rw[e,hh] at hi;cases hi
  refine⟨hg.defers,hg.size,fun i p hp=>?_,fun q o hq=>?_,fun i q oi oq b n m hi hq hgi hgq=>?_,fun q o b n hq hgq=>?_,hg.os,hg.tape,hg.output,hg.grows,hg.keep⟩
  ·have hp':s.at i=some p:=hp;exact keepP (hsl _ (getS_mem (at_get hp'))) (fresh_slot hf hp') (hg.slots i p hp')
  ·rw[hlk] at hq
   by_cases e1:q=rid
   ·subst e1;rw[if_pos rfl] at hq;cases hq;exact hrow
   ·rw[if_neg e1] at hq
    by_cases e2:q=id
    ·subst e2;rw[if_pos rfl] at hq
     cases hq
     refine .cells T _ blk0 n0 us (by rw[upd_ne e1];exact hg0) hh0 (by simpa using hlen0) (fun i p u hp hu=>?_) hone0;rw[List.getElem?_set] at hp
     by_cases e3:j=i
     ·subst e3;rw[if_pos rfl] at hp
      split at hp
      ·cases hp
       rw[hu0] at hu;cases hu;exact hval
      ·cases hp
     ·rw[if_neg e3] at hp;refine keepP (hcs i p (Ne.symm e3) hp) ?_ (hall0 i p u hp hu);have:=fresh_obj hf hl;exact hasL_mem (by simpa[Ob.has] using this) hp
    ·rw[if_neg e2] at hq;exact keepO e1 (hob _ (look_mem hq) e2) (fresh_obj hf hq) (hg.objs q o hq)
  ·have key:∀ {q:Nat} {o:Ob},look new q=some o → q=rid ∨ ∃ o',look s.objs q=some o':=fun {q o} h=>by
    rw[hlk] at h
    by_cases e1:q=rid
    ·exact .inl e1
    ·rw[if_neg e1] at h
     by_cases e2:q=id
     ·subst e2;exact .inr ⟨_,hl⟩
     ·rw[if_neg e2] at h;exact .inr ⟨_,h⟩
   by_cases h1:i=rid <;> by_cases h2:q=rid
   ·exact h1.trans h2.symm
   ·subst h1;rw[upd_same] at hgi;rw[upd_ne h2] at hgq;obtain⟨o',ho'⟩:=(key hq).resolve_left h2;exact((hgv b n hgi).2.1.2 q o' m ho' hgq).elim
   ·subst h2;rw[upd_same] at hgq;rw[upd_ne h1] at hgi;obtain⟨o',ho'⟩:=(key hi).resolve_left h1;exact((hgv b m hgq).2.1.2 i o' n ho' hgi).elim
   ·rw[upd_ne h1] at hgi;rw[upd_ne h2] at hgq;obtain⟨o1,e1⟩:=(key hi).resolve_left h1;obtain⟨o2,e2⟩:=(key hq).resolve_left h2;exact hg.inj i q o1 o2 b n m e1 e2 hgi hgq
  ·by_cases h1:q=rid
   ·subst h1;rw[upd_same] at hgq;obtain⟨hM,_,hb⟩:=hgv b n hgq;exact⟨hb,.inl (hnew b hM)⟩
   ·rw[upd_ne h1] at hgq;rw[hlk,if_neg h1] at hq
    by_cases e2:q=id
    ·subst e2;exact hg.own q _ b n hl hgq
    ·rw[if_neg e2] at hq;exact hg.own q o b n hq hgq
 cases hd0 with
 | rwNil _ _ _ hM=>
  refine h a w ⟨upd g rid none,main none (fun b m e=>by cases e) ?_ ?_⟩
  ·exact .rowNil e k (upd_same _ _ _)
  ·exact .rowNil rid (upd_same _ _ _)
 | rw _ _ _ _ blk cap cur hS hM hb hh hlc hcap hcs2 hk hr=>
  refine h a w ⟨upd g rid (some (blk,cap)),main (some (blk,cap)) (fun b m e=>by cases e;exact⟨hM,hS,hb⟩) ?_ ?_⟩
  ·refine .row e k (flatD l) blk cap cur (upd_same _ _ _) hh (by rw[hfl];exact hlc) hcap hcs2 (fun i cs hi=>?_) (fun i cs q x hi hx=>?_)
   ·obtain⟨vs,h1,rfl⟩:=flatD_get hi;rw[List.length_map];exact hk i vs h1
   ·obtain⟨vs,h1,rfl⟩:=flatD_get hi;rw[List.getElem?_map] at hx
    cases hv:vs[q]? with
    | none=>rw[hv] at hx;cases hx
    | some y=>
     rw[hv] at hx
     cases hx
     obtain⟨h2,h3⟩:=hr i vs q y h1 hv;exact⟨y,h2,.v y h3⟩
  ·rw[hfl];exact .row rid _ blk cap (upd_same _ _ _)
theorem PWc.rawCell{c:Code}{id j i k:Nat}{T:TypeId}{X:List (List DV)}{cs:List DV}{y:DV}(hl:look s.objs id=some (.row T k X))(hi:X[i]?=some cs)(hj:cs[j]?=some y)
  (h:∀ v:Value,PWc P ctx c Q { n:=s.n,sl:=s.sl,objs:=putO id (.row T k (X.set i (cs.set j (.v v)))) s.objs }):PWc P ctx c Q s:=by
 rintro a w ⟨g,hg⟩;have hlk:∀ (o':Ob) q,look (putO id o' s.objs) q=if q=id then some o' else look s.objs q:=fun o' q=>look_putO _ _ _ _
 cases hg.objs id _ hl with
 | rowNil=>simp at hi
 | row _ _ _ blk cap cur hgi hh hlc hcap hcs hkk hr=>
  obtain⟨u,hu,hd⟩:=hr i cs j y hi hj;have hst:∀ S:Nat → Prop,Stays w w S:=fun S=>⟨Nat.le_refl _,fun _ _ _=>rfl⟩
  have hF:∀ b,Free ctx g s.objs b → Free ctx g (putO id (.row T k (X.set i (cs.set j (.v u)))) s.objs) b:=fun b hb=>(free_putO hl).2 hb
  have hex:∀ {q:Nat} {o:Ob},look (putO id (.row T k (X.set i (cs.set j (.v u)))) s.objs) q=some o → ∃ o',look s.objs q=some o':=fun {q o} h=>by
   rw[hlk] at h
   by_cases e:q=id
   ·subst e;exact⟨_,hl⟩
   ·rw[if_neg e] at h;exact⟨_,h⟩
  refine h u a w ⟨g,⟨hg.defers,hg.size,fun i p hp=>(hg.slots i p hp).keep (hst _) (fun b hb _=>hF b hb) (fun _ _=>rfl),fun q o hq=>?_,fun i j oi oj b n m hi hj hgi hgj=>?_,fun q o b n hq hgq=>?_,hg.os,hg.tape,hg.output,hg.grows,hg.keep⟩⟩
  ·rw[hlk] at hq
   by_cases e:q=id
   ·subst e;rw[if_pos rfl] at hq
    cases hq
    have hil:i < X.length:=(List.getElem?_eq_some_iff.1 hi).1;have hjl:j < cs.length:=(List.getElem?_eq_some_iff.1 hj).1;refine .row T k _ blk cap cur hgi hh (by simpa using hlc) hcap hcs (fun p cs' hp=>?_) (fun p cs' q x hp hx=>?_)
    ·rw[List.getElem?_set] at hp
     by_cases e2:i=p
     ·subst e2;rw[if_pos rfl,if_pos hil] at hp
      cases hp
      rw[List.length_set];exact hkk i cs hi
     ·rw[if_neg e2] at hp;exact hkk p cs' hp
    ·rw[List.getElem?_set] at hp
     by_cases e2:i=p
     ·subst e2;rw[if_pos rfl,if_pos hil] at hp
      cases hp
      rw[List.getElem?_set] at hx
      by_cases e3:j=q
      ·subst e3;rw[if_pos rfl,if_pos hjl] at hx
       cases hx
       exact⟨u,hu,.v u hd.one⟩
      ·rw[if_neg e3] at hx;obtain⟨u',h1,h2⟩:=hr i cs q x hi hx;exact⟨u',h1,h2.keep (hst _) fun b hb _=>hF b hb⟩
     ·rw[if_neg e2] at hp;obtain⟨u',h1,h2⟩:=hr p cs' q x hp hx;exact⟨u',h1,h2.keep (hst _) fun b hb _=>hF b hb⟩
   ·rw[if_neg e] at hq;exact(hg.objs q o hq).keep (hst _) (fun b hb _=>hF b hb) (fun _ _ _=>rfl) rfl (fun _ _=>rfl)
  ·obtain⟨o1,e1⟩:=hex hi;obtain⟨o2,e2⟩:=hex hj;exact hg.inj i j o1 o2 b n m e1 e2 hgi hgj
  ·obtain⟨o1,e1⟩:=hex hq;exact hg.own q o1 b n e1 hgq
end
section
variable{P:Program}{ctx:Ctx}{s:PState}
variable{dst:Option Tmp}{ty:TypeId}{pos:String}{after:Array Edge}{gd:Option (Nat×Bool)}
theorem LR.moveOd{x:Operand}{N:Nat → Prop}{y:DV}(hx:s.ev x=some (.d (.od N y))):Local P ctx ⟨dst,.move x,ty,pos,after,gd⟩ s (s.putD dst (.d y)):=
 local_pure (o:=⟨dst,.move x,ty,pos,after,gd⟩) fun a w g hg=>by
  have h:=hg.ev hx;refine⟨a.eval x,by simp[execOp,Result.andThen],?_⟩
  generalize a.eval x=v at h
  cases h with
  | d h=>exact .d h.unod
theorem Sub.unrwAgg{t:Nat}{cs:List PV}{M:Nat → Prop}{e:TypeId}{k:Nat}{l:List (List Value)}(h:s.at t=some (.agg (cs++[.d (.rw M e k l)]))):Sub ctx s (s.put t (.agg (cs++[.d (.sl (flatD l))]))):=by
 rintro a w ⟨g,hg⟩;refine⟨g,⟨hg.defers,hg.size,fun i p hp=>?_,hg.objs,hg.inj,hg.own,hg.os,hg.tape,hg.output,hg.grows,hg.keep⟩⟩;rcases put_at s t _ i p hp with⟨rfl,rfl⟩ | ⟨_,h2⟩
 ·have:=hg.slots t _ h;show Rd w g (Free ctx g s.objs) _ _
  generalize a.tmps.getD t undef=v at this
  cases this with
  | agg _ us hl hh h1=>
   refine .agg _ us (by simpa using hl) (fun i p u hp hu=>?_) h1;rw[List.getElem?_append] at hp
   by_cases e1:i < cs.length
   ·rw[if_pos e1] at hp;exact hh i p u (by rw[List.getElem?_append,if_pos e1];exact hp) hu
   ·rw[if_neg e1] at hp;have hi:i - cs.length=0:=by
     have:=(List.getElem?_eq_some_iff.1 hp).1;simp at this;omega
    rw[hi] at hp;simp at hp;subst hp;have:=hh i (.d (.rw M e k l)) u (by rw[List.getElem?_append,if_neg e1,hi];rfl) hu
    cases this with
    | d hd=>exact .d hd.unrw
 ·exact hg.slots i p h2
end
end Go.Ep
namespace Go.Ep
structure TDot where
 dev:Int
 n:Int
 deriving DecidableEq
structure TEvent where
 dot:TDot
 kind:Int
 cid:Int
 field:Int
 text:ByteArray
 kills:List TDot
 deriving DecidableEq
structure TRun where
 lo:Int
 hi:Int
 deriving DecidableEq
structure TPart where
 dev:Int
 runs:List TRun
 deriving DecidableEq
end Go.Ep
namespace Go.Ep
def TDot.e(x:TDot):List DV:=[.v (.int .u16 x.dev),.v (.int .u64 x.n)]
def TDot.v(x:TDot):List Value:=[(.int .u16 x.dev),(.int .u64 x.n)]
theorem TDot.v1(x:TDot):∀ u∈x.v,u.oneCell'=true:=by
 intro u hu;simp only[TDot.v,List.mem_cons,List.not_mem_nil,or_false] at hu;rcases hu with rfl | rfl <;> rfl
def TDot.k(x:TDot):List Int:=[x.dev,x.n]
def TEvent.e(x:TEvent):List DV:=[.v (.int .u16 x.dot.dev),.v (.int .u64 x.dot.n),.v (.int .u8 x.kind),.v (.int .u64 x.cid),.v (.int .u8 x.field),.v (.string x.text),.sl (List.map TDot.e x.kills)]
def TRun.e(x:TRun):List DV:=[.v (.int .u64 x.lo),.v (.int .u64 x.hi)]
def TRun.v(x:TRun):List Value:=[(.int .u64 x.lo),(.int .u64 x.hi)]
theorem TRun.v1(x:TRun):∀ u∈x.v,u.oneCell'=true:=by
 intro u hu;simp only[TRun.v,List.mem_cons,List.not_mem_nil,or_false] at hu;rcases hu with rfl | rfl <;> rfl
def TRun.k(x:TRun):List Int:=[x.lo,x.hi]
def TPart.e(x:TPart):List DV:=[.v (.int .u16 x.dev),.sl (List.map TRun.e x.runs)]
end Go.Ep
namespace Go.Proofs
open Go.Ep
set_option linter.unusedSimpArgs false
theorem elem22 : ElemOK Try.prog 22 37 7 80:=ElemOK.mk' (z:=.agg #[.int .u16 0,.int .u64 0,.int .u8 0,.int .u64 0,.int .u8 0,.string ⟨#[]⟩,.slice none 0 0]) Try.underlying22 (by kernel_rfl) rfl
theorem elem28 : ElemOK Try.prog 28 66 2 16:=ElemOK.mk' (z:=.agg #[.int .u64 0,.int .u64 0]) Try.underlying28 (by kernel_rfl) rfl
theorem elem35 : ElemOK Try.prog 35 34 2 16:=ElemOK.mk' (z:=.agg #[.int .u16 0,.int .u64 0]) Try.underlying35 (by kernel_rfl) rfl
theorem elem68 : ElemOK Try.prog 68 32 1 8:=ElemOK.mk' (z:=.int .u64 0) Try.underlying68 (by kernel_rfl) rfl
theorem build34 : BuildOK Try.prog 34 [(0,1),(1,1)] [.int .u16 0,.int .u64 0]:=fun parts=>by kernel_rfl
theorem build66 : BuildOK Try.prog 66 [(0,1),(1,1)] [.int .u64 0,.int .u64 0]:=fun parts=>by kernel_rfl
theorem eq34{a0 b0:Int}{a1 b1:Int}:AggEq Try.prog 34 [.int .u16 a0,.int .u64 a1] [.int .u16 b0,.int .u64 b1] ((decide (a0=b0)&&decide (a1=b1))):=by
 refine⟨by kernel_rfl,fun w=>?_⟩;have hu:Try.prog.underlying 34=some (.struct (Try.prog.fieldsOf 34)):=by simp only[Program.fieldsOf,Try.underlying34]
 rw[run_equalIn_agg w 9999 34 _ _ hu (by kernel_rfl)];simp[Program.fieldsOf,Try.underlying34,Op.eqFields,part,Try.isAgg23,Try.isAgg32,run_equalIn_int _ 9998 23 _ _ _ _ Try.underlying23,run_equalIn_int _ 9998 32 _ _ _ _ Try.underlying32,Result.andThen,beq_bytes]
 all_goals (repeat' split) <;> simp_all
theorem key78 : KeyOK Try.prog 23 [.u16]:=KeyOK.int Try.underlying23
end Go.Proofs
namespace Go.Ep
def ltDot(x y:TDot):Bool:=decide (x.dev < y.dev)||(decide (x.dev=y.dev)&&decide (x.n < y.n))
def ltRun(x y:TRun):Bool:=decide (x.lo < y.lo)
end Go.Ep
namespace Go.Ep
open Go
def r13_Few_l0(l1:List TEvent):Int → M (M.Step Int (M.Ex Unit Bool)):=fun i21=>
 cond ((decide (i21 < (List.length l1:Int))))
  (M.bind (M.bind (M.idx l1 i21) fun x24=>
  cond ((decide (300 < (List.length x24.kills:Int))))
   (M.pure true)
   (M.bind (M.idx l1 i21) fun x27=>
   M.pure ((decide (200 < (ByteArray.size x27.text:Int)))))) (fun v23=>
  cond v23
   (M.pure (.done (.ret false)))
   (M.pure (.next (IntKind.i64.wrap (i21+1))))))
  (M.pure (.done (.brk ())))
def r13_Few(l1:List TEvent)(most2:Int):M Bool:=
 cond ((decide (most2 < (List.length l1:Int))))
  (M.pure false)
  (M.bind (M.loop (r13_Few_l0 l1) 0) (M.exk (fun _=>
  M.pure true)))
def r09_Few_l0(c1:List TPart):Int → M (M.Step Int (M.Ex Unit Bool)):=fun i12=>
 cond ((decide (i12 < (List.length c1:Int))))
  (M.bind (M.idx c1 i12) fun x14=>
  cond ((decide (30 < (List.length x14.runs:Int))))
   (M.pure (.done (.ret false)))
   (M.pure (.next (IntKind.i64.wrap (i12+1)))))
  (M.pure (.done (.brk ())))
def r09_Few(c1:List TPart):M Bool:=
 cond ((decide (30 < (List.length c1:Int))))
  (M.pure false)
  (M.bind (M.loop (r09_Few_l0 c1) 0) (M.exk (fun _=>
  M.pure true)))
def r06_may(x1:TRun):M Bool:=
 M.bind (cond (decide (1 ≤ x1.lo))
  (cond (decide (x1.lo ≤ x1.hi))
   (M.pure (decide (x1.hi ≤ 281474976710655)))
   (M.pure false))
  (M.pure false)) (fun v2=>
 M.pure v2)
def r06_Has_l0(l1:List TRun)(n2:Int):Int → M (M.Step Int (M.Ex Unit Bool)):=fun i30=>
 cond ((decide (i30 < (List.length l1:Int))))
  (M.bind (M.bind (M.idx l1 i30) fun x33=>
  M.bind (M.det (r06_may x33)) fun v35=>
  cond v35
   (M.bind (M.idx l1 i30) fun x38=>
   cond (decide (x38.lo ≤ n2))
    (M.bind (M.idx l1 i30) fun x41=>
    M.pure (decide (n2 ≤ x41.hi)))
    (M.pure false))
   (M.pure false)) (fun v32=>
  cond v32
   (M.pure (.done (.ret true)))
   (M.pure (.next (IntKind.i64.wrap (i30+1))))))
  (M.pure (.done (.brk ())))
def r06_Has(l1:List TRun)(n2:Int):M Bool:=
 M.bind (M.loop (r06_Has_l0 l1 n2) 0) (M.exk (fun _=>
 M.pure false))
def r06_put_l0(l1:List Int)(n2:Int):Bool×Int×List Int → M (M.Step (Bool×Int×List Int) (Bool×List Int)):=fun⟨done43,i44,out45⟩=>
 cond ((decide (i44 < (List.length l1:Int))))
  (M.bind (M.bind (cond (!done43)
   (M.bind (M.idx l1 i44) fun x51=>
   M.pure (decide (n2 ≤ x51)))
   (M.pure false)) (fun v49=>
  M.bind (cond v49
   (M.need ((List.length out45+List.length ([n2]))*8 ≤ 140737488355328) <|
   M.pure (true,(out45++[n2])))
   (M.pure (done43,out45))) (fun⟨done53,out54⟩=>
  M.bind (M.idx l1 i44) fun x57=>
  cond (!decide (x57=n2))
   (M.bind (M.idx l1 i44) fun x60=>
   M.need ((List.length out54+List.length ([x60]))*8 ≤ 140737488355328) <|
   M.pure (done53,(out54++[x60])))
   (M.pure (done53,out54))))) (fun⟨done47,out48⟩=>
  M.pure (.next ((done47,(IntKind.i64.wrap (i44+1)),out48)))))
  (M.pure (.done (done43,out45)))
def r06_put(l1:List Int)(n2:Int):M (List Int):=
 M.bind (M.loop (r06_put_l0 l1 n2) (false,0,([]:List Int))) (fun⟨done3,out4⟩=>
 M.bind (cond (!done3)
  (M.need ((List.length out4+List.length ([n2]))*8 ≤ 140737488355328) <|
  M.pure (out4++[n2]))
  (M.pure out4)) (fun out63=>
 M.pure out63))
def r06_points_l0(a1:List TRun)(b2:List TRun):List Int×Int → M (M.Step (List Int×Int) (List Int)):=fun⟨out38,i39⟩=>
 cond ((decide (i39 < (((List.length ((([]:List TRun)++a1)++b2)):Int)))))
  (M.bind (M.bind (M.idx (((([]:List TRun)++a1)++b2)) i39) fun x42=>
  M.bind (M.det (r06_may x42)) fun v44=>
  cond v44
   (M.bind (M.idx (((([]:List TRun)++a1)++b2)) i39) fun x47=>
   M.bind (M.det (r06_put out38 x47.lo)) fun v49=>
   M.bind (M.idx (((([]:List TRun)++a1)++b2)) i39) fun x51=>
   M.bind (M.det (r06_put v49 (IntKind.u64.wrap (x51.hi+1)))) fun v53=>
   M.pure v53)
   (M.pure out38)) (fun out41=>
  M.pure (.next ((out41,(IntKind.i64.wrap (i39+1)))))))
  (M.pure (.done out38))
def r06_points(a1:List TRun)(b2:List TRun):M (List Int):=
 M.need ((List.length ([]:List TRun)+List.length a1)*16 ≤ 140737488355328) <|
 M.need ((List.length (([]:List TRun)++a1)+List.length b2)*16 ≤ 140737488355328) <|
 M.bind (M.loop (r06_points_l0 a1 b2) (([]:List Int),0)) (fun out5=>
 M.pure out5)
def r06_set_l0(v4:List Int)(a1:List TRun)(b2:List TRun)(how3:Int):Int×List TRun → M (M.Step (Int×List TRun) (List TRun)):=fun⟨i85,out86⟩=>
 cond ((decide ((IntKind.i64.wrap (i85+1)) < (List.length v4:Int))))
  (M.bind (M.bind (M.idx v4 i85) fun x89=>
  M.bind (M.det (r06_Has a1 x89)) fun v91=>
  M.bind (M.idx v4 i85) fun x93=>
  M.bind (M.det (r06_Has b2 x93)) fun v95=>
  M.bind (cond v91
   (M.pure true)
   (M.pure v95)) (fun in97=>
  M.bind (cond (decide (how3=1))
   (M.bind (cond v91
    (M.pure v95)
    (M.pure false)) (fun in101=>
   M.pure in101))
   (M.pure in97)) (fun in99=>
  M.bind (cond (decide (how3=2))
   (M.bind (cond v91
    (M.pure (!v95))
    (M.pure false)) (fun in105=>
   M.pure in105))
   (M.pure in99)) (fun in103=>
  M.bind (cond in103
   (cond ((decide (0 ≤ ((IntKind.i64.wrap (((List.length out86):Int) - 1))))))
    (M.bind (M.idx out86 ((IntKind.i64.wrap (((List.length out86):Int) - 1)))) fun x110=>
    M.bind (M.idx v4 i85) fun x112=>
    M.pure ((decide ((IntKind.u64.wrap (x110.hi+1))=x112))))
    (M.pure false))
   (M.pure false)) (fun v107=>
  cond v107
   (M.bind (M.idx v4 (IntKind.i64.wrap (i85+1))) fun x115=>
   M.bind (M.idx out86 ((IntKind.i64.wrap (((List.length out86):Int) - 1)))) fun x117=>
   M.pure ((List.set out86 ((Int.toNat ((IntKind.i64.wrap (((List.length out86):Int) - 1))))) ((⟨x117.lo,(IntKind.u64.wrap (x115 - 1))⟩:TRun)))))
   (cond in103
    (M.bind (M.idx v4 i85) fun x120=>
    M.bind (M.idx v4 (IntKind.i64.wrap (i85+1))) fun x122=>
    M.need ((List.length out86+List.length ([(⟨x120,(IntKind.u64.wrap (x122 - 1))⟩:TRun)]))*16 ≤ 140737488355328) <|
    M.pure ((out86++[(⟨x120,(IntKind.u64.wrap (x122 - 1))⟩:TRun)])))
    (M.pure out86))))))) (fun out88=>
  M.pure (.next (((IntKind.i64.wrap (i85+1)),out88)))))
  (M.pure (.done out86))
def r06_set(a1:List TRun)(b2:List TRun)(how3:Int):M (List TRun):=
 M.bind (M.det (r06_points a1 b2)) fun v4=>
 M.bind (M.loop (r06_set_l0 v4 a1 b2 how3) (0,([]:List TRun))) (fun out6=>
 M.pure out6)
def r06_Join(a1:List TRun)(b2:List TRun):M (List TRun):=
 M.bind (M.det (r06_set a1 b2 0)) fun v3=>
 M.pure v3
def r09_Runs_l0(c1:List TPart)(dev2:Int):List TRun×Int → M (M.Step (List TRun×Int) (List TRun)):=fun⟨out28,i29⟩=>
 cond ((decide (i29 < (List.length c1:Int))))
  (M.bind (M.bind (M.bind (M.idx c1 i29) fun x33=>
  cond (decide (x33.dev=dev2))
   (M.pure (!decide (dev2=0)))
   (M.pure false)) (fun v32=>
  cond v32
   (M.bind (M.idx c1 i29) fun x37=>
   M.bind (M.det (r06_Join out28 x37.runs)) fun v39=>
   M.pure v39)
   (M.pure out28))) (fun out31=>
  M.pure (.next ((out31,(IntKind.i64.wrap (i29+1)))))))
  (M.pure (.done out28))
def r09_Runs(c1:List TPart)(dev2:Int):M (List TRun):=
 M.bind (M.loop (r09_Runs_l0 c1 dev2) (([]:List TRun),0)) (fun out3=>
 M.pure out3)
def outbox_Batches(l1:List TEvent):M Int:=
 M.pure ((IntKind.i64.wrap (Int.tdiv ((IntKind.i64.wrap (((IntKind.i64.wrap ((List.length l1:Int)+4))) - 1))) 4)))
def slices_Clone_sl_Dot_Dot(s1:List TDot):M (List TDot):=
 M.bind (M.isNil s1) fun b2=>
 cond b2
  (M.pure ([]:List TDot))
  (M.need ((List.length ([]:List TDot)+List.length s1)*16 ≤ 140737488355328) <|
  M.pure (([]:List TDot)++s1))
def event_Copy(e1:TEvent):M TEvent:=
 M.bind (M.det (slices_Clone_sl_Dot_Dot e1.kills)) fun v2=>
 M.pure (⟨e1.dot,e1.kind,e1.cid,e1.field,e1.text,v2⟩:TEvent)
def outbox_Batch_l0(k7:Int)(l1:List TEvent):Int×List TEvent → M (M.Step (Int×List TEvent) (List TEvent)):=fun⟨v25,out26⟩=>
 cond ((decide (v25 < ((List.length ((List.drop (Int.toNat (IntKind.i64.wrap (k7*4))) (List.take (Int.toNat ((min ((IntKind.i64.wrap ((IntKind.i64.wrap (k7+1))*4))) (List.length l1:Int)))) l1))):Int)))))
  (M.bind (M.idx ((List.drop (Int.toNat (IntKind.i64.wrap (k7*4))) (List.take (Int.toNat ((min ((IntKind.i64.wrap ((IntKind.i64.wrap (k7+1))*4))) (List.length l1:Int)))) l1))) v25) fun x28=>
  M.bind (M.det (event_Copy x28)) fun v30=>
  M.need ((List.length out26+List.length ([v30]))*80 ≤ 140737488355328) <|
  M.pure (.next (((IntKind.i64.wrap (v25+1)),(out26++[v30])))))
  (M.pure (.done out26))
def outbox_Batch(l1:List TEvent)(pick2:Int):M (List TEvent):=
 M.bind (M.det (outbox_Batches l1)) fun v3=>
 cond (decide (v3=0))
  (M.pure ([]:List TEvent))
  (M.need (v3≠0) <|
  M.bind (cond ((decide ((Int.tmod pick2 v3) < 0)))
   (M.pure ((IntKind.i64.wrap ((Int.tmod pick2 v3)+v3))))
   (M.pure (Int.tmod pick2 v3))) (fun k7=>
  M.need ((0:Int) ≤ (IntKind.i64.wrap (k7*4)) ∧ ((IntKind.i64.wrap (k7*4)):Int) ≤ ((min ((IntKind.i64.wrap ((IntKind.i64.wrap (k7+1))*4))) (List.length l1:Int))) ∧ ((min ((IntKind.i64.wrap ((IntKind.i64.wrap (k7+1))*4))) (List.length l1:Int))) ≤ (List.length l1:Int)) <|
  M.bind (M.loop (outbox_Batch_l0 k7 l1) (0,([]:List TEvent))) (fun out10=>
  M.pure out10)))
def r07_Same_l0(a1:List TDot)(b2:List TDot):Int → M (M.Step Int (M.Ex Unit Bool)):=fun i17=>
 cond ((decide (i17 < (List.length a1:Int))))
  (M.bind (M.idx a1 i17) fun x19=>
  M.bind (M.idx b2 i17) fun x21=>
  cond ((!(decide (x19.dev=x21.dev)&&decide (x19.n=x21.n))))
   (M.pure (.done (.ret false)))
   (M.pure (.next (IntKind.i64.wrap (i17+1)))))
  (M.pure (.done (.brk ())))
def r07_Same(a1:List TDot)(b2:List TDot):M Bool:=
 cond ((!decide ((List.length a1:Int)=(List.length b2:Int))))
  (M.pure false)
  (M.bind (M.loop (r07_Same_l0 a1 b2) 0) (M.exk (fun _=>
  M.pure true)))
def r13_Same(a1:TEvent)(b2:TEvent):M Bool:=
 M.bind (cond (((decide (a1.dot.dev=b2.dot.dev)&&decide (a1.dot.n=b2.dot.n))))
  (cond (decide (a1.kind=b2.kind))
   (cond (decide (a1.cid=b2.cid))
    (cond (decide (a1.field=b2.field))
     (cond (decide (a1.text=b2.text))
      (M.bind (M.det (r07_Same a1.kills b2.kills)) fun v9=>
      M.pure v9)
      (M.pure false))
     (M.pure false))
    (M.pure false))
   (M.pure false))
  (M.pure false)) (fun v3=>
 M.pure v3)
def l29_works :M Bool:=
 M.need ((0:Int) ≤ 6 ∧ (6:Int)*80 ≤ 140737488355328) <|
 M.bind (M.idx ((List.replicate (Int.toNat 6) (⟨(⟨0,0⟩:TDot),0,0,0,(⟨#[]⟩:ByteArray),([]:List TDot)⟩:TEvent))) 4) fun x2=>
 M.bind (M.bind (M.det (outbox_Batches ((List.set ((List.replicate (Int.toNat 6) (⟨(⟨0,0⟩:TDot),0,0,0,(⟨#[]⟩:ByteArray),([]:List TDot)⟩:TEvent))) (Int.toNat 4) (⟨x2.dot,x2.kind,x2.cid,x2.field,(⟨#[101]⟩:ByteArray),x2.kills⟩:TEvent))))) fun v5=>
 cond (decide (v5=2))
  (M.bind (M.det (outbox_Batch ((List.set ((List.replicate (Int.toNat 6) (⟨(⟨0,0⟩:TDot),0,0,0,(⟨#[]⟩:ByteArray),([]:List TDot)⟩:TEvent))) (Int.toNat 4) (⟨x2.dot,x2.kind,x2.cid,x2.field,(⟨#[101]⟩:ByteArray),x2.kills⟩:TEvent))) 1)) fun v8=>
  cond ((decide ((List.length v8:Int)=2)))
   (M.bind (M.det (outbox_Batch ((List.set ((List.replicate (Int.toNat 6) (⟨(⟨0,0⟩:TDot),0,0,0,(⟨#[]⟩:ByteArray),([]:List TDot)⟩:TEvent))) (Int.toNat 4) (⟨x2.dot,x2.kind,x2.cid,x2.field,(⟨#[101]⟩:ByteArray),x2.kills⟩:TEvent))) 3)) fun v11=>
   cond ((decide ((List.length v11:Int)=2)))
    (M.bind (M.det (outbox_Batch ((List.set ((List.replicate (Int.toNat 6) (⟨(⟨0,0⟩:TDot),0,0,0,(⟨#[]⟩:ByteArray),([]:List TDot)⟩:TEvent))) (Int.toNat 4) (⟨x2.dot,x2.kind,x2.cid,x2.field,(⟨#[101]⟩:ByteArray),x2.kills⟩:TEvent))) 0)) fun v14=>
    cond ((decide ((List.length v14:Int)=4)))
     (M.bind (M.det (outbox_Batch ((List.set ((List.replicate (Int.toNat 6) (⟨(⟨0,0⟩:TDot),0,0,0,(⟨#[]⟩:ByteArray),([]:List TDot)⟩:TEvent))) (Int.toNat 4) (⟨x2.dot,x2.kind,x2.cid,x2.field,(⟨#[101]⟩:ByteArray),x2.kills⟩:TEvent))) 3)) fun v17=>
     M.bind (M.idx v17 0) fun x19=>
     M.bind (M.idx ((List.set ((List.replicate (Int.toNat 6) (⟨(⟨0,0⟩:TDot),0,0,0,(⟨#[]⟩:ByteArray),([]:List TDot)⟩:TEvent))) (Int.toNat 4) (⟨x2.dot,x2.kind,x2.cid,x2.field,(⟨#[101]⟩:ByteArray),x2.kills⟩:TEvent))) 4) fun x21=>
     M.bind (M.det (r13_Same x19 x21)) fun v23=>
     M.pure v23)
     (M.pure false))
    (M.pure false))
   (M.pure false))
  (M.pure false)) (fun v4=>
 M.pure v4)
def cmp_isNaN_uint64(x1:Int):M Bool:=
 M.pure (!decide (x1=x1))
def cmp_Compare_uint64(x1:Int)(y2:Int):M Int:=
 M.bind (M.det (cmp_isNaN_uint64 x1)) fun v3=>
 M.bind (M.det (cmp_isNaN_uint64 y2)) fun v5=>
 cond v3
  (cond v5
   (M.pure 0)
   (M.pure (-1)))
  (cond v5
   (M.pure 1)
   (cond (decide (x1 < y2))
    (M.pure (-1))
    (cond (decide (y2 < x1))
     (M.pure 1)
     (M.pure 0))))
def runs_Norm_l0(l1:List TRun):Int×List TRun → M (M.Step (Int×List TRun) (List TRun)):=fun⟨v23,some24⟩=>
 cond ((decide (v23 < (List.length l1:Int))))
  (M.bind (M.bind (M.idx l1 v23) fun x27=>
  M.bind (cond (decide (0 < x27.lo))
   (cond (decide (x27.lo ≤ x27.hi))
    (M.pure (decide (x27.hi ≤ 281474976710655)))
    (M.pure false))
   (M.pure false)) (fun v29=>
  cond v29
   (M.need ((List.length some24+List.length ([x27]))*16 ≤ 140737488355328) <|
   M.pure (some24++[x27]))
   (M.pure some24))) (fun some26=>
  M.pure (.next (((IntKind.i64.wrap (v23+1)),some26)))))
  (M.pure (.done some24))
def runs_Norm_l1(some2:List TRun)(s34:List TRun):Int×List TRun → M (M.Step (Int×List TRun) (List TRun)):=fun⟨v69,out70⟩=>
 cond ((decide (v69 < ((List.length some2):Int))))
  (M.bind (M.bind (M.idx s34 v69) fun x73=>
  M.bind (cond ((decide (0 ≤ ((IntKind.i64.wrap (((List.length out70):Int) - 1))))))
   (M.bind (M.idx out70 ((IntKind.i64.wrap (((List.length out70):Int) - 1)))) fun x77=>
   M.pure ((decide (x73.lo ≤ (IntKind.u64.wrap (x77.hi+1))))))
   (M.pure false)) (fun v75=>
  cond v75
   (M.bind (M.idx out70 ((IntKind.i64.wrap (((List.length out70):Int) - 1)))) fun x80=>
   M.bind (M.idx out70 ((IntKind.i64.wrap (((List.length out70):Int) - 1)))) fun x82=>
   M.pure ((List.set out70 ((Int.toNat ((IntKind.i64.wrap (((List.length out70):Int) - 1))))) (⟨x82.lo,(max x80.hi x73.hi)⟩:TRun))))
   (M.need ((List.length out70+List.length ([x73]))*16 ≤ 140737488355328) <|
   M.pure (out70++[x73])))) (fun out72=>
  M.pure (.next (((IntKind.i64.wrap (v69+1)),out72)))))
  (M.pure (.done out70))
def runs_Norm(l1:List TRun):M (List TRun):=
 M.bind (M.loop (runs_Norm_l0 l1) (0,([]:List TRun))) (fun some2=>
 M.need (List.length some2 < 4611686018427387904)<|M.bind (M.srt ltRun some2) fun s34=>
 M.bind (M.loop (runs_Norm_l1 some2 s34) (0,([]:List TRun))) (fun out38=>
 M.pure out38))
def runs_Has_c1(x1:TRun)(n2:Int):M Int:=
 M.bind (M.det (cmp_Compare_uint64 x1.hi n2)) fun v3=>
 M.pure v3
def slices_BinarySearchFunc_sl_Run_Run_uint64_runs_Has_c1_l0(x1:List TRun)(target2:Int):Int×Int → M (M.Step (Int×Int) Int):=fun⟨i18,j19⟩=>
 cond (decide (i18 < j19))
  (M.bind (M.idx x1 ((IntKind.i64.wrap ((Int.fdiv ((IntKind.u64.wrap (IntKind.i64.wrap (i18+j19)))) (2 ^ 1)))))) fun x21=>
  M.bind (M.det (runs_Has_c1 x21 target2)) fun v23=>
  cond (decide (v23 < 0))
   (M.pure (.next (((IntKind.i64.wrap (((IntKind.i64.wrap ((Int.fdiv ((IntKind.u64.wrap (IntKind.i64.wrap (i18+j19)))) (2 ^ 1)))))+1)),j19))))
   (M.pure (.next ((i18,(IntKind.i64.wrap ((Int.fdiv ((IntKind.u64.wrap (IntKind.i64.wrap (i18+j19)))) (2 ^ 1)))))))))
  (M.pure (.done i18))
def slices_BinarySearchFunc_sl_Run_Run_uint64_runs_Has_c1(x1:List TRun)(target2:Int):M (Int×Bool):=
 M.bind (M.loop (slices_BinarySearchFunc_sl_Run_Run_uint64_runs_Has_c1_l0 x1 target2) (0,(List.length x1:Int))) (fun i3=>
 M.bind (cond ((decide (i3 < (List.length x1:Int))))
  (M.bind (M.idx x1 i3) fun x28=>
  M.bind (M.det (runs_Has_c1 x28 target2)) fun v30=>
  M.pure (decide (v30=0)))
  (M.pure false)) (fun v26=>
 M.pure (i3,v26)))
def runs_Has(l1:List TRun)(n2:Int):M Bool:=
 M.bind (M.det (runs_Norm l1)) fun v3=>
 M.bind (M.det (slices_BinarySearchFunc_sl_Run_Run_uint64_runs_Has_c1 v3 n2)) fun v5=>
 M.bind (cond ((decide (v5.1 < (List.length v3:Int))))
  (M.bind (M.idx v3 v5.1) fun x9=>
  M.pure (decide (x9.lo ≤ n2)))
  (M.pure false)) (fun v7=>
 M.pure v7)
def ctx_toldF(p:TPart):Option (Int×List TRun):=if 0 < p.dev then some (p.dev,p.runs) else none
def ctx_told(c1:List TPart):M (List (Int×List TRun)):=
 M.need (AL.growOK 16 (List.length c1) (List.filterMap ctx_toldF c1)) <|
 M.pure ((AL.grow ([]:List (Int×List TRun)) (List.filterMap ctx_toldF c1)))
def ctx_Runs(c1:List TPart)(dev2:Int):M (List TRun):=
 M.bind (M.det (ctx_told c1)) fun v3=>
 M.bind (M.det (runs_Norm (AL.getZ v3 dev2 ([]:List TRun)))) fun v6=>
 M.pure v6
def ctx_Has(c1:List TPart)(d2:TDot):M Bool:=
 M.bind (cond (decide (0 < d2.dev))
  (M.bind (M.det (ctx_Runs c1 d2.dev)) fun v5=>
  M.bind (M.det (runs_Has v5 d2.n)) fun v7=>
  M.pure v7)
  (M.pure false)) (fun v3=>
 M.pure v3)
def slices_Compact_sl_Dot_Dot_o_l0(row1:List TDot)(k148:Int):Int×Int×List TDot → M (M.Step (Int×Int×List TDot) (Int×List TDot)):=fun⟨k197,k2_198,v199⟩=>
 cond ((decide (k2_198 < ((((List.length row1 - Int.toNat k148):Nat):Int)))))
  (M.bind (M.need ((0:Int) ≤ k2_198 ∧ k2_198 < (((List.length row1 - Int.toNat k148):Nat):Int))<|M.bind (M.idx v199 ((((Int.toNat k148)+Int.toNat k2_198):Nat):Int)) fun x203=>
  M.need ((0:Int) ≤ (IntKind.i64.wrap (k2_198 - 1)) ∧ (IntKind.i64.wrap (k2_198 - 1)) < (((List.length row1 - Int.toNat k148):Nat):Int))<|M.bind (M.idx v199 ((((Int.toNat k148)+Int.toNat (IntKind.i64.wrap (k2_198 - 1))):Nat):Int)) fun x207=>
  cond ((!(decide (x203.dev=x207.dev)&&decide (x203.n=x207.n))))
   (M.need ((0:Int) ≤ k2_198 ∧ k2_198 < (((List.length row1 - Int.toNat k148):Nat):Int))<|M.bind (M.idx v199 ((((Int.toNat k148)+Int.toNat k2_198):Nat):Int)) fun x212=>
   M.bind (M.idx v199 k197) fun x216=>
   M.pure (((IntKind.i64.wrap (k197+1)),(List.set v199 (Int.toNat k197) x212))))
   (M.pure (k197,v199))) (fun⟨k201,v202⟩=>
  M.pure (.next ((k201,(IntKind.i64.wrap (k2_198+1)),v202)))))
  (M.pure (.done (k197,v199)))
def slices_Compact_sl_Dot_Dot_o_l1(row1:List TDot):Int → M (M.Step Int (M.Ex Unit (List TDot))):=fun k148=>
 cond ((decide (k148 < ((List.length row1):Int))))
  (M.bind (M.bind (M.idx row1 k148) fun x150=>
  M.bind (M.idx row1 (IntKind.i64.wrap (k148 - 1))) fun x152=>
  cond (((decide (x150.dev=x152.dev)&&decide (x150.n=x152.n))))
   (M.need ((0:Int) ≤ k148 ∧ k148 ≤ (List.length row1:Int)) <|
   M.bind (M.loop (slices_Compact_sl_Dot_Dot_o_l0 row1 k148) (k148,1,row1)) (fun⟨k156,v157⟩=>
   M.need ((0:Int) ≤ k156 ∧ k156 ≤ (List.length v157:Int)) <|
   M.need ((Int.toNat k156)+(List.length v157 - Int.toNat k156) ≤ List.length v157) <|
   M.need ((0:Int) ≤ 0 ∧ (0:Int) ≤ k156 ∧ k156 ≤ (List.length ((List.take (Int.toNat k156) v157++List.replicate (List.length v157 - Int.toNat k156) (⟨0,0⟩:TDot)++List.drop ((Int.toNat k156)+(List.length v157 - Int.toNat k156)) v157)):Int)) <|
   M.pure (.ret ((.done ((.ret (((List.take (Int.toNat k156) ((List.take (Int.toNat k156) v157++List.replicate (List.length v157 - Int.toNat k156) (⟨0,0⟩:TDot)++List.drop ((Int.toNat k156)+(List.length v157 - Int.toNat k156)) v157))))))))))))
   (M.pure (.brk ()))) (M.exk (fun _=>
  M.pure (.next (IntKind.i64.wrap (k148+1))))))
  (M.pure (.done (.brk ())))
def slices_Compact_sl_Dot_Dot_o(row1:List TDot):M (List TDot):=
 cond ((decide (((List.length row1):Int) < 2)))
  (M.pure row1)
  (M.bind (M.loop (slices_Compact_sl_Dot_Dot_o_l1 row1) 1) (M.exk (fun _=>
  M.pure row1)))
def dot_Sort(l1:List TDot):M (List TDot):=
 M.bind (M.det (slices_Clone_sl_Dot_Dot l1)) fun v2=>
 M.need (List.length v2 < 4611686018427387904)<|M.bind (M.srt ltDot v2) fun s4=>
 M.bind (M.det (slices_Compact_sl_Dot_Dot_o s4)) fun y8=>
 M.pure y8
def kills_part_l0(l1:List TDot)(c2:List TPart)(has3:Bool):Int×List TDot → M (M.Step (Int×List TDot) (List TDot)):=fun⟨v23,out24⟩=>
 cond ((decide (v23 < (List.length l1:Int))))
  (M.bind (M.bind (M.idx l1 v23) fun x27=>
  M.bind (M.det (ctx_Has c2 x27)) fun v29=>
  cond (v29==has3)
   (M.need ((List.length out24+List.length ([x27]))*16 ≤ 140737488355328) <|
   M.pure (out24++[x27]))
   (M.pure out24)) (fun out26=>
  M.pure (.next (((IntKind.i64.wrap (v23+1)),out26)))))
  (M.pure (.done out24))
def kills_part(l1:List TDot)(c2:List TPart)(has3:Bool):M (List TDot):=
 M.bind (M.loop (kills_part_l0 l1 c2 has3) (0,([]:List TDot))) (fun out4=>
 M.bind (M.det (dot_Sort out4)) fun v33=>
 M.pure v33)
def kills_Keep(l1:List TDot)(c2:List TPart):M (List TDot):=
 M.bind (M.det (kills_part l1 c2 true)) fun v3=>
 M.pure v3
def outbox_Replay_l0(l1:List TEvent)(to3:List TPart)(dev2:Int):Int×List TEvent → M (M.Step (Int×List TEvent) (List TEvent)):=fun⟨v22,v23⟩=>
 cond ((decide (v22 < (List.length l1:Int))))
  (M.bind (M.idx l1 v22) fun x25=>
  M.bind (M.det (kills_Keep x25.kills to3)) fun v27=>
  M.bind (M.idx v23 v22) fun x29=>
  M.pure (.next (((IntKind.i64.wrap (v22+1)),(List.set v23 (Int.toNat v22) ((⟨(⟨dev2,(IntKind.u64.wrap ((IntKind.u64.wrap v22)+1))⟩:TDot),x25.kind,x25.cid,x25.field,x25.text,v27⟩:TEvent)))))))
  (M.pure (.done v23))
def outbox_Replay(l1:List TEvent)(dev2:Int)(to3:List TPart):M (List TEvent):=
 M.need ((0:Int) ≤ (List.length l1:Int) ∧ (List.length l1:Int)*80 ≤ 140737488355328) <|
 M.bind (M.loop (outbox_Replay_l0 l1 to3 dev2) ((0,(List.replicate (Int.toNat (List.length l1:Int)) (⟨(⟨0,0⟩:TDot),0,0,0,(⟨#[]⟩:ByteArray),([]:List TDot)⟩:TEvent))))) (fun v5=>
 M.pure v5)
def r07_Good(d1:TDot):M Bool:=
 M.bind (cond (decide (1 ≤ d1.dev))
  (cond (decide (1 ≤ d1.n))
   (M.pure (decide (d1.n < 281474976710656)))
   (M.pure false))
  (M.pure false)) (fun v2=>
 M.pure v2)
def r01_Split(v1:Int):M (Int×Int):=
 M.pure (((IntKind.u16.wrap (IntKind.u64.wrap (Int.tdiv v1 281474976710656))),(Int.tmod v1 281474976710656)))
def r07_Unpack(v1:Int):M (TDot×Bool):=
 M.bind (M.det (r01_Split v1)) fun v2=>
 M.bind (M.det (r07_Good (⟨v2.1,v2.2⟩:TDot))) fun v4=>
 cond (!v4)
  (M.pure ((⟨0,0⟩:TDot),false))
  (M.pure ((⟨v2.1,v2.2⟩:TDot),true))
def r11_Good(f1:Int):M Bool:=
 M.bind (cond (decide (1 ≤ f1))
  (M.pure (decide (f1 ≤ 5)))
  (M.pure false)) (fun v2=>
 M.pure v2)
def r11_Text_l0(s1:ByteArray):Int → M (M.Step Int (M.Ex Unit Bool)):=fun i19=>
 cond ((decide (i19 < (ByteArray.size s1:Int))))
  (M.bind (M.bind (M.idx (bytesL s1) i19) fun b22=>
  cond (decide (b22 < 32))
   (M.pure true)
   (M.bind (M.idx (bytesL s1) i19) fun b25=>
   M.pure (decide (126 < b25)))) (fun v21=>
  cond v21
   (M.pure (.done (.ret false)))
   (M.pure (.next (IntKind.i64.wrap (i19+1))))))
  (M.pure (.done (.brk ())))
def r11_Text(s1:ByteArray):M Bool:=
 M.bind (M.loop (r11_Text_l0 s1) 0) (M.exk (fun _=>
 M.pure ((decide ((ByteArray.size s1:Int) ≤ 60)))))
def r07_Cmp(a1:TDot)(b2:TDot):M Int:=
 cond (((decide (a1.dev=b2.dev)&&decide (a1.n=b2.n))))
  (M.pure 0)
  (M.bind (cond (decide (a1.dev < b2.dev))
   (M.pure true)
   (cond (decide (a1.dev=b2.dev))
    (M.pure (decide (a1.n < b2.n)))
    (M.pure false))) (fun v4=>
  cond v4
   (M.pure (-1))
   (M.pure 1)))
def r07_Rising_l0(l1:List TDot):Int → M (M.Step Int (M.Ex Unit Bool)):=fun i19=>
 cond ((decide (i19 < (List.length l1:Int))))
  (M.bind (M.idx l1 (IntKind.i64.wrap (i19 - 1))) fun x21=>
  M.bind (M.idx l1 i19) fun x23=>
  M.bind (M.det (r07_Cmp x21 x23)) fun v25=>
  cond (decide (0 ≤ v25))
   (M.pure (.done (.ret false)))
   (M.pure (.next (IntKind.i64.wrap (i19+1)))))
  (M.pure (.done (.brk ())))
def r07_Rising(l1:List TDot):M Bool:=
 M.bind (M.loop (r07_Rising_l0 l1) 1) (M.exk (fun _=>
 M.pure true))
def r07_Has_l0(l1:List TDot)(d2:TDot):Int → M (M.Step Int (M.Ex Unit Bool)):=fun i12=>
 cond ((decide (i12 < (List.length l1:Int))))
  (M.bind (M.idx l1 i12) fun x14=>
  cond (((decide (x14.dev=d2.dev)&&decide (x14.n=d2.n))))
   (M.pure (.done (.ret true)))
   (M.pure (.next (IntKind.i64.wrap (i12+1)))))
  (M.pure (.done (.brk ())))
def r07_Has(l1:List TDot)(d2:TDot):M Bool:=
 M.bind (M.loop (r07_Has_l0 l1 d2) 0) (M.exk (fun _=>
 M.pure false))
def r13_Good_l0(e1:TEvent):Int → M (M.Step Int (M.Ex Unit Bool)):=fun i37=>
 cond ((decide (i37 < (List.length e1.kills:Int))))
  (M.bind (M.idx e1.kills i37) fun x39=>
  M.bind (M.det (r07_Good x39)) fun v41=>
  cond (!v41)
   (M.pure (.done (.ret false)))
   (M.pure (.next (IntKind.i64.wrap (i37+1)))))
  (M.pure (.done (.brk ())))
def r13_Good(e1:TEvent):M Bool:=
 M.bind (M.det (r07_Unpack e1.cid)) fun v2=>
 M.bind (cond (!v2.2)
  (M.pure true)
  (M.bind (M.det (r07_Good e1.dot)) fun v6=>
  cond (!v6)
   (M.pure true)
   (cond (!decide (e1.kind=1))
    (M.pure (!decide (e1.kind=2)))
    (M.pure false)))) (fun v4=>
 cond v4
  (M.pure false)
  (M.bind (cond (decide (e1.kind=1))
   (M.bind (M.det (r11_Good e1.field)) fun v13=>
   cond (!v13)
    (M.pure true)
    (M.bind (M.det (r11_Text e1.text)) fun v16=>
    cond (!v16)
     (M.pure true)
     (cond (decide (e1.kind=2))
      (cond (!decide (e1.field=0))
       (M.pure true)
       (M.pure ((!decide (e1.text=(⟨#[]⟩:ByteArray))))))
      (M.pure false))))
   (cond (decide (e1.kind=2))
    (cond (!decide (e1.field=0))
     (M.pure true)
     (M.pure ((!decide (e1.text=(⟨#[]⟩:ByteArray))))))
    (M.pure false))) (fun v11=>
  cond v11
   (M.pure false)
   (M.bind (M.loop (r13_Good_l0 e1) 0) (M.exk (fun _=>
   M.bind (cond ((decide ((List.length e1.kills:Int) ≤ 256)))
    (M.bind (M.det (r07_Rising e1.kills)) fun v46=>
    cond v46
     (M.bind (M.det (r07_Has e1.kills e1.dot)) fun v49=>
     M.pure (!v49))
     (M.pure false))
    (M.pure false)) (fun v44=>
   M.pure v44)))))))
def r09_Has(c1:List TPart)(d2:TDot):M Bool:=
 M.bind (M.bind (M.det (r07_Good d2)) fun v4=>
 cond v4
  (M.bind (M.det (r09_Runs c1 d2.dev)) fun v7=>
  M.bind (M.det (r06_Has v7 d2.n)) fun v9=>
  M.pure v9)
  (M.pure false)) (fun v3=>
 M.pure v3)
def r13_All_l0(a1:List TEvent)(b2:List TEvent):Int → M (M.Step Int (M.Ex Unit Bool)):=fun i21=>
 cond ((decide (i21 < (List.length a1:Int))))
  (M.bind (M.idx a1 i21) fun x23=>
  M.bind (M.idx b2 i21) fun x25=>
  M.bind (M.det (r13_Same x23 x25)) fun v27=>
  cond (!v27)
   (M.pure (.done (.ret false)))
   (M.pure (.next (IntKind.i64.wrap (i21+1)))))
  (M.pure (.done (.brk ())))
def r13_All(a1:List TEvent)(b2:List TEvent):M Bool:=
 cond ((!decide ((List.length a1:Int)=(List.length b2:Int))))
  (M.pure false)
  (M.bind (M.loop (r13_All_l0 a1 b2) 0) (M.exk (fun _=>
  M.pure true)))
def r07_Put_l0(l1:List TDot)(d2:TDot):Int×List TDot → M (M.Step (Int×List TDot) (List TDot)):=fun⟨i26,out27⟩=>
 cond ((decide (i26 < (List.length l1:Int))))
  (M.bind (M.bind (M.idx l1 i26) fun x30=>
  M.bind (M.det (r07_Cmp x30 d2)) fun v32=>
  cond (decide (v32 < 0))
   (M.bind (M.idx l1 i26) fun x35=>
   M.need ((List.length out27+List.length ([x35]))*16 ≤ 140737488355328) <|
   M.pure (out27++[x35]))
   (M.pure out27)) (fun out29=>
  M.pure (.next (((IntKind.i64.wrap (i26+1)),out29)))))
  (M.pure (.done out27))
def r07_Put_l1(l1:List TDot)(d2:TDot):Int×List TDot → M (M.Step (Int×List TDot) (List TDot)):=fun⟨i62,out63⟩=>
 cond ((decide (i62 < (List.length l1:Int))))
  (M.bind (M.bind (M.idx l1 i62) fun x66=>
  M.bind (M.det (r07_Cmp x66 d2)) fun v68=>
  cond (decide (0 < v68))
   (M.bind (M.idx l1 i62) fun x71=>
   M.need ((List.length out63+List.length ([x71]))*16 ≤ 140737488355328) <|
   M.pure (out63++[x71]))
   (M.pure out63)) (fun out65=>
  M.pure (.next (((IntKind.i64.wrap (i62+1)),out65)))))
  (M.pure (.done out63))
def r07_Put(l1:List TDot)(d2:TDot):M (List TDot):=
 M.bind (M.loop (r07_Put_l0 l1 d2) (0,([]:List TDot))) (fun out3=>
 M.need ((List.length out3+List.length ([d2]))*16 ≤ 140737488355328) <|
 M.bind (M.loop (r07_Put_l1 l1 d2) (0,(out3++[d2]))) (fun out39=>
 M.pure out39))
def r17_Keep_l0(l1:List TDot)(c2:List TPart):List TDot×Int → M (M.Step (List TDot×Int) (List TDot)):=fun⟨out28,i29⟩=>
 cond ((decide (i29 < (List.length l1:Int))))
  (M.bind (M.bind (M.idx l1 i29) fun x32=>
  M.bind (M.det (r09_Has c2 x32)) fun v34=>
  cond v34
   (M.bind (M.idx l1 i29) fun x37=>
   M.bind (M.det (r07_Put out28 x37)) fun v39=>
   M.pure v39)
   (M.pure out28)) (fun out31=>
  M.pure (.next ((out31,(IntKind.i64.wrap (i29+1)))))))
  (M.pure (.done out28))
def r17_Keep(l1:List TDot)(c2:List TPart):M (List TDot):=
 M.bind (M.loop (r17_Keep_l0 l1 c2) (([]:List TDot),0)) (fun out3=>
 M.pure out3)
def r29_Replay_l0(l1:List TEvent)(to3:List TPart)(dev2:Int):Int×List TEvent → M (M.Step (Int×List TEvent) (List TEvent)):=fun⟨i19,out20⟩=>
 cond ((decide (i19 < (List.length l1:Int))))
  (M.bind (M.idx l1 i19) fun x22=>
  M.bind (M.det (r17_Keep x22.kills to3)) fun v24=>
  M.need ((List.length out20+List.length ([(⟨(⟨dev2,(IntKind.u64.wrap ((IntKind.u64.wrap i19)+1))⟩:TDot),x22.kind,x22.cid,x22.field,x22.text,v24⟩:TEvent)]))*80 ≤ 140737488355328) <|
  M.pure (.next (((IntKind.i64.wrap (i19+1)),(out20++[(⟨(⟨dev2,(IntKind.u64.wrap ((IntKind.u64.wrap i19)+1))⟩:TDot),x22.kind,x22.cid,x22.field,x22.text,v24⟩:TEvent)])))))
  (M.pure (.done out20))
def r29_Replay(l1:List TEvent)(dev2:Int)(to3:List TPart):M (List TEvent):=
 M.bind (M.loop (r29_Replay_l0 l1 to3 dev2) (0,([]:List TEvent))) (fun out4=>
 M.pure out4)
end Go.Ep
namespace Go.Proofs
open Go.Shelf
def Try.pdq49_ren : Go.Shelf.Ren:=⟨fun | 14=>49 | 20=>55 | 21=>56 | 22=>57 | 23=>58 | 24=>59 | 25=>60 | 26=>61 | 27=>62 | 46=>67 | 47=>68 | 48=>69 | 49=>70 | 50=>71 | 15=>50 | 57=>80 | 28=>63 | 29=>64 | n=>n,fun | 24=>34 | 22=>35 | 3=>3 | 25=>63 | 4=>4 | 0=>0 | 46=>89 | 45=>88 | 50=>74 | 66=>99 | 39=>82 | 55=>32 | 70=>103 | 76=>110 | 77=>111 | 53=>95 | 5=>5 | 9=>9 | n=>n,fun | n=>n⟩
theorem Try.pdq49 : Go.Proofs.SlLaysF0.n14 Try.prog Try.pdq49_ren:={
 mixed:=by kernel_rfl
 f14:=⟨Try.f49.name,by decide,Try.func49.trans (congrArg some (by kernel_rfl))⟩
 f15:=Try.func50.trans (congrArg some (by kernel_rfl))
 f20:=⟨Try.f55.name,by decide,Try.func55.trans (congrArg some (by kernel_rfl))⟩
 f21:=⟨Try.f56.name,by decide,Try.func56.trans (congrArg some (by kernel_rfl))⟩
 f22:=⟨Try.f57.name,by decide,Try.func57.trans (congrArg some (by kernel_rfl))⟩
 f23:=⟨Try.f58.name,by decide,Try.func58.trans (congrArg some (by kernel_rfl))⟩
 f24:=⟨Try.f59.name,by decide,Try.func59.trans (congrArg some (by kernel_rfl))⟩
 f25:=⟨Try.f60.name,by decide,Try.func60.trans (congrArg some (by kernel_rfl))⟩
 f26:=⟨Try.f61.name,by decide,Try.func61.trans (congrArg some (by kernel_rfl))⟩
 f27:=⟨Try.f62.name,by decide,Try.func62.trans (congrArg some (by kernel_rfl))⟩
 f28:=Try.func63.trans (congrArg some (by kernel_rfl))
 f29:=Try.func64.trans (congrArg some (by kernel_rfl))
 f46:=⟨Try.f67.name,by decide,Try.func67.trans (congrArg some (by kernel_rfl))⟩
 f47:=Try.func68.trans (congrArg some (by kernel_rfl))
 f48:=Try.func69.trans (congrArg some (by kernel_rfl))
 f49:=⟨Try.f70.name,by decide,Try.func70.trans (congrArg some (by kernel_rfl))⟩
 f50:=⟨Try.f71.name,by decide,Try.func71.trans (congrArg some (by kernel_rfl))⟩
 f57:=⟨Try.f80.name,by decide,Try.func80.trans (congrArg some (by kernel_rfl))⟩
 t0:=Try.underlying0
 a0:=Try.isAgg0
 z0:=Try.sizeOf0
 v0:=Try.zeroValue0
 t3:=Try.underlying3
 a3:=Try.isAgg3
 z3:=Try.sizeOf3
 v3:=Try.zeroValue3
 t4:=Try.underlying4
 a4:=Try.isAgg4
 z4:=Try.sizeOf4
 v4:=Try.zeroValue4
 t5:=Try.underlying5
 a5:=Try.isAgg5
 z5:=Try.sizeOf5
 v5:=Try.zeroValue5
 t9:=Try.underlying9
 a9:=Try.isAgg9
 z9:=Try.sizeOf9
 v9:=Try.zeroValue9
 t22:=Try.underlying35
 a22:=Try.isAgg35
 z22:=Try.sizeOf35
 v22:=Try.zeroValue35
 t25:=Try.underlying63
 a25:=Try.isAgg63
 z25:=Try.sizeOf63
 v25:=Try.zeroValue63
 t39:=Try.underlying82
 a39:=Try.isAgg82
 z39:=Try.sizeOf82
 v39:=Try.zeroValue82
 t45:=Try.underlying88
 a45:=Try.isAgg88
 z45:=Try.sizeOf88
 v45:=Try.zeroValue88
 t46:=Try.underlying89
 a46:=Try.isAgg89
 z46:=Try.sizeOf89
 v46:=Try.zeroValue89
 t50:=Try.underlying74
 a50:=Try.isAgg74
 z50:=Try.sizeOf74
 v50:=Try.zeroValue74
 t53:=Try.underlying95
 a53:=Try.isAgg95
 z53:=Try.sizeOf95
 v53:=Try.zeroValue95
 t55:=Try.underlying32
 a55:=Try.isAgg32
 z55:=Try.sizeOf32
 v55:=Try.zeroValue32
 t66:=Try.underlying99
 a66:=Try.isAgg99
 z66:=Try.sizeOf99
 v66:=Try.zeroValue99
 t70:=Try.underlying103
 a70:=Try.isAgg103
 z70:=Try.sizeOf103
 v70:=Try.zeroValue103
 t76:=Try.underlying110
 a76:=Try.isAgg110
 z76:=Try.sizeOf110
 v76:=Try.zeroValue110
 t77:=Try.underlying111
 a77:=Try.isAgg111
 z77:=Try.sizeOf111
 v77:=Try.zeroValue111 }
def Try.pdq66_ren : Go.Shelf.Ren:=⟨fun | 14=>66 | 20=>72 | 21=>73 | 22=>74 | 23=>75 | 24=>76 | 25=>77 | 26=>78 | 27=>79 | 46=>81 | 47=>68 | 48=>69 | 49=>82 | 50=>83 | 15=>50 | 57=>84 | 28=>63 | 29=>64 | n=>n,fun | 24=>66 | 22=>28 | 3=>3 | 25=>85 | 4=>4 | 0=>0 | 46=>89 | 45=>88 | 50=>74 | 66=>99 | 39=>82 | 55=>32 | 70=>103 | 76=>110 | 77=>111 | 53=>95 | 5=>5 | 9=>9 | n=>n,fun | n=>n⟩
theorem Try.pdq66 : Go.Proofs.SlLaysF0.n14 Try.prog Try.pdq66_ren:={
 mixed:=by kernel_rfl
 f14:=⟨Try.f66.name,by decide,Try.func66.trans (congrArg some (by kernel_rfl))⟩
 f15:=Try.func50.trans (congrArg some (by kernel_rfl))
 f20:=⟨Try.f72.name,by decide,Try.func72.trans (congrArg some (by kernel_rfl))⟩
 f21:=⟨Try.f73.name,by decide,Try.func73.trans (congrArg some (by kernel_rfl))⟩
 f22:=⟨Try.f74.name,by decide,Try.func74.trans (congrArg some (by kernel_rfl))⟩
 f23:=⟨Try.f75.name,by decide,Try.func75.trans (congrArg some (by kernel_rfl))⟩
 f24:=⟨Try.f76.name,by decide,Try.func76.trans (congrArg some (by kernel_rfl))⟩
 f25:=⟨Try.f77.name,by decide,Try.func77.trans (congrArg some (by kernel_rfl))⟩
 f26:=⟨Try.f78.name,by decide,Try.func78.trans (congrArg some (by kernel_rfl))⟩
 f27:=⟨Try.f79.name,by decide,Try.func79.trans (congrArg some (by kernel_rfl))⟩
 f28:=Try.func63.trans (congrArg some (by kernel_rfl))
 f29:=Try.func64.trans (congrArg some (by kernel_rfl))
 f46:=⟨Try.f81.name,by decide,Try.func81.trans (congrArg some (by kernel_rfl))⟩
 f47:=Try.func68.trans (congrArg some (by kernel_rfl))
 f48:=Try.func69.trans (congrArg some (by kernel_rfl))
 f49:=⟨Try.f82.name,by decide,Try.func82.trans (congrArg some (by kernel_rfl))⟩
 f50:=⟨Try.f83.name,by decide,Try.func83.trans (congrArg some (by kernel_rfl))⟩
 f57:=⟨Try.f84.name,by decide,Try.func84.trans (congrArg some (by kernel_rfl))⟩
 t0:=Try.underlying0
 a0:=Try.isAgg0
 z0:=Try.sizeOf0
 v0:=Try.zeroValue0
 t3:=Try.underlying3
 a3:=Try.isAgg3
 z3:=Try.sizeOf3
 v3:=Try.zeroValue3
 t4:=Try.underlying4
 a4:=Try.isAgg4
 z4:=Try.sizeOf4
 v4:=Try.zeroValue4
 t5:=Try.underlying5
 a5:=Try.isAgg5
 z5:=Try.sizeOf5
 v5:=Try.zeroValue5
 t9:=Try.underlying9
 a9:=Try.isAgg9
 z9:=Try.sizeOf9
 v9:=Try.zeroValue9
 t22:=Try.underlying28
 a22:=Try.isAgg28
 z22:=Try.sizeOf28
 v22:=Try.zeroValue28
 t25:=Try.underlying85
 a25:=Try.isAgg85
 z25:=Try.sizeOf85
 v25:=Try.zeroValue85
 t39:=Try.underlying82
 a39:=Try.isAgg82
 z39:=Try.sizeOf82
 v39:=Try.zeroValue82
 t45:=Try.underlying88
 a45:=Try.isAgg88
 z45:=Try.sizeOf88
 v45:=Try.zeroValue88
 t46:=Try.underlying89
 a46:=Try.isAgg89
 z46:=Try.sizeOf89
 v46:=Try.zeroValue89
 t50:=Try.underlying74
 a50:=Try.isAgg74
 z50:=Try.sizeOf74
 v50:=Try.zeroValue74
 t53:=Try.underlying95
 a53:=Try.isAgg95
 z53:=Try.sizeOf95
 v53:=Try.zeroValue95
 t55:=Try.underlying32
 a55:=Try.isAgg32
 z55:=Try.sizeOf32
 v55:=Try.zeroValue32
 t66:=Try.underlying99
 a66:=Try.isAgg99
 z66:=Try.sizeOf99
 v66:=Try.zeroValue99
 t70:=Try.underlying103
 a70:=Try.isAgg103
 z70:=Try.sizeOf103
 v70:=Try.zeroValue103
 t76:=Try.underlying110
 a76:=Try.isAgg110
 z76:=Try.sizeOf110
 v76:=Try.zeroValue110
 t77:=Try.underlying111
 a77:=Try.isAgg111
 z77:=Try.sizeOf111
 v77:=Try.zeroValue111 }
def Try.bits50_ren : Go.Shelf.Ren:=⟨fun | 15=>50 | 28=>63 | 29=>64 | n=>n,fun | 39=>82 | 3=>3 | 53=>95 | 55=>32 | 4=>4 | 5=>5 | 9=>9 | n=>n,fun | n=>n⟩
theorem Try.bits50 : Go.Proofs.SlLaysF0.n15 Try.prog Try.bits50_ren:={
 mixed:=by kernel_rfl
 f15:=Try.func50.trans (congrArg some (by kernel_rfl))
 f28:=Try.func63.trans (congrArg some (by kernel_rfl))
 f29:=Try.func64.trans (congrArg some (by kernel_rfl))
 t3:=Try.underlying3
 a3:=Try.isAgg3
 z3:=Try.sizeOf3
 v3:=Try.zeroValue3
 t4:=Try.underlying4
 a4:=Try.isAgg4
 z4:=Try.sizeOf4
 v4:=Try.zeroValue4
 t5:=Try.underlying5
 a5:=Try.isAgg5
 z5:=Try.sizeOf5
 v5:=Try.zeroValue5
 t9:=Try.underlying9
 a9:=Try.isAgg9
 z9:=Try.sizeOf9
 v9:=Try.zeroValue9
 t39:=Try.underlying82
 a39:=Try.isAgg82
 z39:=Try.sizeOf82
 v39:=Try.zeroValue82
 t53:=Try.underlying95
 a53:=Try.isAgg95
 z53:=Try.sizeOf95
 v53:=Try.zeroValue95
 t55:=Try.underlying32
 a55:=Try.isAgg32
 z55:=Try.sizeOf32
 v55:=Try.zeroValue32 }
end Go.Proofs
