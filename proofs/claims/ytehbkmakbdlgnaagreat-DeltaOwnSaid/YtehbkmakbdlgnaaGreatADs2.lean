/- Side texts. -/
import GoSem.Core.View
import Derived.Test.YtehbkmakbdlgnaaGreatADs1
set_option linter.unusedVariables false
set_option linter.unusedSimpArgs false
namespace Go.Ep
open Go.RowKit
def bdel(m:Mp)(ns:List Int)(bs:List Nat):List Nat:=match xE ns m 0 with | some j=>bs.eraseIdx j | none=>bs
theorem zMa{ns:List Int}{v:List DV}:∀ {m:Mp},JZ m ns=none->wFa m ns v=m++[(ns,v)]
 | [],_=>rfl
 | (n,cs)::r,h=>by
  by_cases e:n=ns
  ·simp[JZ,e] at h
  ·simp only[JZ,e,if_false] at h;simp[wFa,e,zMa h]
theorem xIa{ns:List Int}{v:List DV}:∀ {m:Mp} {cs:List DV},JZ m ns=some cs->(wFa m ns v).length=m.length
 | (n,c)::r,cs,h=>by
  by_cases e:n=ns
  ·simp[wFa,e]
  ·simp only[JZ,e,if_false] at h;simp[wFa,e,xIa h]
theorem xJa{ns:List Int}{v:List DV}:∀ {m:Mp} {j:Nat},xE ns m 0=some j->∀ i,(wFa m ns v)[i]?=if i=j then some (ns,v) else m[i]?
 | (n,c)::r,j,h,i=>by
  unfold xE at h
  by_cases e:n=ns
  ·subst e;rw[if_pos rfl] at h
   cases h
   simp only[wFa,if_true]
   cases i <;> simp
  ·rw[if_neg e,vI] at h
   cases hp:xE ns r 0 with
   | none=>simp[hp] at h
   | some j'=>
    simp[hp] at h;subst h;simp only[wFa,e,if_false]
    cases i with
    | zero=>simp;omega
    | succ i=>
     rw[List.getElem?_cons_succ,xJa hp i,List.getElem?_cons_succ]
     by_cases hi:i=j'
     ·simp[hi];omega
     ·rw[if_neg hi,if_neg (by omega)]
theorem zNa{ns:List Int}:∀ {m:Mp},JZ m ns=none->mdel m ns=m
 | [],_=>rfl
 | (n,cs)::r,h=>by
  by_cases e:n=ns
  ·simp[JZ,e] at h
  ·simp only[JZ,e,if_false] at h;simp[mdel,e,zNa h]
theorem Jt{ns:List Int}:∀ {m:Mp} {j:Nat},xE ns m 0=some j->mdel m ns=m.eraseIdx j
 | (n,c)::r,j,h=>by
  unfold xE at h
  by_cases e:n=ns
  ·subst e;rw[if_pos rfl] at h
   cases h
   simp[mdel]
  ·rw[if_neg e,vI] at h
   cases hp:xE ns r 0 with
   | none=>simp[hp] at h
   | some j'=>
    simp[hp] at h;subst h;simp only[mdel,e,if_false];rw[Jt hp,Nat.add_comm 1 j',List.eraseIdx_cons_succ]
theorem UZ(ks:List IntKind)(ns:List Int):Instr.sameBits 10000 (uq ks ns) (uq ks ns)=true:=by
 have agg:∀ (ks:List IntKind) (ns:List Int),Instr.sameBits 10000 (.agg (List.zipWith Value.int ks ns).toArray) (.agg (List.zipWith Value.int ks ns).toArray)=true:=by
  intro ks ns;show((List.zipWith Value.int ks ns).toArray.size==(List.zipWith Value.int ks ns).toArray.size&&((List.zipWith Value.int ks ns).toArray.toList.zip (List.zipWith Value.int ks ns).toArray.toList).all fun(x,y)=>Instr.sameBits 9999 x y)=true;simp only[beq_self_eq_true,Bool.true_and]
  generalize hl:List.zipWith Value.int ks ns=l
  have:∀ v∈l,∃ k n,v=Value.int k n:=by
   intro v hv;rw[<- hl] at hv;obtain⟨i,hi,rfl⟩:=List.getElem_of_mem hv;exact⟨_,_,List.getElem_zipWith⟩
  clear hl
  induction l with
  | nil=>rfl
  | cons v r ih=>
   obtain⟨k,n,rfl⟩:=this v (by simp);simp only[List.zip_cons_cons,List.all_cons,Bool.and_eq_true];refine⟨?_,ih fun v hv=>this v (by simp[hv])⟩;show(k==k&&n==n)=true;simp
 rcases ks with _ | ⟨k,_ | ⟨k2,ks⟩⟩ <;> rcases ns with _ | ⟨n,_ | ⟨n2,ns⟩⟩ <;> first | exact agg _ _ | (show(k==k&&n==n)=true;simp)
section
variable{P:Program}
theorem MapRd.key{w:World}{S:Nat->Prop}{ks:List IntKind}{ag:Bool}{m:Mp}{bs:List Nat}{ck:Nat}{es:Array MapEntry}(hm:MapRd w S ks ag m bs ck es):∀ (i:Nat) (e:MapEntry) (n:List Int) (c:List DV),es.toList[i]?=some e->m[i]?=some (n,c)->e.key=uq ks n/\n.length=ks.length:=fun i e n c h1 h2=>by
 obtain⟨e',us,g1,g2,g3,g4,g5,g6,g7,g8⟩:=hm.ent i n c h2;have:e'=e:=by simp at h1;rw[g1] at h1;cases h1;rfl
 subst this;exact⟨g2,g7⟩
theorem qi{w:World}{S:Nat->Prop}{t kt et:TypeId}{ks:List IntKind}{ag:Bool}{m:Mp}{bs:List Nat}{ck b:Nat}{es:Array MapEntry}{ns:List Int}{us:List Value}{cs:List DV}(hu:P.underlying t=some (.map kt et))(K:KeyOK P kt ks)(hn:ns.length=ks.length)
  (hh:w.heap[b]?=some (.map es ck)) (hm:MapRd w S ks ag m bs ck es) (hl:us.length=cs.length) (h1:ag=false->cs.length=1) (ho:∀ u∈us,u.oneCell'=true) (hr:∀ (j:Nat) (x:DV) (u:Value),cs[j]?=some x->us[j]?=some u->DRd w S x u) :
  ∃ es',(Instr.mapUpdate t (.map (some b)) (uq ks ns) (elV ag us)).run P w=.ok () { w with heap:=w.heap.setIfInBounds b (.map es' (vDa m ns ck)) }/\MapRd w S ks ag (wFa m ns cs) (bset m ns bs ck) (vDa m ns ck) es':=by
 have hf:=K.find w ns m es.toList hn (by simpa using hm.size) hm.key
 cases hp:xE ns m 0 with
 | none=>
  have hg:=Xc ns m 0 hp;rw[hp] at hf;refine⟨es.push { key:=uq ks ns,val:=elV ag us,born:=ck },?_,?_⟩
  ·simp only[Instr.mapUpdate,Sem.run_bind,run_underlying hu,Result.andThen_ok,MapKept.run_getObj_map hh,K.check w _ ns hn,hf,Option.bind_none,vDa,hg];exact MapKept.run_setObj_map _ hh
  ·rw[zMa hg];simp only[bset,vDa,hg];refine⟨by simp[hm.size],by simp[hm.stamps],?_,?_,?_⟩
   ·intro x hx;rcases List.mem_append.1 hx with h | h
    ·have:=hm.below x h;omega
    ·simp at h;omega
   ·rw[List.nodup_append];refine⟨hm.nodup,by simp,?_⟩;intro x hx y hy;simp at hy;have:=hm.below x hx;omega
   ·intro i n c hi;rw[List.getElem?_append] at hi
    split at hi
    ·rename_i hlt
     obtain⟨e,us',g1,g⟩:=hm.ent i n c hi;exact⟨e,us',by rw[Array.getElem?_push,if_neg (by rw[hm.size];omega)];exact g1,g⟩
    ·rename_i hge
     have hi0:i=m.length:=by
      have:i - m.length < 1:=by simpa using (List.getElem?_eq_some_iff.1 hi).1
      omega
     subst hi0;simp at hi;obtain⟨rfl,rfl⟩:=hi;exact⟨_,us,by rw[Array.getElem?_push,if_pos hm.size.symm],rfl,rfl,hl,h1,ho,hn,hr⟩
 | some j=>
  obtain⟨k,hjk,cs0,h2,h3⟩:=XC ns m 0 j hp;have:j=k:=by omega
  subst this;obtain⟨e0,us0,g1,g2,g3,g4,g5,g6,g7,g8⟩:=hm.ent j ns cs0 h2;rw[hp] at hf;have he:es.toList[j]?=some e0:=by simpa using g1
  simp only[Option.bind_some,he,Option.map_some] at hf;refine⟨es.modify j fun e=>{ e with key:=uq ks ns,val:=elV ag us },?_,?_⟩
  ·have hsame:(Instr.keyThatStays (((es[j]?).map (·.key)).getD (uq ks ns)) (uq ks ns)).run P w=.ok (uq ks ns) w:=by
    simp only[g1,Option.map_some,Option.getD_some,g2,Instr.keyThatStays,UZ,if_true,Sem.run_pure]
   simp only[Instr.mapUpdate,Sem.run_bind,run_underlying hu,Result.andThen_ok,MapKept.run_getObj_map hh,K.check w _ ns hn,hf,hsame,vDa,h3];exact MapKept.run_setObj_map _ hh
  ·simp only[bset,vDa,h3];refine⟨by rw[xIa h3];simp[hm.size],?_,hm.below,hm.nodup,?_⟩
   ·rw[hm.stamps];apply List.ext_getElem?;intro i;simp only[List.getElem?_map,Array.getElem?_toList,Array.getElem?_modify]
    by_cases hij:j=i
    ·subst hij;simp[g1]
    ·simp[hij]
   ·intro i n c hi;rw[xJa hp] at hi
    by_cases hij:i=j
    ·subst hij;rw[if_pos rfl] at hi
     cases hi
     exact⟨_,us,by rw[Array.getElem?_modify,if_pos rfl,g1];rfl,rfl,rfl,hl,h1,ho,hn,hr⟩
    ·rw[if_neg hij] at hi;obtain⟨e,us',q1,q⟩:=hm.ent i n c hi;exact⟨e,us',by rw[Array.getElem?_modify,if_neg (Ne.symm hij)];exact q1,q⟩
theorem wGa{w:World}{S:Nat->Prop}{t kt et ty:TypeId}{ats:Array TypeId}{ks:List IntKind}{ag:Bool}{m:Mp}{bs:List Nat}{ck b:Nat}{es:Array MapEntry}{ns:List Int}(hats:ats[0]?=some t)(hu:P.underlying t=some (.map kt et))(K:KeyOK P kt ks)(hn:ns.length=ks.length)
  (hh:w.heap[b]?=some (.map es ck)) (hm:MapRd w S ks ag m bs ck es) :
  ∃ es',(Builtin.delete_ ats ty #[.map (some b),uq ks ns]).run P w=.ok (.tuple #[]) { w with heap:=w.heap.setIfInBounds b (.map es' ck) }/\MapRd w S ks ag (mdel m ns) (bdel m ns bs) ck es':=by
 have hf:=K.find w ns m es.toList hn (by simpa using hm.size) hm.key;have a0:(#[Value.map (some b),uq ks ns]:Array Value)[0]?=some (.map (some b)):=rfl;have a1:(#[Value.map (some b),uq ks ns]:Array Value)[1]?=some (uq ks ns):=rfl
 cases hp:xE ns m 0 with
 | none=>
  have hg:=Xc ns m 0 hp;rw[hp] at hf;refine⟨es,?_,by simp only[zNa hg,bdel,hp];exact hm⟩;simp only[Builtin.delete_,hats,a0,a1,Sem.run_bind,run_underlying hu,Result.andThen_ok,MapKept.run_getObj_map hh,K.check w _ ns hn,hf,Option.bind_none,MapKept.run_setObj_map _ hh,Sem.run_pure]
 | some j=>
  obtain⟨k,hjk,cs0,h2,h3⟩:=XC ns m 0 j hp;have:j=k:=by omega
  subst this;obtain⟨e0,us0,g1,_⟩:=hm.ent j ns cs0 h2;have hjm:j < m.length:=(List.getElem?_eq_some_iff.1 h2).1;have hje:j < es.size:=by rw[hm.size];exact hjm
  have he:es.toList[j]?=some e0:=by simpa using g1
  rw[hp] at hf;simp only[Option.bind_some,he,Option.map_some] at hf;have hsz:(es.eraseIdxIfInBounds j).toList=es.toList.eraseIdx j:=by simp[Array.eraseIdxIfInBounds,hje]
  refine⟨es.eraseIdxIfInBounds j,?_,?_⟩
  ·simp only[Builtin.delete_,hats,a0,a1,Sem.run_bind,run_underlying hu,Result.andThen_ok,MapKept.run_getObj_map hh,K.check w _ ns hn,hf,MapKept.run_setObj_map _ hh,Sem.run_pure]
  ·rw[Jt hp];simp only[bdel,hp];refine⟨?_,?_,?_,?_,?_⟩
   ·have:=congrArg List.length hsz;simp only[Array.length_toList] at this;rw[this,List.length_eraseIdx,List.length_eraseIdx];simp[hm.size]
   ·rw[hsz,hm.stamps];apply List.ext_getElem?;intro i;simp only[List.getElem?_map,List.getElem?_eraseIdx]
    split <;> simp
   ·intro x hx;exact hm.below x (List.mem_of_mem_eraseIdx hx)
   ·exact hm.nodup.sublist (List.eraseIdx_sublist _ _)
   ·intro i n c hi;rw[List.getElem?_eraseIdx] at hi
    split at hi
    ·rename_i hlt
     obtain⟨e,us',q1,q⟩:=hm.ent i n c hi;refine⟨e,us',?_,q⟩;rw[<- Array.getElem?_toList,hsz,List.getElem?_eraseIdx,if_pos hlt,Array.getElem?_toList];exact q1
    ·rename_i hlt
     obtain⟨e,us',q1,q⟩:=hm.ent (i+1) n c hi;refine⟨e,us',?_,q⟩;rw[<- Array.getElem?_toList,hsz,List.getElem?_eraseIdx,if_neg hlt,Array.getElem?_toList];exact q1
end
section
variable{P:Program}{ctx:Ctx}{Q:PQ}{s:PState}
variable{dst:Option Tmp}{ty:TypeId}{pos:String}{after:Array Edge}{gd:Option (Nat×Bool)}
theorem LR.makeMap{id:Nat}{t:TypeId}(ks:List IntKind)(ag:Bool)(hf:s.fresh id=true):Local P ctx ⟨some id,.makeMap t none,ty,pos,after,gd⟩ s (s.newO id (.map ks ag [] [] 0) (.mp id)):=
 yW (o:=⟨some id,.makeMap t none,ty,pos,after,gd⟩) fun a w g hg=>by
  refine⟨.map (some w.heap.size),w.alloc (.map #[] 0),by simp[execOp,Instr.makeMap,Result.andThen],upd g id (some (w.heap.size,0)),?_⟩;have hb:=Below.alloc1 w (.map #[] 0);have hnew:=hg.new hb hf (some (w.heap.size,0)) (fun b n e=>by cases e;simp) (.map ks ag [] [] 0)
   (.map ks ag [] [] 0 w.heap.size 0 #[] (zQ _ _ _) (heap_alloc_new w _) ⟨rfl,rfl,by simp,by simp,by simp⟩)
  exact hnew.put (some id) (.mp id w.heap.size 0 (zQ _ _ _))
theorem Zw(w:World)(b k:Nat)(o:Obj)(h:k≠b):({ w with heap:=w.heap.setIfInBounds b o }:World).heap[k]?=w.heap[k]?:=by simp[Ne.symm h]
theorem Xd(w:World)(b:Nat)(o:Obj)(h:b < w.heap.size):({ w with heap:=w.heap.setIfInBounds b o }:World).heap[b]?=some o:=by simp[h]
theorem vEa{ag:Bool}{cs:List DV}{q:PV}(hq:elP ag cs=q)(h1:ag=false->cs.length=1){w:World}{g:zb}{S:Nat->Prop}{u:Value}(h:Rd w g S q u) :
  ∃ us,u=elV ag us/\us.length=cs.length/\(∀ u∈us,u.oneCell'=true)/\∀ (j:Nat) (x:DV) (u:Value),cs[j]?=some x->us[j]?=some u->DRd w S x u:=by
 subst hq
 cases ag with
 | true=>
  cases h with
  | agg _ us hl hr ho=>
   refine⟨us,rfl,by simpa using hl.symm,ho,fun j x u hx hu=>?_⟩;have:=hr j (.d x) u (by simp[hx]) hu
   cases this with
   | d h=>exact h
 | false=>
  match cs,h1 rfl,h with
  | [x],_,.d hd=>
   refine⟨[u],rfl,rfl,by simpa using hd.one,fun j y v hy hv=>?_⟩
   cases j with
   | zero=>simp at hy hv;subst hy;subst hv;exact hd
   | succ j=>simp at hy
theorem LR.mapUpdate{x kx vx:Operand}{t kt et:TypeId}{id:Nat}{ks:List IntKind}{ag:Bool}{m:Mp}{bs bs':List Nat}{ck ck':Nat}{ns:List Int}{cs:List DV}{q:PV}(hu:P.underlying t=some (.map kt et))(K:KeyOK P kt ks)(hx:s.ev x=some (.mp id))(hl:look s.objs id=some (.map ks ag m bs ck))
  (hk:s.ev kx=some (yIa ks ns)) (hn:ns.length=ks.length) (hv:s.ev vx=some q) (hq:elP ag cs=q) (h1:ag=false->cs.length=1) (hbs:bset m ns bs ck=bs') (hck:vDa m ns ck=ck') :
  Local P ctx ⟨none,.mapUpdate t x kx vx,ty,pos,after,gd⟩ s (s.setO id (.map ks ag (wFa m ns cs) bs' ck')):=by
 subst hbs;subst hck;refine Zv (o:=⟨none,.mapUpdate t x kx vx,ty,pos,after,gd⟩) fun a w g hg=>?_
 have h:=hg.ev hx
 generalize hxv:a.eval x=v at h
 cases h with
 | mpNil _ hgn=>
  cases hg.objs id _ hl with
  | map _ _ _ _ _ blk' n' es h' hh hm=>rw[hgn] at h';cases h'
 | mp _ blk n hgi=>
  cases hg.objs id _ hl with
  | map _ _ _ _ _ blk' n' es h' hh hm=>
   rw[hgi] at h';cases h';obtain⟨us,e1,e2,e3,e4⟩:=vEa hq h1 (hg.ev hv);obtain⟨es',hrun,hm'⟩:=qi hu K hn hh hm e2 h1 e3 e4;refine⟨_,by simp only[execOp,hxv,Zo (hg.ev hk),e1,Sem.run_bind,hrun,Result.andThen_ok,Sem.run_pure];rfl,g,?_⟩;have hown:=hg.own id _ blk n hl hgi;have hother:∀ k,k < w.heap.size->k≠blk->({ w with heap:=w.heap.setIfInBounds blk (.map es' (vDa m ns ck)) }:World).heap[k]?=w.heap[k]?:=fun k _ hne=>Zw w blk k _ hne
   have hst:yV w { w with heap:=w.heap.setIfInBounds blk (.map es' (vDa m ns ck)) } (zk ctx g s.objs):=⟨by simp,fun b ⟨_,h2⟩ hlt=>hother b hlt fun e=>by subst e;exact h2 id _ n hl hgi⟩
   exact hg.wrote hl hgi rfl rfl rfl (by simp) hother hown.2 (.map ks ag _ _ _ blk n es' hgi (Xd w blk _ hown.1) (hm'.keep hst (fun b hb _=>wW hl b hb)))
theorem VH{o:Oper}{id:Nat}{ob:Ob}(ho:o.dst=some id)(hf:s.fresh id=true){a:Act}{w:World}{g:zb}(hg:RelG ctx g s a w){it:Obj}
  (h:∀ (w':World) (g':zb) (S':Nat->Prop),yV w w' (zk ctx g s.objs)->(∀ b,zk ctx g s.objs b->b < w.heap.size->S' b)->(∀ j,j≠id->g' j=g j)->g' id=some (w.heap.size,0)->w'.heap[w.heap.size]?=some it->ObRd w' g' S' id ob) :
  Rel ctx (s.newO id ob (.ref id 0)) (a.put o.dst (.pointer (some ⟨w.heap.size,0,none⟩))) (w.alloc it):=by
 have hb:=Below.alloc1 w it;have hst:yV w (w.alloc it) (zk ctx g s.objs):=⟨hb.size,fun b _ hlt=>hb.block b hlt⟩
 have hF:∀ b,zk ctx g s.objs b->b < w.heap.size->zk ctx (upd g id (some (w.heap.size,0))) (yD id ob s.objs) b:=by
  intro b ⟨h1,h2⟩ hlt;refine⟨h1,fun j o n hl hg'=>?_⟩;rw[zD] at hl
  by_cases hj:j=id
  ·subst hj;rw[zQ] at hg';cases hg';omega
  ·rw[if_neg hj] at hl;rw[ya hj] at hg';exact h2 j o n hl hg'
 have hnew:=hg.new hb hf (some (w.heap.size,0)) (fun b n e=>by cases e;simp) ob (h _ _ _ hst hF (fun j hj=>ya hj) (zQ _ _ _) (heap_alloc_new w _));rw[ho];exact⟨_,hnew.put (some id) (.ref id 0 w.heap.size 0 (zQ _ _ _))⟩
theorem LR.rangeO{id mid:Nat}{x:Operand}{t kt et:TypeId}{ks:List IntKind}{ag:Bool}{m:Mp}{bs:List Nat}{ck:Nat}(hu:P.underlying t=some (.map kt et))(hx:s.ev x=some (.mp mid))(hl:look s.objs mid=some (.map ks ag m bs ck))(hf:s.fresh id=true) :
  Local P ctx ⟨some id,.range t x,ty,pos,after,gd⟩ s (s.newO id (.iterO mid bs ck []) (.ref id 0)):=
 yW (o:=⟨some id,.range t x,ty,pos,after,gd⟩) fun a w g hg=>by
  have h:=hg.ev hx
  generalize hv:a.eval x=v at h
  cases h with
  | mpNil _ hgn=>
   cases hg.objs mid _ hl with
   | map _ _ _ _ _ blk' n' es h' hh hm=>rw[hgn] at h';cases h'
  | mp _ blk n hgi=>
   cases hg.objs mid _ hl with
   | map _ _ _ _ _ blk' n' es h' hh hm=>
    rw[hgi] at h';cases h';refine⟨_,_,?_,VH (o:=⟨some id,.range t x,ty,pos,after,gd⟩) rfl hf hg (it:=.mapIter (some blk) ck #[] ck) fun w' g' S' _ _ h1 h2 h3=>.iterO mid bs ck [] w.heap.size 0 blk n h2 h3 (by
     rw[h1 mid (fun e=>by subst e;rw[Jp hf] at hl;cases hl)];exact hgi)⟩
    simp[execOp,hv,Instr.range,run_underlying hu,MapKept.run_getObj_map hh,Result.andThen]
theorem PWl.rangeD{ops:Array Oper}{rest:List Oper}{id:Nat}{x:Operand}{t kt et:TypeId}{ks:List IntKind}{ag:Bool}{m:Mp}(hu:P.underlying t=some (.map kt et))(hx:s.ev x=some (.md ks ag m))(hf:s.fresh id=true)(hgd:gd=none)
  (h:∀ bs ck,bs.length=m.length->bs.Nodup->PWl P ctx ops Q rest (s.newO id (.iterD ks ag m bs ck []) (.ref id 0))):PWl P ctx ops Q (⟨some id,.range t x,ty,pos,after,gd⟩::rest) s:=by
 rintro a w ⟨g,hg⟩;have hr:=hg.ev hx
 generalize hv:a.eval x=v at hr
 refine wpList_plain hgd fun K hK=>?_
 cases hr with
 | md _ _ _ bs ck b es hS hb hh hm=>
  have hlen:bs.length=m.length:=by rw[hm.stamps];simp[hm.size]
  have hrun:(execOp a.eval ⟨some id,.range t x,ty,pos,after,gd⟩).run P w=.ok (.value (.pointer (some ⟨w.heap.size,0,none⟩))) (w.alloc (.mapIter (some b) ck #[] ck)):=by
   simp[execOp,hv,Instr.range,run_underlying hu,MapKept.run_getObj_map hh,Result.andThen]
  unfold Oper.wp;rw[hrun];exact hK _ _ (h bs ck hlen hm.nodup _ _ (VH (o:=⟨some id,.range t x,ty,pos,after,gd⟩) rfl hf hg fun w' g' S' hst hS' h1 h2 h3=>.iterD ks ag m bs ck [] w.heap.size 0 b es h2 h3 (hS' b hS hb) (Nat.lt_of_lt_of_le hb hst.1) (by rw[hst.2 b hS hb];exact hh) (hm.keep hst hS')))
 | mdNil=>
  have hrun:(execOp a.eval ⟨some id,.range t x,ty,pos,after,gd⟩).run P w=.ok (.value (.pointer (some ⟨w.heap.size,0,none⟩))) (w.alloc (.mapIter none 0 #[] 0)):=by
   simp[execOp,hv,Instr.range,run_underlying hu,Result.andThen]
  unfold Oper.wp;rw[hrun];exact hK _ _ (h [] 0 rfl (by simp) _ _ (VH (o:=⟨some id,.range t x,ty,pos,after,gd⟩) rfl hf hg fun w' g' S' hst hS' h1 h2 h3=>.iterN ks ag w.heap.size 0 h2 h3))
theorem xKa {w : World} {b r ck : Nat} {es : Array MapEntry} {seen : List Nat} (hr : w.heap[r]? = some (.mapIter (some b) ck seen.toArray ck)) (hb : w.heap[b]? = some (.map es ck)) (hlt : ∀ (i : Nat) (e : MapEntry), es[i]? = some e -> e.born < ck) (ty : TypeId) :
    ∃ w1 : World, w1.heap=w.heap/\w1.os=w.os/\w1.tape=w.tape/\w1.output=w.output /\
      (((Instr.next (.pointer (some ⟨r, 0, none⟩)) false ty).run P w=.ok (.tuple #[.bool false]) w1/\∀ (i : Nat) (e : MapEntry), es[i]?=some e->e.born∈seen) \/
       ∃ (i : Nat) (e : MapEntry), es[i]?=some e/\e.born∉seen/\(Instr.next (.pointer (some ⟨r, 0, none⟩)) false ty).run P w=.ok (.tuple #[.bool true, e.key, e.val]) { w1 with heap := w1.heap.setIfInBounds r (.mapIter (some b) ck (seen.toArray.push e.born) ck) }) := by
  have hgr : (getObj r).run P w=.ok (.mapIter (some b) ck seen.toArray ck) w := by simp[getObj, Sem.run, hr]
  have hgb := MapKept.run_getObj_map (P := P) hb;have hnot : (!seen.toArray.isEmpty&&!es.isEmpty&&es.all (·.born >= ck))=false := by
    cases he : es.isEmpty with
    | true => simp
    | false =>
      have h0 : 0 < es.size := by
        rcases Nat.eq_zero_or_pos es.size with h | h
        · have : es=#[] := Array.eq_empty_of_size_eq_zero h;subst this; simp at he
        · exact h
      have h1 := hlt 0 es[0] (Array.getElem?_eq_getElem h0);have : es.all (·.born >= ck)=false := by
        cases ha : es.all (·.born >= ck) with
        | false => rfl
        | true =>
          have := Array.all_eq_true_iff_forall_mem.1 ha es[0] (by simp);simp at this;omega
      simp[this]
  have hold : (es.filter fun e => !seen.toArray.contains e.born).filter (fun e => e.born < ck)=es.filter fun e => !seen.toArray.contains e.born := by
    apply Array.ext';simp only[Array.toList_filter];rw[List.filter_eq_self.2];intro e he;have he := (List.mem_filter.1 he).1;obtain⟨i, hi, rfl⟩ := List.getElem_of_mem he;have := hlt i _ (by simp at hi ⊢; exact Array.getElem?_eq_getElem hi);simpa using this
  have hnew : (es.filter fun e => !seen.toArray.contains e.born).filter (fun e => e.born >= ck)=#[] := by
    apply Array.ext';simp only[Array.toList_filter];rw[List.filter_eq_nil_iff.2]
    · intro e he;have he := (List.mem_filter.1 he).1;obtain⟨i, hi, rfl⟩ := List.getElem_of_mem he;have := hlt i _ (by simp at hi ⊢; exact Array.getElem?_eq_getElem hi);simp at this ⊢;exact this
  generalize hleft : (es.filter fun e => !seen.toArray.contains e.born)=left at hold hnew
  have hunf : ∀ (k : Nat) (w1 : World), (choose (.mapNext ((if left.isEmpty then #[none] else #[]) ++ (left ++ #[]).map some : Array (Option MapEntry)).size)).run P w = .ok k w1 ->
      (Instr.next (.pointer (some ⟨r, 0, none⟩)) false ty).run P w=(match ((if left.isEmpty then #[none] else #[])++(left++#[]).map some : Array (Option MapEntry))[k]? with
        | some (some e) => (do setObj r (.mapIter (some b) ck (seen.toArray.push e.born) ck); pure (.tuple #[.bool true, e.key, e.val]) : Sem Value).run P w1
        | some none => .ok (.tuple #[.bool false]) w1
        | none => (stuck "Next: no such candidate" : Sem Value).run P w1) := by
    intro k w1 hk;simp only[Instr.next, Sem.run_bind, hgr, Result.andThen_ok, hgb, hnot, Bool.false_eq_true, if_false, hleft, hold, hnew, hk]
    split <;> simp_all
  by_cases hemp : left.isEmpty=true
  · have hl0 : left=#[] := by simpa using hemp
    refine⟨w, rfl, rfl, rfl, rfl, .inl ⟨?_, ?_⟩⟩
    · have hc : (choose (.mapNext ((if left.isEmpty then #[none] else #[]) ++ (left ++ #[]).map some : Array (Option MapEntry)).size)).run P w = .ok 0 w := by
        subst hl0;simp[Question.forced]
      rw[hunf 0 w hc];subst hl0;simp
    · intro i e he
      by_cases hs : e.born∈seen
      · exact hs
      · exfalso;have : e ∈ left := by
          rw[<- hleft, Array.mem_filter];exact⟨Array.mem_of_getElem? he, by simpa using hs⟩
        rw[hl0] at this;simp at this
  · have hcand : ((if left.isEmpty then #[none] else #[])++(left++#[]).map some : Array (Option MapEntry))=left.map some := by simp[hemp]
    have hpos : 0 < left.size := by
      rcases Nat.eq_zero_or_pos left.size with h | h
      · have : left=#[] := Array.eq_empty_of_size_eq_zero h;subst this; simp at hemp
      · exact h
    obtain⟨k, w1, hk, hklt, e1, e2, e3, e4⟩ : ∃ (k : Nat) (w1 : World), (choose (.mapNext ((if left.isEmpty then #[none] else #[])++(left++#[]).map some : Array (Option MapEntry)).size)).run P w=.ok k w1/\k < left.size/\w1.heap=w.heap/\w1.os=w.os/\w1.tape=w.tape/\w1.output=w.output := by
      rw[hcand];rw[run_choose_drew]
      by_cases hfo : (Question.mapNext (left.map some : Array (Option MapEntry)).size).forced=true
      · rw[if_pos hfo]; exact⟨0, w, rfl, hpos, rfl, rfl, rfl, rfl⟩
      · rw[if_neg hfo]; exact⟨_, w.drew, rfl, by simp only[Question.cut, Array.size_map]; exact Nat.mod_lt _ hpos, rfl, rfl, rfl, rfl⟩
    refine⟨w1, e1, e2, e3, e4, .inr ?_⟩;have hin : left[k]∈es.filter fun e => !seen.toArray.contains e.born := by rw[hleft]; simp
    obtain⟨h1, h2⟩ := Array.mem_filter.1 hin;obtain⟨i, hi, hie⟩ := Array.getElem_of_mem h1;refine⟨i, left[k], by rw[<- hie]; exact Array.getElem?_eq_getElem hi, by simpa using h2, ?_⟩;rw[hunf k w1 hk, hcand];have : (left.map some : Array (Option MapEntry))[k]?=some (some left[k]) := by simp[hklt]
    rw[this];have hset : (setObj r (.mapIter (some b) ck (seen.toArray.push left[k].born) ck)).run P w1=.ok () { w1 with heap := w1.heap.setIfInBounds r (.mapIter (some b) ck (seen.toArray.push left[k].born) ck) } := by
      simp[setObj, Sem.run, e1, hr]
    simp only[Sem.run_bind, hset, Result.andThen_ok, Sem.run_pure]
theorem xLa{bs:List Nat}(h:bs.Nodup){i j:Nat}(hi:i < bs.length)(hj:j < bs.length)(e:bs.getD i 0=bs.getD j 0):i=j:=by
 have e':bs[i]=bs[j]:=by simpa[List.getD,hi,hj] using e
 have hp:=List.pairwise_iff_getElem.1 h;rcases Nat.lt_trichotomy i j with h1 | h1 | h1
 ·exact absurd e' (hp i j hi hj h1)
 ·exact h1
 ·exact absurd e'.symm (hp j i hj hi h1)
section
variable{ops:Array Oper}{rest:List Oper}{it:Operand}{id:Nat}{ks:List IntKind}{ag:Bool}{m:Mp}{bs:List Nat}{ck:Nat}{L:List Nat}
theorem PWl.nextD(hx:s.ev it=some (.ref id 0))(hl:look s.objs id=some (.iterD ks ag m bs ck L))(hL:∀ i∈L,i < m.length)(hgd:gd=none)
  (hdone:(∀ i,i < m.length->i∈L)->PWl P ctx ops Q rest (s.putD dst (.tup [.d (.v (.bool false))])))
  (hstep:∀ i,i < m.length->i∉L->PWl P ctx ops Q rest ((s.setO id (.iterD ks ag m bs ck (L++[i]))).putD dst (.tup [.d (.v (.bool true)),.junk,.junk]))) :
  PWl P ctx ops Q (⟨dst,.next it false,ty,pos,after,gd⟩::rest) s:=by
 rintro a w ⟨g,hg⟩;have hr:=hg.ev hx
 generalize hv:a.eval it=v at hr
 refine wpList_plain hgd fun K hK=>?_
 have tupF:Rd w g (zk ctx g s.objs) (.tup [.d (.v (.bool false))]) (.tuple [.bool false].toArray):=.tup _ [.bool false] rfl (fun i p u hp hu=>by
  match i with
  | 0=>simp at hp hu;subst hp;subst hu;exact .d (.v _ rfl)
  | _+1=>simp at hp)
 cases hr with
 | ref _ _ blk n hgi=>
  cases hg.objs id _ hl with
  | iterN _ _ blk' n' h' hh=>
   rw[hgi] at h';cases h';have hrun:(execOp a.eval ⟨dst,.next it false,ty,pos,after,gd⟩).run P w=.ok (.value (.tuple #[.bool false])) w:=by
    have hgr:(getObj blk).run P w=.ok (.mapIter none 0 #[] 0) w:=by simp[getObj,Sem.run,hh]
    simp only[execOp,hv,Instr.next,Sem.run_bind,hgr,Result.andThen_ok,Sem.run_pure]
   unfold Oper.wp;rw[hrun];exact hK _ _ (hdone (by simp) _ _ ⟨g,hg.put dst tupF⟩)
  | iterD _ _ _ _ _ _ blk' n' b es h' hh hS hb hb2 hm=>
   rw[hgi] at h';cases h';have hblen:bs.length=m.length:=by rw[hm.stamps];simp[hm.size]
   have hborn:∀ (i:Nat) (e:MapEntry),es[i]?=some e->e.born=bs.getD i 0/\i < m.length:=fun i e he=>by
    have hi:i < es.size:=(Array.getElem?_eq_some_iff.1 he).1;rw[hm.stamps];refine⟨?_,by rw[<- hm.size];exact hi⟩;simp[List.getD,he]
   obtain⟨w1,e1,e2,e3,e4,hcase⟩:=xKa (P:=P) hh hb2 (fun i e he=>by
    have:=hborn i e he;rw[this.1];refine hm.below _ ?_;simp[List.getD,hblen,this.2]) ty
   have hst:yV w w1 (zk ctx g s.objs):=⟨by rw[e1];exact Nat.le_refl _,fun b _ _=>by rw[e1]⟩
   have hg1:RelG ctx g s a w1:=hg.below ⟨e2,e3,e4,by rw[e1];exact Nat.le_refl _,fun k _=>by rw[e1]⟩;rcases hcase with⟨hrun,hall⟩ | ⟨i,e,he,hns,hrun⟩
   ·unfold Oper.wp;have:(execOp a.eval ⟨dst,.next it false,ty,pos,after,gd⟩).run P w=.ok (.value (.tuple #[.bool false])) w1:=by simp only[execOp,hv,Sem.run_bind,hrun,Result.andThen_ok,Sem.run_pure]
    rw[this];refine hK _ _ (hdone (fun i hi=>?_) _ _ ⟨g,hg1.put dst (tupF.keep hst (fun _ hb _=>hb) (fun _ _=>rfl))⟩);have hi':i < es.size:=by rw[hm.size];exact hi
    have:=hall i es[i] (Array.getElem?_eq_getElem hi');rw[(hborn i _ (Array.getElem?_eq_getElem hi')).1,List.mem_map] at this;obtain⟨j,hj,hje⟩:=this;have:=xLa hm.nodup (by rw[hblen];exact hL j hj) (by rw[hblen];exact hi) hje;rw[<- this];exact hj
   ·have hb':=hborn i e he;have hnL:i∉L:=fun hi=>hns (by rw[hb'.1];exact List.mem_map.2 ⟨i,hi,rfl⟩)
    unfold Oper.wp;have hexec:(execOp a.eval ⟨dst,.next it false,ty,pos,after,gd⟩).run P w=.ok (.value (.tuple #[.bool true,e.key,e.val])) { w1 with heap:=w1.heap.setIfInBounds blk (.mapIter (some b) ck ((L.map fun i=>bs.getD i 0).toArray.push e.born) ck) }:=by simp only[execOp,hv,Sem.run_bind,hrun,Result.andThen_ok,Sem.run_pure]
    rw[hexec];have hown:=hg1.own id _ blk n hl hgi;have hother:∀ k,k < w1.heap.size->k≠blk->({ w1 with heap:=w1.heap.setIfInBounds blk (.mapIter (some b) ck ((L.map fun i=>bs.getD i 0).toArray.push e.born) ck) }:World).heap[k]?=w1.heap[k]?:=fun k _ hne=>Zw w1 blk k _ hne
    have hst2:yV w { w1 with heap:=w1.heap.setIfInBounds blk (.mapIter (some b) ck ((L.map fun i=>bs.getD i 0).toArray.push e.born) ck) } (zk ctx g s.objs):=⟨by simp[e1],fun b' hb3 hlt=>by
     rw[hother b' (by rw[e1];exact hlt) fun e=>by subst e;exact hb3.2 id _ n hl hgi,e1]⟩
    have hwr:=hg1.wrote hl hgi (w':={ w1 with heap:=w1.heap.setIfInBounds blk (.mapIter (some b) ck ((L.map fun i=>bs.getD i 0).toArray.push e.born) ck) }) rfl rfl rfl (by simp) hother hown.2
     (ob:=.iterD ks ag m bs ck (L++[i])) (.iterD ks ag m bs ck (L++[i]) blk n b es hgi (by rw[Xd w1 blk _ hown.1];simp[hb'.1]) (wW hl b hS) (by simp[e1];exact hb)
      (by rw[hst2.2 b hS hb];exact hb2) (hm.keep hst2 (fun b hb _=>wW hl b hb)))
    exact hK _ _ (hstep i hb'.2 hnL _ _ ⟨g,hwr.put dst (.tup _ [.bool true,e.key,e.val] rfl (fun j p u hp hu=>by
     match j with
     | 0=>simp at hp hu;subst hp;subst hu;exact .d (.v _ rfl)
     | 1=>simp at hp hu;subst hp;exact .junk _
     | 2=>simp at hp hu;subst hp;exact .junk _
     | _+3=>simp at hp))⟩)
theorem PWl.nextO{mid:Nat}(hx:s.ev it=some (.ref id 0))(hl:look s.objs id=some (.iterO mid bs ck L))(hlm:look s.objs mid=some (.map ks ag m bs ck))(hL:∀ i∈L,i < m.length)(hgd:gd=none)
  (hdone:(∀ i,i < m.length->i∈L)->PWl P ctx ops Q rest (s.putD dst (.tup [.d (.v (.bool false))])))
  (hstep:∀ i,i < m.length->i∉L->PWl P ctx ops Q rest ((s.setO id (.iterO mid bs ck (L++[i]))).putD dst (.tup [.d (.v (.bool true)),.junk,.junk]))) :
  PWl P ctx ops Q (⟨dst,.next it false,ty,pos,after,gd⟩::rest) s:=by
 rintro a w ⟨g,hg⟩;have hr:=hg.ev hx
 generalize hv:a.eval it=v at hr
 refine wpList_plain hgd fun K hK=>?_
 have tupF:Rd w g (zk ctx g s.objs) (.tup [.d (.v (.bool false))]) (.tuple [.bool false].toArray):=.tup _ [.bool false] rfl (fun i p u hp hu=>by
  match i with
  | 0=>simp at hp hu;subst hp;subst hu;exact .d (.v _ rfl)
  | _+1=>simp at hp)
 cases hr with
 | ref _ _ blk n hgi=>
  cases hg.objs id _ hl with
  | iterON _ _ blk' n' h' hh hgm=>
   cases hg.objs mid _ hlm with
   | map _ _ _ _ _ bm nm es hgm2 hb2 hm=>rw[hgm] at hgm2;cases hgm2
  | iterO _ _ _ _ blk' n' b n2 h' hh hgm=>
   rw[hgi] at h';cases h'
   cases hg.objs mid _ hlm with
   | map _ _ _ _ _ bm nm es hgm2 hb2 hm=>
    rw[hgm] at hgm2;cases hgm2;have hblen:bs.length=m.length:=by rw[hm.stamps];simp[hm.size]
    have hborn:∀ (i:Nat) (e:MapEntry),es[i]?=some e->e.born=bs.getD i 0/\i < m.length:=fun i e he=>by
     have hi:i < es.size:=(Array.getElem?_eq_some_iff.1 he).1;rw[hm.stamps];refine⟨?_,by rw[<- hm.size];exact hi⟩;simp[List.getD,he]
    obtain⟨w1,e1,e2,e3,e4,hcase⟩:=xKa (P:=P) hh hb2 (fun i e he=>by
     have:=hborn i e he;rw[this.1];refine hm.below _ ?_;simp[List.getD,hblen,this.2]) ty
    have hst:yV w w1 (zk ctx g s.objs):=⟨by rw[e1];exact Nat.le_refl _,fun b _ _=>by rw[e1]⟩
    have hg1:RelG ctx g s a w1:=hg.below ⟨e2,e3,e4,by rw[e1];exact Nat.le_refl _,fun k _=>by rw[e1]⟩;rcases hcase with⟨hrun,hall⟩ | ⟨i,e,he,hns,hrun⟩
    ·unfold Oper.wp;have:(execOp a.eval ⟨dst,.next it false,ty,pos,after,gd⟩).run P w=.ok (.value (.tuple #[.bool false])) w1:=by simp only[execOp,hv,Sem.run_bind,hrun,Result.andThen_ok,Sem.run_pure]
     rw[this];refine hK _ _ (hdone (fun i hi=>?_) _ _ ⟨g,hg1.put dst (tupF.keep hst (fun _ hb _=>hb) (fun _ _=>rfl))⟩);have hi':i < es.size:=by rw[hm.size];exact hi
     have:=hall i es[i] (Array.getElem?_eq_getElem hi');rw[(hborn i _ (Array.getElem?_eq_getElem hi')).1,List.mem_map] at this;obtain⟨j,hj,hje⟩:=this;have:=xLa hm.nodup (by rw[hblen];exact hL j hj) (by rw[hblen];exact hi) hje;rw[<- this];exact hj
    ·have hb':=hborn i e he;have hnL:i∉L:=fun hi=>hns (by rw[hb'.1];exact List.mem_map.2 ⟨i,hi,rfl⟩)
     unfold Oper.wp;have hexec:(execOp a.eval ⟨dst,.next it false,ty,pos,after,gd⟩).run P w=.ok (.value (.tuple #[.bool true,e.key,e.val])) { w1 with heap:=w1.heap.setIfInBounds blk (.mapIter (some b) ck ((L.map fun i=>bs.getD i 0).toArray.push e.born) ck) }:=by simp only[execOp,hv,Sem.run_bind,hrun,Result.andThen_ok,Sem.run_pure]
     rw[hexec];have hown:=hg1.own id _ blk n hl hgi;have hother:∀ k,k < w1.heap.size->k≠blk->({ w1 with heap:=w1.heap.setIfInBounds blk (.mapIter (some b) ck ((L.map fun i=>bs.getD i 0).toArray.push e.born) ck) }:World).heap[k]?=w1.heap[k]?:=fun k _ hne=>Zw w1 blk k _ hne
     have hwr:=hg1.wrote hl hgi (w':={ w1 with heap:=w1.heap.setIfInBounds blk (.mapIter (some b) ck ((L.map fun i=>bs.getD i 0).toArray.push e.born) ck) }) rfl rfl rfl (by simp) hother hown.2
      (ob:=.iterO mid bs ck (L++[i])) (.iterO mid bs ck (L++[i]) blk n b n2 hgi (by rw[Xd w1 blk _ hown.1];simp[hb'.1]) hgm)
     exact hK _ _ (hstep i hb'.2 hnL _ _ ⟨g,hwr.put dst (.tup _ [.bool true,e.key,e.val] rfl (fun j p u hp hu=>by
      match j with
      | 0=>simp at hp hu;subst hp;subst hu;exact .d (.v _ rfl)
      | 1=>simp at hp hu;subst hp;exact .junk _
      | 2=>simp at hp hu;subst hp;exact .junk _
      | _+3=>simp at hp))⟩)
theorem jQ{w:World}{b r ck i:Nat}{es:Array MapEntry}{bs:List Nat}{L:List Nat}{e:MapEntry}(hr:w.heap[r]?=some (.mapIter (some b) ck ((L++[i]).map fun i=>bs.getD i 0).toArray ck))(hb:w.heap[b]?=some (.map es ck))(hs:bs=es.toList.map (·.born))(hn:bs.Nodup)(hi:es[i]?=some e) :
  (Instr.entry (.pointer (some ⟨r,0,none⟩))).run P w=.ok (.tuple #[e.key,e.val]) w:=by
 have hgr:(getObj r).run P w=.ok (.mapIter (some b) ck ((L++[i]).map fun i=>bs.getD i 0).toArray ck) w:=by simp[getObj,Sem.run,hr]
 have hgb:=MapKept.run_getObj_map (P:=P) hb;have hlt:i < es.size:=(Array.getElem?_eq_some_iff.1 hi).1;have hborn:bs.getD i 0=e.born:=by rw[hs];simp[List.getD,hi]
 have hback:(((L++[i]).map fun i=>bs.getD i 0).toArray).back?=some e.born:=by
  have h:=hborn;simp[List.getD] at h ⊢;exact h
 have hfind:es.find? (·.born==e.born)=some e:=by
  rw[<- Array.find?_toList];have he:es.toList[i]?=some e:=by simpa using hi
  have hnd:(es.toList.map (·.born)).Nodup:=by rw[<- hs];exact hn
  clear hr hgr hgb hback hborn hs hb hn hi hlt
  generalize es.toList=l at he hnd
  induction l generalizing i with
  | nil=>simp at he
  | cons x r ih=>
   cases i with
   | zero=>simp at he;subst he;simp
   | succ i=>
    simp at he;simp only[List.map_cons,List.nodup_cons] at hnd;have hne:x.born≠e.born:=fun h=>hnd.1 (by rw[h];exact List.mem_map.2 ⟨e,List.mem_of_getElem? he,rfl⟩)
    rw[List.find?_cons_of_neg (by simpa using hne)];exact ih he hnd.2
 simp only[Instr.entry,Sem.run_bind,hgr,Result.andThen_ok,hback,hgb,bne_self_eq_false,Bool.false_eq_true,if_false,hfind,Sem.run_pure]
theorem LR.entryD{i:Nat}{ns:List Int}{cs:List DV}{kp p:PV}(hx:s.ev it=some (.ref id 0))(hl:look s.objs id=some (.iterD ks ag m bs ck (L++[i])))(hi:m[i]?=some (ns,cs))(hkp:yIa ks ns=kp)(hp:elP ag cs=p) :
  Local P ctx ⟨dst,.entry it,ty,pos,after,gd⟩ s (s.putD dst (.tup [kp,p])):=
 zG (o:=⟨dst,.entry it,ty,pos,after,gd⟩) fun a w g hg=>by
  have hr:=hg.ev hx
  generalize hv:a.eval it=v at hr
  cases hr with
  | ref _ _ blk n hgi=>
   have hob:=hg.objs id _ hl
   generalize hLL:L++[i]=LL at hob
   cases hob with
   | iterN=>simp at hLL
   | iterD _ _ _ _ _ _ blk' n' b es h' hh hS hb hb2 hm=>
    rw[hgi] at h';cases h';rw[<- hLL] at hh;obtain⟨e,us,g1,g2,g3,g4,g5,g6,g7,g8⟩:=hm.ent i ns cs hi;have:=jQ (P:=P) hh hb2 hm.stamps hm.nodup g1;refine⟨.tuple [e.key,e.val].toArray,by simp only[execOp,hv,Sem.run_bind,this,Result.andThen_ok,Sem.run_pure],.tup _ [e.key,e.val] rfl (fun j p' u hp' hu=>?_)⟩;subst hkp;subst hp
    match j with
    | 0=>simp at hp' hu;subst hp';subst hu;rw[g2];exact yTa w g _ ks ns
    | 1=>simp at hp' hu;subst hp';subst hu;rw[g3];exact xHa g4 g5 g6 g8
    | _+2=>simp at hp'
theorem LR.entryO{mid i:Nat}{ns:List Int}{cs:List DV}{kp p:PV}(hx:s.ev it=some (.ref id 0))(hl:look s.objs id=some (.iterO mid bs ck (L++[i])))(hlm:look s.objs mid=some (.map ks ag m bs ck))(hi:m[i]?=some (ns,cs))(hkp:yIa ks ns=kp)(hp:elP ag cs=p) :
  Local P ctx ⟨dst,.entry it,ty,pos,after,gd⟩ s (s.putD dst (.tup [kp,p])):=
 zG (o:=⟨dst,.entry it,ty,pos,after,gd⟩) fun a w g hg=>by
  have hr:=hg.ev hx
  generalize hv:a.eval it=v at hr
  cases hr with
  | ref _ _ blk n hgi=>
   have hob:=hg.objs id _ hl
   generalize hLL:L++[i]=LL at hob
   cases hob with
   | iterON=>simp at hLL
   | iterO _ _ _ _ blk' n' b n2 h' hh hgm=>
    subst hLL;rw[hgi] at h';cases h'
    cases hg.objs mid _ hlm with
    | map _ _ _ _ _ bm nm es hgm2 hb2 hm=>
     rw[hgm] at hgm2;cases hgm2;obtain⟨e,us,g1,g2,g3,g4,g5,g6,g7,g8⟩:=hm.ent i ns cs hi;have:=jQ (P:=P) hh hb2 hm.stamps hm.nodup g1;refine⟨.tuple [e.key,e.val].toArray,by simp only[execOp,hv,Sem.run_bind,this,Result.andThen_ok,Sem.run_pure],.tup _ [e.key,e.val] rfl (fun j p' u hp' hu=>?_)⟩;subst hkp;subst hp
     match j with
     | 0=>simp at hp' hu;subst hp';subst hu;rw[g2];exact yTa w g _ ks ns
     | 1=>simp at hp' hu;subst hp';subst hu;rw[g3];exact xHa g4 g5 g6 g8
     | _+2=>simp at hp'
end
end
end Go.Ep
namespace Go.Ep
open Go.RowKit
def MapNew(w:World)(S:Nat->Prop)(base:Nat)(ks:List IntKind)(ag:Bool)(m:Mp)(u:Value):Prop:=
 ∃ blk es bs ck,u=.map (some blk)/\base<=blk/\w.heap[blk]?=some (.map es ck)/\MapRd w (fun b=>(S b\/base<=b)/\b≠blk) ks ag m bs ck es
def PMap(P:Program)(f:FuncId)(ps:List PV)(ks:List IntKind)(ag:Bool)(m:Mp):Prop:=
 ∀ (w:World) (S:Nat->Prop) (vs:List Value),ps.length=vs.length->(∀ (i:Nat) (p:PV) (v:Value),ps[i]?=some p->vs[i]?=some v->Rd w g0 S p v) ->
  Calls P f vs.toArray w (fun en w'=>∃ u,en=.returned u/\Below w.heap.size w w'/\MapNew w' S w.heap.size ks ag m u)
theorem PMap.fun{P:Program}{f:FuncId}{ps:List PV}{ks:List IntKind}{ag:Bool}{m:Mp}(h:PMap P f ps ks ag m):PFun P f ps (.md ks ag m):=
 fun w S vs hl hv=>(h w S vs hl hv).mono fun _ w' ⟨u,he,hb,blk,es,bs,ck,hu,h1,h2,h3⟩=>⟨u,he,hb,by
  subst hu;exact .md ks ag m bs ck blk es (.inr h1) (Array.getElem?_eq_some_iff.1 h2).1 h2 (h3.keep ⟨Nat.le_refl _,fun _ _ _=>rfl⟩ (fun b hb _=>hb.1))⟩
def EndsMap(fn:Func)(ks:List IntKind)(ag:Bool)(m:Mp):PQ:=fun en s=>(en=.normal\/en=.ret)/\∃ t id bs ck,fn.results=#[.tmp t]/\s.at t=some (.mp id)/\look s.objs id=some (.map ks ag m bs ck)
section
variable{P:Program}{ctx:Ctx}{Q:PQ}{s:PState}
variable{dst:Option Tmp}{ty:TypeId}{pos:String}{after:Array Edge}{gd:Option (Nat×Bool)}
theorem PMap.intro{f:FuncId}{fn:Func}{c:Code}{ps:List PV}{ks:List IntKind}{ag:Bool}{m:Mp}{n:Nat}{sl:List (Nat×PV)}(hf:P.funcs[f]?=some fn)(hb:fn.body=some c)(hn:fn.ntmps=n)(hsl:args 0 ps=sl)(hpn:Nat.ble ps.length n=true)
  (body:∀ ctx:Ctx,(∀ b,ctx.K b->ctx.S b)->PWc P ctx c (EndsMap fn ks ag m) ⟨n,sl,[]⟩):PMap P f ps ks ag m:=by
 intro w S vs hlen hreal
 let ctx:Ctx:=⟨w,S,fun _=>False⟩
 have hK:∀ b,¬ ctx.K b:=fun _ h=>h
 refine calls_of_wp hf hb ?_;subst hsl;have hrel:RelG ctx g0 ⟨n,args 0 ps,[]⟩ { tmps:=vs.toArray++Array.replicate (fn.ntmps - vs.toArray.size) undef,defers:=[] } w:=by
  rw[hn];exact VD hlen hreal (by rw[<- hlen];exact Nat.le_of_ble_eq_true hpn)
 refine wp_mono (body ctx (fun b h=>(hK b h).elim) _ w ⟨g0,hrel⟩) fun en a' w' ⟨s,⟨he,t,id,bs,ck,hres,hs,hl⟩,g,hg⟩=>?_
 have hbel:Below w.heap.size w w':=⟨hg.os,hg.tape,hg.output,hg.grows,fun k hk=>hg.keep k hk (hK k)⟩
 have main:a'.defers=[]/\∃ v,(results fn a'.tmps).run P w'=.ok v w'/\(∃ u,Ending.returned v=.returned u/\Below w.heap.size w w'/\MapNew w' S w.heap.size ks ag m u):=by
  refine⟨hg.defers,_,results_tmp hres _ _ _,_,rfl,hbel,?_⟩;have hr:=hg.slots t _ hs
  generalize hv:a'.tmps.getD t undef=v at hr
  cases hr with
  | mpNil _ hgn=>
   cases hg.objs id _ hl with
   | map _ _ _ _ _ blk' n' es h' hh hm=>rw[hgn] at h';cases h'
  | mp _ blk n hgi=>
   cases hg.objs id _ hl with
   | map _ _ _ _ _ blk' n' es h' hh hm=>
    rw[hgi] at h'
    cases h'
    have hown:=hg.own id _ blk n hl hgi;exact⟨blk,es,bs,ck,rfl,hown.2.resolve_right (hK _),hh,hm.keep ⟨Nat.le_refl _,fun _ _ _=>rfl⟩ (fun b ⟨h1,h2⟩ _=>⟨h1,fun eb=>by subst eb;exact h2 id _ n hl hgi⟩)⟩
 rcases he with rfl | rfl
 ·exact main
 ·exact main
theorem PWl.callMap{ops:Array Oper}{rest:List Oper}{id:Nat}{x:Operand}{xs:List Operand}{ats:Array TypeId}{f:FuncId}{ps:List PV}{ks:List IntKind}{ag:Bool}{m:Mp}(hc:PMap P f ps ks ag m)(hx:s.ev x=some (.d (.v (.func (.func f) #[] #[]))))(he:∀ args w,(callFunc f args).run P w=.ok (.enter f args) w)
  (hps:s.evs xs=some ps) (hd:PV.isData.isDataL ps=true) (hf:s.fresh id=true) (hgd:gd=none)
  (h:∀ bs ck,bs.length=m.length->PWl P ctx ops Q rest (s.newO id (.map ks ag m bs ck) (.mp id))):PWl P ctx ops Q (⟨some id,.call ⟨.value x,xs.toArray,ats⟩,ty,pos,after,gd⟩::rest) s:=by
 rintro a w ⟨g,hg⟩;refine wpList_plain hgd fun K hK=>?_
 obtain⟨hlen,hreal⟩:=VC hps hd hg;unfold Oper.wp;rw[wv (o:=⟨some id,.call ⟨.value x,xs.toArray,ats⟩,ty,pos,after,gd⟩) rfl (Vz hg hx) he w];rw[List.map_toArray];refine(hc w (zk ctx g s.objs) _ hlen hreal).mono fun en w' ⟨u,he,hb,blk,es,bs,ck,hu,hbase,hh,hm⟩=>?_
 subst he;subst hu;have hlt:blk < w'.heap.size:=(Array.getElem?_eq_some_iff.1 hh).1;have hlen:bs.length=m.length:=by rw[hm.stamps];simp[hm.size]
 refine hK _ _ (h bs ck hlen _ _ ⟨upd g id (some (blk,0)),(hg.new hb hf (some (blk,0)) (fun b n e=>by cases e;exact⟨hbase,hlt⟩) (.map ks ag m bs ck) ?_).put (some id) (.mp id blk 0 (zQ _ _ _))⟩);refine .map ks ag m bs ck blk 0 es (zQ _ _ _) hh (hm.keep ⟨Nat.le_refl _,fun _ _ _=>rfl⟩ fun b ⟨h1,h2⟩ hblt=>?_);have hfr:=Xb hg h1;refine⟨hfr.1,fun j o mm hj hgj=>?_⟩;rw[zD] at hj
 by_cases ej:j=id
 ·subst ej;rw[zQ] at hgj;cases hgj;exact h2 rfl
 ·rw[if_neg ej] at hj;rw[ya ej] at hgj;exact hfr.2 j o mm hj hgj
def PState.frzM(s:PState)(id:Nat)(ks:List IntKind)(ag:Bool)(m:Mp)(js:List Nat):PState:={ n:=s.n,sl:=(s.sets (.md ks ag m) js).sl,objs:=vB id s.objs }
theorem Sub.frzM{id:Nat}{ks:List IntKind}{ag:Bool}{m:Mp}{bs:List Nat}{ck:Nat}(js:List Nat)(hK:∀ b,ctx.K b->ctx.S b)(hl:look s.objs id=some (.map ks ag m bs ck))(hjs:∀ j∈js,s.at j=some (.mp id)):Sub ctx s (s.frzM id ks ag m js):=by
 rintro a w ⟨g,h⟩;have hF:∀ b,zk ctx g s.objs b->zk ctx g (vB id s.objs) b:=fun b ⟨h1,h2⟩=>⟨h1,fun j o m hj hg=>by
  rw[yJ] at hj
  split at hj
  ·cases hj
  ·exact h2 j o m hj hg⟩
 have hst:yV w w (zk ctx g s.objs):=⟨Nat.le_refl _,fun _ _ _=>rfl⟩
 have hlk:∀ {j:Nat} {o:Ob},look (vB id s.objs) j=some o->j≠id/\look s.objs j=some o:=fun {j o} hj=>by
  rw[yJ] at hj
  split at hj
  ·cases hj
  ·rename_i hne;exact⟨hne,hj⟩
 refine⟨g,⟨h.defers,h.size,?_,?_,?_,?_,h.os,h.tape,h.output,h.grows,h.keep⟩⟩
 ·intro i p hp;have old:s.at i=some p->Rd w g (zk ctx g (vB id s.objs)) p (a.tmps.getD i undef):=fun hq=>(h.slots i p hq).keep hst (fun b hb _=>hF b hb) (fun _ _=>rfl)
  have hp':(s.sets (.md ks ag m) js).at i=some p:=Zn (by rw[VA];exact Zu (s:=s.frzM id ks ag m js) hp) (xL (s:=s.frzM id ks ag m js) hp);rcases VB _ js s i p hp' with⟨h1,rfl⟩ | h2
  ·have hr:=h.slots i _ (hjs i h1);show Rd w g (zk ctx g (vB id s.objs)) (.md ks ag m) (a.tmps.getD i undef)
   generalize hv:a.tmps.getD i undef=v at hr
   cases hr with
   | mpNil _ hgn=>
    cases h.objs id _ hl with
    | map _ _ _ _ _ blk' n' es h' hh hm=>rw[hgn] at h';cases h'
   | mp _ blk n hgi=>
    cases h.objs id _ hl with
    | map _ _ _ _ _ blk' n' es h' hh hm=>
     rw[hgi] at h'
     cases h'
     have hown:=h.own id _ blk n hl hgi;have hfree:zk ctx g (vB id s.objs) blk:=⟨hown.2.elim .inr fun hh=>.inl (hK _ hh),fun j o mm hj hgj=>by
      obtain⟨hne,hj'⟩:=hlk hj;exact hne (h.inj j id o _ blk mm n hj' hl hgj hgi)⟩
     exact .md ks ag m bs ck blk es hfree hown.1 hh (hm.keep hst (fun b hb _=>hF b hb))
  ·exact old h2
 ·intro j o hj;obtain⟨_,hj'⟩:=hlk hj;exact(h.objs j o hj').keep hst (fun b hb _=>hF b hb) (fun _ _ _=>rfl) rfl (fun _ _=>rfl)
 ·intro i j oi oj b n m hi hj;exact h.inj i j oi oj b n m (hlk hi).2 (hlk hj).2
 ·intro j o b n hj;exact h.own j o b n (hlk hj).2
inductive AllMp (s:PState) (id:Nat):List Nat->Prop
 | nil:AllMp s id []
 | cons {j:Nat} {js:List Nat} (h:s.at j=some (.mp id)) (r:AllMp s id js):AllMp s id (j::js)
theorem AllMp.get{id:Nat}{js:List Nat}(h:AllMp s id js):∀ j∈js,s.at j=some (.mp id):=by
 induction h with
 | nil=>intro j hj;cases hj
 | cons h _ ih=>
  intro j hj;rcases List.mem_cons.1 hj with rfl | hj
  ·exact h
  ·exact ih j hj
theorem PWl.frzM{ops:Array Oper}{rest:List Oper}{id:Nat}{ks:List IntKind}{ag:Bool}{m:Mp}{bs:List Nat}{ck:Nat}(js:List Nat)(hK:∀ b,ctx.K b->ctx.S b)(hjs:AllMp s id js)(hl:look s.objs id=some (.map ks ag m bs ck))(h:PWl P ctx ops Q rest (s.frzM id ks ag m js)):PWl P ctx ops Q rest s:=
 PWl.sub (Sub.frzM js hK hl hjs.get) h
end
theorem zRd1(x:Value)(h:x.oneCell'=true):∀ (w:World) (g:zb) (S:Nat->Prop),Rd w g S (elP false [zdv x]) x:=fun w _ S=>.d (vAa w S x h)
end Go.Ep
namespace Go.Ep
open Go.RowKit
structure SortLaw{α:Type}(P:Program)(f g:FuncId)(k:Nat)(enc:α->List Value)(lt:α->α->Bool):Prop where
 nil:∀ w:World,Calls P f #[.slice none 0 0,.func (.func g) #[] #[]] w fun e w'=>e=.returned (.tuple #[])/\Below w.heap.size w w'
 row:∀ (w:World) (blk cap:Nat) (l:List α) (T:TypeId) (cur:List Value),w.heap[blk]?=some (.cells cur.toArray T (0,0))->l.length<=cap->cur.length=cap*k->l.length < 4611686018427387904 ->
  (∀ (i:Nat) (x:α) (j:Nat) (u:Value),l[i]?=some x->(enc x)[j]?=some u->cur[i*k+j]?=some u) ->
  Calls P f #[.slice (some ⟨blk,0,none⟩) l.length cap,.func (.func g) #[] #[]] w fun e w'=>e=.returned (.tuple #[])/\∃ (l':List α) (cur':List Value),l'.Perm l/\l'.Pairwise (fun x y=>lt y x=false) /\
   w'.heap[blk]?=some (.cells cur'.toArray T (0,0))/\cur'.length=cur.length/\(∀ (i:Nat) (x:α) (j:Nat) (u:Value),l'[i]?=some x->(enc x)[j]?=some u->cur'[i*k+j]?=some u) /\
   w'.os=w.os/\w'.tape=w.tape/\w'.output=w.output/\w.heap.size<=w'.heap.size/\∀ b,b < w.heap.size->b≠blk->w'.heap[b]?=w.heap[b]?
section
variable{P:Program}{ctx:Ctx}{Q:PQ}{s:PState}
variable{dst:Option Tmp}{ty:TypeId}{pos:String}{after:Array Edge}{gd:Option (Nat×Bool)}
theorem PWl.sortFn{α:Type}{ops:Array Oper}{rest:List Oper}{id n k:Nat}{e:TypeId}{fx x gx:Operand}{ats:Array TypeId}{f g:FuncId}{enc:α->List Value}{encD:α->List DV}{lt:α->α->Bool}{l:List α}(hS:SortLaw P f g k enc lt)
  (henc:∀ y,encD y=(enc y).map .v) (h1:∀ y,∀ u∈enc y,u.oneCell'=true) (hk:∀ y,(enc y).length=k) (hfx:s.ev fx=some (.d (.v (.func (.func f) #[] #[])))) (he:∀ args w,(callFunc f args).run P w=.ok (.enter f args) w) (hx:s.ev x=some (.row id n)) (hgx:s.ev gx=some (.d (.v (.func (.func g) #[] #[]))))
  (hl:look s.objs id=some (.row e k (l.map encD))) (hn:l.length=n) (hlen:l.length < 4611686018427387904) (hgd:gd=none)
  (h:∀ l':List α,l'.Perm l->l'.Pairwise (fun x y=>lt y x=false)->PWl P ctx ops Q rest ((s.setO id (.row e k (l'.map encD))).putD dst (.tup []))) :
  PWl P ctx ops Q (⟨dst,.call ⟨.value fx,#[x,gx],ats⟩,ty,pos,after,gd⟩::rest) s:=by
 rintro a w ⟨gh,hg⟩;refine wpList_plain hgd fun K hK=>?_
 have hxv:=hg.ev hx;have hob:=hg.objs id _ hl;unfold Oper.wp;rw[wv (o:=⟨dst,.call ⟨.value fx,#[x,gx],ats⟩,ty,pos,after,gd⟩) rfl (Vz hg hfx) he w]
 generalize hv:a.eval x=v at hxv
 have hargs:(#[x,gx]:Array Operand).map a.eval=#[v,.func (.func g) #[] #[]]:=by simp[hv,Vz hg hgx]
 rw[hargs]
 generalize hL:l.map encD=L at hob
 cases hob with
 | rowNil _ _ hgn=>
  have hl0:l=[]:=by simpa using hL
  subst hl0
  cases hxv with
  | row _ _ blk cap hgi=>rw[hgn] at hgi;cases hgi
  | rowNil=>
   refine(hS.nil w).mono fun en w' ⟨hen,hb⟩=>?_
   subst hen;have hsub:Sub ctx s (s.setO id (.row e k ([].map encD))):=Sub.drop rfl (fun i p hp=>hp) (fun j o hj=>by
    simp only[PState.setO,zD] at hj
    split at hj
    ·rename_i ej;subst ej;cases hj;rw[hl]
    ·exact hj)
   obtain⟨g2,hg2⟩:=hsub a w' ⟨gh,hg.below hb⟩;exact hK _ _ (h [] (List.Perm.refl _) List.Pairwise.nil _ _ ⟨g2,hg2.put dst (.tup [] [] rfl (by simp))⟩)
 | row _ _ _ blk' cap' cur hgi hh hlc hcap hcs hkk hr'=>
  cases hxv with
  | rowNil _ hgn=>rw[hgn] at hgi;cases hgi
  | row _ _ blk cap hgi'=>
   rw[hgi] at hgi'
   cases hgi'
   subst hL;subst hn;have hcells:∀ (i:Nat) (y:α) (j:Nat) (u:Value),l[i]?=some y->(enc y)[j]?=some u->cur[i*k+j]?=some u:=by
    intro i y j u hi hu;obtain⟨v,hv1,hv2⟩:=hr' i (encD y) j (.v u) (by simp[hi]) (by rw[henc];simp[hu])
    cases hv2 with
    | v _ _=>exact hv1
   refine(hS.row w blk' cap' l e cur hh (by simpa using hlc) hcs hlen hcells).mono fun en w' ⟨hen,l',cur',hperm,hsort,hh',hcl,hc',hos,htape,hout,hsz,hother⟩=>?_
   subst hen;have hown:=hg.own id _ blk' cap' hl hgi;have hst:yV w w' (zk ctx gh s.objs):=⟨hsz,fun b ⟨_,h2⟩ hlt=>hother b hlt fun eb=>by subst eb;exact h2 id _ cap' hl hgi⟩
   have hpl:l'.length=l.length:=hperm.length_eq;have hwr:=hg.wrote hl hgi (w':=w') hos htape hout hsz hother hown.2 (ob:=.row e k (l'.map encD)) (.row e k _ blk' cap' cur' hgi hh' (by simpa[hpl] using hlc) hcap (by rw[hcl];exact hcs)
    (fun i cs hi=>by
     rw[List.getElem?_map] at hi
     cases hy:l'[i]? with
     | none=>simp[hy] at hi
     | some y=>simp[hy] at hi;subst hi;rw[henc];simp[hk])
    (fun i cs j d hi hd=>by
     rw[List.getElem?_map] at hi
     cases hy:l'[i]? with
     | none=>simp[hy] at hi
     | some y=>
      simp[hy] at hi;subst hi;rw[henc,List.getElem?_map] at hd
      cases hu:(enc y)[j]? with
      | none=>simp[hu] at hd
      | some u=>simp[hu] at hd;subst hd;exact⟨u,hc' i y j u hy hu,.v u (h1 y u (List.mem_of_getElem? hu))⟩))
   exact hK _ _ (h l' hperm hsort _ _ ⟨gh,hwr.put dst (.tup [] [] rfl (by simp))⟩)
end
end Go.Ep
namespace Go.Ep
open Go.RowKit
section
variable{P:Program}{ctx:Ctx}{Q:PQ}{s:PState}
variable{dst:Option Tmp}{ty:TypeId}{pos:String}{after:Array Edge}{gd:Option (Nat×Bool)}
abbrev pNil : PV:=.d (.v (.slice none 0 0))
theorem LR.capNil{x:Operand}{t e:TypeId}(hu:P.underlying t=some (.slice e))(hx:s.ev x=some pNil) :
  Local P ctx ⟨dst,.call ⟨.builtin .cap,#[x],#[t]⟩,ty,pos,after,gd⟩ s (s.putD dst (.d (.v (.int .i64 0)))):=
 zG (o:=⟨dst,.call ⟨.builtin .cap,#[x],#[t]⟩,ty,pos,after,gd⟩) fun a w g hg=>⟨.int .i64 0,by
  simp[execOp,resolve,invoke,builtin,Vz hg hx,Builtin.cap_,run_underlying hu,Result.andThen,goInt],.d (.v _ rfl)⟩
theorem LR.lenNil{x:Operand}{t e:TypeId}(hu:P.underlying t=some (.slice e))(hx:s.ev x=some pNil) :
  Local P ctx ⟨dst,.call ⟨.builtin .len,#[x],#[t]⟩,ty,pos,after,gd⟩ s (s.putD dst (.d (.v (.int .i64 0)))):=
 zG (o:=⟨dst,.call ⟨.builtin .len,#[x],#[t]⟩,ty,pos,after,gd⟩) fun a w g hg=>⟨.int .i64 0,by
  simp[execOp,resolve,invoke,builtin,Vz hg hx,Builtin.len_,run_underlying hu,Result.andThen,goInt],.d (.v _ rfl)⟩
theorem LR.sliceNil{x hi:Operand}{t e k:Nat}{kx:IntKind}(hu:P.underlying t=some (.slice e))(hs:∀ w,(sizeOf e).run P w=.ok k w)(hx:s.ev x=some pNil)(hh:s.ev hi=some (.d (.v (.int kx 0)))) :
  Local P ctx ⟨dst,.slice t x none (some hi) none,ty,pos,after,gd⟩ s (s.putD dst pNil):=
 zG (o:=⟨dst,.slice t x none (some hi) none,ty,pos,after,gd⟩) fun a w g hg=>⟨.slice none 0 0,by
  simp[execOp,Vz hg hx,wq hg hh,Instr.sliceAt,Instr.slice,Instr.sliceBounds,run_underlying hu,hs,xX (P:=P) (show(0:Int)=(0:Nat) from rfl) (show 0<=0 from Nat.le_refl _),Result.andThen],.d (.v _ rfl)⟩
theorem jR(w:World)(t ti ty e:TypeId)(i:TypeInfo)(z:Value)(hu:P.underlying t=some (.slice e))(hti:P.underlying ti=some (.int .i64))(hi:P.info? e=some i)(hz:i.zero=some z)(n:Nat)(h0:0 < n)(h63:(n:Int)<=9223372036854775807)(h48:n*i.bytes<=281474976710656)(hsz:i.size=z.cells.size) :
  (Builtin.append_ #[t,ti] ty #[.slice none 0 0,.int .i64 n]).run P w=.ok (.slice (some ⟨w.heap.size,0,none⟩) n (grownCap w n 0 e)) (w.drew.alloc (.cells (Builtin.zeroCells z.cells n++Builtin.zeroCells z.cells (grownCap w n 0 e - n)) e)):=by
 have hn:n≠0:=by omega
 have h63':¬ (9223372036854775807 < (n:Int)):=by omega
 have h48':¬ (281474976710656 < Builtin.nextslicecap n 0*i.bytes):=by rw[nextslicecap_zero h0];omega
 have hw:IntKind.i64.wrap (n:Int)=n:=xEa (by omega) h63;have hneg:¬ ((n:Int) < 0):=by omega
 have h48i:¬ (281474976710656 < (n:Int)*(i.bytes:Int)):=by
  rw[<- Int.natCast_mul];omega
 by_cases hk:n*i.size=0
 ·have hzc:z.cells.size=0:=by
   rw[hsz] at hk;rcases Nat.mul_eq_zero.1 hk with h | h
   ·omega
   ·exact h
  have he:Builtin.zeroCells z.cells n=#[]:=by
   apply Array.eq_empty_of_size_eq_zero;simp[WU,hzc]
  simp[Builtin.append_,run_underlying hu,run_underlying hti,sizeOf,typeInfo,zeroValue,hi,hz,Builtin.lenOf,hn,h63',h48',h48i,hw,hneg,Question.forced,run_firstCells_none,newRow,grownCap,asInt,asIntOf,he]
 ·simp[Builtin.append_,run_underlying hu,run_underlying hti,sizeOf,typeInfo,zeroValue,hi,hz,Builtin.lenOf,hn,h63',h48',h48i,hw,hneg,Question.forced,run_firstCells_none,newRow,grownCap,asInt,asIntOf,hk]
theorem LR.appendMake{id n k bs:Nat}{t ti e:TypeId}{x y:Operand}{z:Value}{zs:List Value}(hE:ElemOK P t e k bs)(hti:P.underlying ti=some (.int .i64))(hzv:∀ w,(zeroValue e).run P w=.ok z w)(hzc:z.cells=zs.toArray)(h1:(zs.all Value.oneCell')=true)
  (hx:s.ev x=some pNil) (hy:s.ev y=some (.d (.v (.int .i64 n)))) (h0:0 < n) (hb:n*bs<=140737488355328) (hn:n<=140737488355328) (hf:s.fresh id=true) :
  Local P ctx ⟨some id,.call ⟨.builtin .append,#[x,y],#[t,ti]⟩,ty,pos,after,gd⟩ s (s.newO id (.row e k (List.replicate n (zs.map zdv))) (.row id n)):=
 yW (o:=⟨some id,.call ⟨.builtin .append,#[x,y],#[t,ti]⟩,ty,pos,after,gd⟩) fun a w g hg=>by
  obtain⟨i,z',hi,hz,hsize,hbytes,hzs⟩:=hE.i;have hzz:z'=z:=by
   have:=hzv w;simp[zeroValue,typeInfo,hi,hz] at this;exact this
  subst hzz;have hzl:zs.length=k:=by rw[hzc] at hzs;simpa using hzs
  have hge:=grownCap_ge w n 0 e;have hcm:=grownCap_le_maxLen w n 0 e (by unfold maxLen;omega);have hrun:=jR (P:=P) w t ti ty e i z' hE.u hti hi hz n h0 (by omega) (by rw[hbytes];omega) (by rw[hsize,hzs]);have hdr:RelG ctx g s a w.drew:=hg.below ((Below.refl _ w).drew);have hres:=hdr.newRow (id:=id) hf (e:=e) (k:=k) (cap:=grownCap w n 0 e) (l:=List.replicate n (zs.map zdv)) (cur:=(Builtin.zeroCells z'.cells n++Builtin.zeroCells z'.cells (grownCap w n 0 e - n)).toList) (by simpa using hge) hcm (by
    rw[Array.toList_append,List.length_append,Jq,Jq,hzs,<- Nat.add_mul];congr 1;omega)
   (fun j cs hj=>by
    rw[List.getElem?_replicate] at hj
    split at hj
    ·simp at hj;subst hj;simpa using hzl
    ·cases hj)
   (fun j cs t x hj hx=>by
    rw[List.getElem?_replicate] at hj
    split at hj
    ·rename_i hjn
     simp only[Option.some.injEq] at hj;subst hj;have ht:t < zs.length:=by have:=(List.getElem?_eq_some_iff.1 hx).1;simpa using this
     have hlt:j*k+t < n*k:=vl hjn (by omega);simp[ht] at hx;subst hx;refine⟨zs[t],?_,vAa _ _ _ (by simp at h1;exact h1 _ (List.getElem_mem ht))⟩;have e2:(j*k+t) % k=t:=by rw[Nat.mul_comm,Nat.mul_add_mod,Nat.mod_eq_of_lt (by omega)]
     rw[Array.toList_append,List.getElem?_append_left (by rw[Jq,hzs];exact hlt)];simp[Builtin.zeroCells,hlt,hzc,hzl,e2];rw[List.getElem?_eq_getElem ht];rfl
    ·cases hj)
  simp only[List.length_replicate,Array.toArray_toList] at hres;refine⟨_,_,?_,hres⟩;simp[execOp,resolve,invoke,builtin,Vz hg hx,Vz hg hy,hrun,Result.andThen]
theorem LR.cutRow{x hi:Operand}{id n m k:Nat}{t e:TypeId}{l:List (List DV)}{kx:IntKind}{j:Int}(js:List Nat)(hu:P.underlying t=some (.slice e))(hs:∀ w,(sizeOf e).run P w=.ok k w)(hx:s.ev x=some (.row id n))(hl:look s.objs id=some (.row e k l))(hn:l.length=n)
  (hh:s.ev hi=some (.d (.v (.int kx j)))) (hj:j=m) (hm:m<=n) (ha:(s.junks js).alone id=true) :
  Local P ctx ⟨dst,.slice t x none (some hi) none,ty,pos,after,gd⟩ s (((s.junks js).setO id (.row e k (l.take m))).putD dst (.row id m)):=
 yW (o:=⟨dst,.slice t x none (some hi) none,ty,pos,after,gd⟩) fun a w g hg=>by
  have hxv:=hg.ev hx;have hob:=hg.objs id _ hl;have hgj:=hg.junks js;have hlj:look (s.junks js).objs id=some (.row e k l):=by rw[yO];exact hl
  have hupd:upd g id (g id)=g:=by funext q;unfold upd;split <;> simp_all
  have hre:∀ (ob':ObRd w g (zk ctx g (yD id (.row e k (l.take m)) (s.junks js).objs)) id (.row e k (l.take m))),RelG ctx g ((s.junks js).setO id (.row e k (l.take m))) a w:=fun ob'=>by
   have:=hgj.reown hlj ha (g id) (ob:=.row e k (l.take m)) rfl rfl rfl (Nat.le_refl _) (fun _ _ _=>rfl) (fun b n eb=>.inl ⟨n,eb⟩) (by rw[hupd];exact ob');rw[hupd] at this;exact this
  have hst:yV w w (zk ctx g s.objs):=⟨Nat.le_refl _,fun _ _ _=>rfl⟩
  generalize hv:a.eval x=v at hxv
  cases hob with
  | rowNil _ _ hgn=>
   cases hxv with
   | row _ _ blk cap hgi=>rw[hgn] at hgi;cases hgi
   | rowNil=>
    have hm0:m=0:=by omega
    subst hm0;refine⟨.slice none 0 0,w,?_,g,(hre (.rowNil e k hgn)).put dst (.rowNil id hgn)⟩;simp[execOp,hv,wq hg hh,Instr.sliceAt,Instr.slice,Instr.sliceBounds,run_underlying hu,hs,xX (P:=P) hj (show 0<=0 from Nat.le_refl _),Result.andThen]
  | row _ _ _ blk' cap' cur hgi hh' hlc hcap hcs hkk hr'=>
   cases hxv with
   | rowNil _ hgn=>rw[hgn] at hgi;cases hgi
   | row _ _ blk cap hgi'=>
    rw[hgi] at hgi'
    cases hgi'
    have hrow:ObRd w g (zk ctx g (yD id (.row e k (l.take m)) (s.junks js).objs)) id (.row e k (l.take m)):=by
     rw[yO];refine .row e k _ blk' cap' cur hgi hh' (by simp;omega) hcap hcs (fun i cs hi=>?_) (fun i cs t x hi hx=>?_)
     ·rw[List.getElem?_take] at hi
      split at hi
      ·exact hkk i cs hi
      ·cases hi
     ·rw[List.getElem?_take] at hi
      split at hi
      ·obtain⟨u,h1,h2⟩:=hr' i cs t x hi hx;exact⟨u,h1,h2.keep hst (fun b hb _=>wW hl b hb)⟩
      ·cases hi
    refine⟨.slice (some ⟨blk',0,none⟩) m cap',w,?_,g,(hre hrow).put dst (.row id m blk' cap' hgi)⟩;simp[execOp,hv,wq hg hh,Instr.sliceAt,Instr.slice,Instr.sliceBounds,run_underlying hu,hs,xX (P:=P) hj (show m<=cap' by omega),Addr.add_lit,Result.andThen]
end
end Go.Ep
namespace Go.Ep
structure M(α:Type) where
 wp:(α->Prop)->Prop
 mono:∀ {P Q:α->Prop},(∀ a,P a->Q a)->wp P->wp Q
 meet:∀ {P Q:α->Prop},wp P->wp Q->∃ a,P a/\Q a
namespace M
variable{α β γ σ ρ:Type}
theorem ext'{x y:M α}(h:∀ Q,x.wp Q↔y.wp Q):x=y:=by
 obtain⟨a,_,_⟩:=x;obtain⟨b,_,_⟩:=y;have:a=b:=funext fun Q=>propext (h Q)
 subst this
 rfl
def pure(a:α):M α:=⟨fun Q=>Q a,fun h p=>h _ p,fun p q=>⟨a,p,q⟩⟩
def bind(x:M α)(f:α->M β):M β:=
 ⟨fun Q=>x.wp fun a=>(f a).wp Q,fun h p=>x.mono (fun a=>(f a).mono h) p,fun p q=>let ⟨a,h1,h2⟩:=x.meet p q;(f a).meet h1 h2⟩
def fail : M α:=⟨fun _=>False,fun _ h=>h,fun h=>h.elim⟩
def yt(p:Prop)(x:M α):M α:=⟨fun Q=>p/\x.wp Q,fun h ⟨h1,h2⟩=>⟨h1,x.mono h h2⟩,fun⟨_,h1⟩ ⟨_,h2⟩=>x.meet h1 h2⟩
def det(x:M α):M α:=⟨fun Q=>∃ a,x.wp (·=a)/\Q a,fun h ⟨a,h1,h2⟩=>⟨a,h1,h a h2⟩,fun⟨a,h1,h2⟩ ⟨b,h3,h4⟩=>by
 obtain⟨c,h5,h6⟩:=x.meet h1 h3;exact⟨a,h2,by rw[<- h5,h6];exact h4⟩⟩
def any(p:α->Prop):M α:=⟨fun Q=>(∃ a,p a)/\∀ a,p a->Q a,fun h ⟨h0,h1⟩=>⟨h0,fun a ha=>h a (h1 a ha)⟩,fun⟨⟨a,ha⟩,h1⟩ ⟨_,h2⟩=>⟨a,h1 a ha,h2 a ha⟩⟩
inductive Step (σ ρ:Type) where
 | next (s:σ)
 | done (r:ρ)
inductive Ex (τ α:Type) where
 | brk (t:τ)
 | ret (a:α)
def exk(k:β->M α):Ex β α->M α
 | .brk t=>k t
 | .ret a=>pure a
def sum(y:α⊕β)(f:α->M γ)(g:β->M γ):M γ:=match y with | .inl a=>f a | .inr b=>g b
def Step.post(X:σ->Prop)(Q:ρ->Prop):Step σ ρ->Prop
 | .next s=>X s
 | .done r=>Q r
def Jc(body:σ->M (Step σ ρ))(Q:ρ->Prop)(s:σ):Prop:=∀ X:σ->Prop,(∀ s,(body s).wp (Step.post X Q)->X s)->X s
theorem YS{body:σ->M (Step σ ρ)}{Q:ρ->Prop}{s:σ}(h:(body s).wp (Step.post (Jc body Q) Q)):Jc body Q s:=fun X hX=>
 hX s ((body s).mono (fun o ho=>by cases o with | next s'=>exact ho X hX | done r=>exact ho) h)
theorem zOa{body:σ->M (Step σ ρ)}{Q:ρ->Prop}{s:σ}(h:Jc body Q s):(body s).wp (Step.post (Jc body Q) Q):=
 h (fun s=>(body s).wp (Step.post (Jc body Q) Q)) fun s hs=>(body s).mono (fun o ho=>by cases o with | next s'=>exact YS ho | done r=>exact ho) hs
def loop(body:σ->M (Step σ ρ))(s:σ):M ρ:=
 ⟨fun Q=>Jc body Q s,fun h p X hX=>p X fun s hs=>hX s ((body s).mono (fun o ho=>by cases o with | next s'=>exact ho | done r=>exact h r ho) hs),fun {P Q} hp=>by
  refine hp (fun s=>Jc body Q s->∃ a,P a/\Q a) fun s hs hq=>?_
  obtain⟨o,h1,h2⟩:=(body s).meet hs (zOa hq)
  cases o with
  | next s'=>exact h1 h2
  | done r=>exact⟨r,h1,h2⟩⟩
theorem zA(a:α)(f:α->M β):(pure a).bind f=f a:=rfl
theorem Ju(x:M α)(f:α->M β)(g:β->M γ):(x.bind f).bind g=x.bind fun a=>(f a).bind g:=rfl
theorem zI{p:Prop}(h:p)(x:M α):yt p x=x:=ext' fun _=>⟨fun h=>h.2,fun hx=>⟨h,hx⟩⟩
theorem ux{x:M α}{a:α}(h:x.wp (·=a)):x=pure a:=ext' fun Q=>
 ⟨fun hq=>let ⟨b,h1,h2⟩:=x.meet h hq;by subst h1;exact h2,fun hq=>x.mono (fun b hb=>by subst hb;exact hq) h⟩
theorem zB(a:α):det (pure a)=pure a:=ux ⟨a,rfl,rfl⟩
theorem YT(k:β->M α)(t:β):exk k (.brk t)=k t:=rfl
theorem jS(k:β->M α)(a:α):exk k (.ret a)=pure a:=rfl
theorem qj(body:σ->M (Step σ ρ))(s:σ):loop body s=(body s).bind fun o=>match o with | .next s'=>loop body s' | .done r=>pure r:=ext' fun Q=>
 ⟨fun h=>(body s).mono (fun o ho=>by cases o with | next s'=>exact ho | done r=>exact ho) (zOa h),fun h=>YS ((body s).mono (fun o ho=>by cases o with | next s'=>exact ho | done r=>exact ho) h)⟩
theorem yT{body:σ->M (Step σ ρ)}{s s':σ}(h:body s=pure (.next s')):loop body s=loop body s':=by rw[qj,h];rfl
theorem yP{body:σ->M (Step σ ρ)}{s:σ}{r:ρ}(h:body s=pure (.done r)):loop body s=pure r:=by rw[qj,h];rfl
theorem zn(a b:Bool):(cond a (pure b) (pure false):M Bool)=pure (a&&b):=by cases a <;> rfl
theorem zPa(a b:Bool):(cond a (pure true) (pure b):M Bool)=pure (a||b):=by cases a <;> rfl
theorem zQa(a:Bool)(x y:α):(cond a (pure x) (pure y):M α)=pure (cond a x y):=by cases a <;> rfl
theorem xMa{body:σ->M (Step σ ρ)}{Q:ρ->Prop}(I:σ->Prop)(mu:σ->Nat)(h:∀ s,I s->(body s).wp (Step.post (fun s'=>I s'/\mu s' < mu s) Q))(s0:σ)(h0:I s0):(loop body s0).wp Q:=by
 have key:∀ n s,mu s=n->I s->Jc body Q s:=by
  intro n
  induction n using Nat.strongRecOn with
  | _ n ih=>
   intro s hn hI;refine YS ((body s).mono (fun o ho=>?_) (h s hI))
   cases o with
   | next s'=>exact ih (mu s') (hn▸ho.2) s' rfl ho.1
   | done r=>exact ho
 exact key _ s0 rfl h0
end M
namespace M
variable{α β:Type}
def idx(l:List α)(i:Int):M α:=⟨fun Q=>∃ y,(0<=i/\l[i.toNat]?=some y)/\Q y,fun h ⟨y,h1,h2⟩=>⟨y,h1,h y h2⟩,fun⟨y,h1,h2⟩ ⟨z,h3,h4⟩=>⟨y,h2,by have:=h1.2.symm.trans h3.2;cases this;exact h4⟩⟩
theorem WW{l:List α}{i:Int}{y:α}(h0:0<=i)(h:l[i.toNat]?=some y):idx l i=pure y:=ux ⟨y,⟨h0,h⟩,rfl⟩
theorem zN{l:List α}{i:Nat}{y:α}(h:l[i]?=some y):idx l (i:Int)=pure y:=WW (by omega) (by simpa using h)
def cut(l:List α)(lo hi:Int):M (List α):=yt (0<=lo/\lo<=hi/\hi<=l.length) (pure ((l.take hi.toNat).drop lo.toNat))
def app(bs:Nat)(l r:List α):M (List α):=yt ((l.length+r.length)*bs<=140737488355328) (pure (l++r))
def upd(l:List α)(i:Int)(y:α):M (List α):=yt (0<=i/\i < l.length) (pure (l.set i.toNat y))
end M
def ua(s:ByteArray):List Int:=s.data.toList.map fun b=>(b.toNat:Int)
def strL(l:List Int):ByteArray:=l.foldl (fun r n=>r.push (UInt8.ofNat n.toNat)) ByteArray.empty
def bAnd(k:IntKind)(x y:Int):Int:=k.wrap (BitVec.ofInt k.bits x &&& BitVec.ofInt k.bits y).toNat
namespace AL
variable{κ ν:Type}[DecidableEq κ]
def get : List (κ×ν)->κ->Option ν
 | [],_=>none
 | (k,v)::r,x=>if k=x then some v else get r x
def set : List (κ×ν)->κ->ν->List (κ×ν)
 | [],x,u=>[(x,u)]
 | (k,v)::r,x,u=>if k=x then (k,u)::r else (k,v)::set r x u
def del : List (κ×ν)->κ->List (κ×ν)
 | [],_=>[]
 | (k,v)::r,x=>if k=x then r else (k,v)::del r x
def getZ(m:List (κ×ν))(x:κ)(z:ν):ν:=(get m x).getD z
def has(m:List (κ×ν))(x:κ):Bool:=(get m x).isSome
def grow{α:Type}(m:List (κ×List α))(l:List (κ×List α)):List (κ×List α):=l.foldl (fun m x=>set m x.1 (getZ m x.1 []++x.2)) m
def growOK{α:Type}(bs n:Nat)(l:List (κ×List α)):Prop:=n < 9223372036854775807/\(l.map fun x=>x.2.length).sum*bs<=140737488355328
end AL
namespace M
def nxt(n:Nat)(L:List Nat):M (Option Nat):=any fun o=>match o with | none=>∀ i,i < n->i∈L | some i=>i < n/\i∉L
def isNil{α:Type}(l:List α):M Bool:=any fun b=>b=true->l=[]
def srt{α:Type}(lt:α->α->Bool)(l:List α):M (List α):=any fun l'=>l'.Perm l/\l'.Pairwise fun x y=>lt y x=false
end M
end Go.Ep
namespace Go.Ep
open Go.RowKit
section
variable{α β:Type}{Q:β->Prop}
theorem yF{l:List α}{i:Int}{k:α->M β}(h:((M.idx l i).bind k).wp Q):∃ y,(0<=i/\l[i.toNat]?=some y)/\(k y).wp Q:=h
theorem zq{p:Prop}{x:M β}(h:(M.yt p x).wp Q):p/\x.wp Q:=h
theorem zP{x:M α}{k:α->M β}(h:(x.det.bind k).wp Q):∃ r,x.wp (·=r)/\(k r).wp Q:=h
theorem w5a{n:Nat}{L:List Nat}{k:Option Nat->M β}(h:((M.nxt n L).bind k).wp Q):((∀ i,i < n->i∈L)->(k none).wp Q)/\∀ i,i < n->i∉L->(k (some i)).wp Q:=⟨fun h0=>h.2 none h0,fun i h1 h2=>h.2 (some i) ⟨h1,h2⟩⟩
theorem iSrt{lt:α->α->Bool}{l:List α}{k:List α->M β}(h:((M.srt lt l).bind k).wp Q):∀ l':List α,l'.Perm l->l'.Pairwise (fun x y=>lt y x=false)->(k l').wp Q:=fun l' h1 h2=>h.2 l' ⟨h1,h2⟩
theorem iNil{l:List α}{k:Bool->M β}(h:((M.isNil l).bind k).wp Q):∀ b,(b=true->l=[])->(k b).wp Q:=fun b hb=>h.2 b hb
theorem zK{x:M α}{k:α->M β}(h:(x.bind k).wp Q):x.wp fun a=>(k a).wp Q:=h
theorem iSumL{γ:Type}{a:α}{f:α->M β}{g:γ->M β}(h:(M.sum (.inl a) f g).wp Q):(f a).wp Q:=h
theorem iSumR{γ:Type}{b:γ}{f:α->M β}{g:γ->M β}(h:(M.sum (.inr b) f g).wp Q):(g b).wp Q:=h
theorem iT{b:Bool}{x y:M β}(hb:b=true)(h:(cond b x y).wp Q):x.wp Q:=by subst hb;exact h
theorem iF{b:Bool}{x y:M β}(hb:b=false)(h:(cond b x y).wp Q):y.wp Q:=by subst hb;exact h
end
def zO{κ ν:Type}(eK:κ->List Int)(eV:ν->List DV)(m:List (κ×ν)):Mp:=m.map fun x=>(eK x.1,eV x.2)
section
variable{κ ν:Type}[DecidableEq κ]{eK:κ->List Int}{eV:ν->List DV}(inj:∀ a b,eK a=eK b->a=b)
include inj
theorem jT(m:List (κ×ν))(k:κ):JZ (zO eK eV m) (eK k)=(AL.get m k).map eV:=by
 induction m with
 | nil=>rfl
 | cons x r ih=>
  obtain⟨a,v⟩:=x;show(if eK a=eK k then _ else _)=_
  by_cases h:a=k
  ·subst h;simp[AL.get]
  ·rw[if_neg (fun e=>h (inj _ _ e))];simp only[AL.get,h,if_false];exact ih
theorem vFa(m:List (κ×ν))(k:κ)(v:ν):wFa (zO eK eV m) (eK k) (eV v)=zO eK eV (AL.set m k v):=by
 induction m with
 | nil=>rfl
 | cons x r ih=>
  obtain⟨a,u⟩:=x;show(if eK a=eK k then _ else _)=_
  by_cases h:a=k
  ·subst h;simp[AL.set,zO]
  ·rw[if_neg (fun e=>h (inj _ _ e))];simp only[AL.set,h,if_false];show _::wFa (zO eK eV r) _ _=_::zO eK eV (AL.set r k v);rw[ih]
theorem vGa(m:List (κ×ν))(k:κ):mdel (zO eK eV m) (eK k)=zO eK eV (AL.del m k):=by
 induction m with
 | nil=>rfl
 | cons x r ih=>
  obtain⟨a,u⟩:=x;show(if eK a=eK k then _ else _)=_
  by_cases h:a=k
  ·subst h;simp[AL.del,zO]
  ·rw[if_neg (fun e=>h (inj _ _ e))];simp only[AL.del,h,if_false];show _::mdel (zO eK eV r) _=_::zO eK eV (AL.del r k);rw[ih]
end
theorem Uj{κ ν:Type}{eK:κ->List Int}{eV:ν->List DV}(m:List (κ×ν)):(zO eK eV m).length=m.length:=by simp[zO]
section
variable{P:Program}{ctx:Ctx}{Q:PQ}{s:PState}
variable{dst:Option Tmp}{ty:TypeId}{pos:String}{after:Array Edge}{gd:Option (Nat×Bool)}
def LoopAt(P:Program)(c:Code)(Q:Exit->Act->World->Prop)(a:Act)(w:World):Prop:=∀ (b:Frame) (k:List Item) (cs:List Frame),
 ∃ e a' w',Q e a' w'/\Arrives P (lone (b.at a (.code c::.inLoop c::k)) cs w) b k cs e a' w'
theorem LoopAt.step{c:Code}{Q:Exit->Act->World->Prop}{a:Act}{w:World}(h:c.wp P (Exit.then (LoopAt P c Q) Q) a w):LoopAt P c Q a w:=by
 intro b k cs;obtain⟨e,a₁,w₁,hq,harr⟩:=h b (.inLoop c::k) cs
 cases e with
 | normal=>
  obtain⟨e₂,a₂,w₂,hq₂,harr₂⟩:=hq b k cs;exact⟨e₂,a₂,w₂,hq₂,.of_steps (Steps.trans harr (.one step_inLoop)) harr₂⟩
 | exit id=>exact⟨_,a₁,w₁,hq,.pass (x:=.inLoop c) rfl (fun _ _=>.inl (by simp)) harr⟩
 | goto l=>exact⟨_,a₁,w₁,hq,.pass (x:=.inLoop c) rfl (fun _ _=>.inl (by simp)) harr⟩
 | ret=>exact⟨_,a₁,w₁,hq,.pass (x:=.inLoop c) rfl (fun _ _=>.inl (by simp)) harr⟩
 | panic ch=>exact⟨_,a₁,w₁,hq,.pass (x:=.inLoop c) rfl (fun _ _=>.inl (by simp)) harr⟩
 | outgrown=>exact⟨_,a₁,w₁,hq,.pass (x:=.inLoop c) rfl (fun _ _=>.inl (by simp)) harr⟩
theorem LoopAt.loop{c:Code}{Q:Exit->Act->World->Prop}{a:Act}{w:World}(h:LoopAt P c Q a w):(Code.loop c).wp P Q a w:=fun b k cs=>
 let ⟨e,a',w',hq,harr⟩:=h b k cs
 ⟨e,a',w',hq,.of_steps (.one step_loop) harr⟩
theorem PWc.cs{c:Code}{s:PState}(b:Bool)(hT:b=true->PWc P ctx c Q s)(hF:b=false->PWc P ctx c Q s):PWc P ctx c Q s:=by cases b;exact hF rfl;exact hT rfl
theorem PWc.loopM{σ ρ G:Type}{c:Code}{body:σ->M (M.Step σ ρ)}{s0:σ}{R:ρ->Prop}(J:σ->G->PState)(g0:G)(h:(M.loop body s0).wp R)(hs:Sub ctx s (J s0 g0))
  (round:∀ (N:σ->Prop) (x:σ) (g:G),(body x).wp (M.Step.post N R)->PWc P ctx c (Then (fun t=>∃ y g',N y/\Sub ctx t (J y g')) Q) (J x g)):PWc P ctx (.loop c) Q s:=by
 intro a w hr;refine LoopAt.loop ?_;have key:∀ g a w,Rel ctx (J s0 g) a w->LoopAt P c (lift ctx Q) a w:=by
  refine h (fun x=>∀ g a w,Rel ctx (J x g) a w->LoopAt P c (lift ctx Q) a w) fun x hx g a w hr=>?_
  refine LoopAt.step (wp_mono (round _ x g hx a w hr) fun e a' w' ⟨t,h1,h2⟩=>?_)
  cases e with
  | normal=>
   obtain⟨y,g',hy,hsub⟩:=h1;exact hy g' a' w' (hsub a' w' h2)
  | _=>exact⟨t,h1,h2⟩
 exact key g0 a w (hs a w hr)
def Jn(ctx:Ctx)(Q:PQ){τ G:Type}(J:τ->G->PState)(N:τ->Prop):PQ
 | .normal,t=>∃ v g,N v/\Sub ctx t (J v g)
 | e,t=>Q e t
section
variable{α:Type}{enc:α->List DV}{L R:List α}
theorem LR.idxT{x ix:Operand}{ki:IntKind}{i:Int}{k:Nat}{y:α}{t e:TypeId}(hu:P.underlying t=some (.slice e))(hs:∀ w,(sizeOf e).run P w=.ok k w)
  (hx:s.ev x=some (.d (.sl (L.map enc)))) (hix:s.ev ix=some (.d (.v (.int ki i)))) (hy:0<=i/\L[i.toNat]?=some y) (hk:∀ x,(enc x).length=k) :
  Local P ctx ⟨dst,.indexAddr t x ix,ty,pos,after,gd⟩ s (s.putD dst (.ep (enc y) 0)):=
 LR.idxSl (n:=i.toNat) hu hs hx hix (by omega) (by simp[hy.2]) (hk _)
theorem LR.idxRowT{x ix:Operand}{id m:Nat}{ki:IntKind}{i:Int}{k:Nat}{y:α}{t e:TypeId}(hu:P.underlying t=some (.slice e))(hs:∀ w,(sizeOf e).run P w=.ok k w)
  (hx:s.ev x=some (.row id m)) (hm:m=L.length) (hix:s.ev ix=some (.d (.v (.int ki i)))) (hy:0<=i/\L[i.toNat]?=some y) :
  Local P ctx ⟨dst,.indexAddr t x ix,ty,pos,after,gd⟩ s (s.putD dst (.rp id i.toNat 0 k)):=
 LR.idxRow hu hs hx hix (by omega) (by rw[hm];exact(List.getElem?_eq_some_iff.1 hy.2).1)
theorem LR.loadRpT{x:Operand}{id n k:Nat}{T T0:TypeId}{y:α}(ha:∀ w,(isAgg T).run P w=.ok true w)(hs:∀ w,(sizeOf T).run P w=.ok k w)(hx:s.ev x=some (.rp id n 0 k))(hl:look s.objs id=some (.row T0 k (L.map enc)))(hy:L[n]?=some y) :
  Local P ctx ⟨dst,.load T x,ty,pos,after,gd⟩ s (s.putD dst (.agg ((enc y).map .d))):=LR.loadRpAgg ha hs hx hl (by simp[hy])
theorem LR.loadRpF{x:Operand}{id n o k:Nat}{T T0:TypeId}{y:α}{z:DV}(ha:∀ w,(isAgg T).run P w=.ok false w)(hx:s.ev x=some (.rp id n o k))(hl:look s.objs id=some (.row T0 k (L.map enc)))(hy:L[n]?=some y)(hz:(enc y)[o]?=some z) :
  Local P ctx ⟨dst,.load T x,ty,pos,after,gd⟩ s (s.putD dst (.d z)):=LR.loadRp ha hx hl (by simp[hy]) hz
theorem LR.storeRpT{x y:Operand}{id n o k m:Nat}{T T0:TypeId}{a b:α}{ys:List DV}{p:PV}(hs:∀ w,(sizeOf T).run P w=.ok m w)(hx:s.ev x=some (.rp id n o k))(hy:s.ev y=some p)(hp:p.dparts=some ys)(hm:ys.length=m)
  (hl:look s.objs id=some (.row T0 k (L.map enc))) (hi:L[n]?=some a) (hlen:Nat.ble (o+m) k=true) (hns:(enc a).take o++ys++(enc a).drop (o+m)=enc b) :
  Local P ctx ⟨none,.store T x y,ty,pos,after,gd⟩ s (s.setO id (.row T0 k ((L.set n b).map enc))):=by
 have:=LR.storeRpB (P:=P) (ctx:=ctx) (ty:=ty) (pos:=pos) (after:=after) (gd:=gd) hs hx hy hp hm hl (by simp[hi]) hlen hns
 rwa [<- List.map_set] at this
theorem LR.cutLT{x lo:Operand}{k:Nat}{t e:TypeId}{k1:IntKind}{i:Int}(hu:P.underlying t=some (.slice e))(hs:∀ w,(sizeOf e).run P w=.ok k w)(hx:s.ev x=some (.d (.sl (L.map enc))))(hk:∀ x,(enc x).length=k)
  (h1:s.ev lo=some (.d (.v (.int k1 i)))) (hb:0<=i/\i<=(L.length:Int)/\(L.length:Int)<=L.length) :
  Local P ctx ⟨dst,.slice t x (some lo) none none,ty,pos,after,gd⟩ s (s.putD dst (.d (.sl (((L.take (L.length:Int).toNat).drop i.toNat).map enc)))):=by
 have:=LR.sliceL (P:=P) (ctx:=ctx) (dst:=dst) (ty:=ty) (pos:=pos) (after:=after) (gd:=gd) (m:=i.toNat) hu hs hx (qh hk L) h1 (by omega) (by simp;omega);rw[<- List.map_drop] at this;simpa using this
theorem LR.appT{x y:Operand}{id m k bs:Nat}{t t' e e':TypeId}(js:List Nat)(hE:ElemOK P t e k bs)(hu':P.underlying t'=some (.slice e'))(hx:s.ev x=some (.row id m))(hm:m=L.length)(hl:look s.objs id=some (.row e k (L.map enc)))
  (hy:Src ctx s y (R.map enc) k) (hk:∀ x,(enc x).length=k) (hb:(L.length+R.length)*bs<=140737488355328) (h1:Nat.ble 1 bs=true) (ha:(s.junks js).alone id=true) :
  Local P ctx ⟨dst,.call ⟨.builtin .append,#[x,y],#[t,t']⟩,ty,pos,after,gd⟩ s (((s.junks js).setO id (.row e k ((L++R).map enc))).putD dst (.row id (L++R).length)):=by
 subst hm;have h2:=Nat.le_of_ble_eq_true h1;have h3:(L.length+R.length)*1<=(L.length+R.length)*bs:=Nat.mul_le_mul_left _ h2;have:=LR.append (P:=P) (ctx:=ctx) (dst:=dst) (ty:=ty) (pos:=pos) (after:=after) (gd:=gd) js hE hu' hx hl (by simp) hy (qh hk R) (by simpa using hb) (by simp;omega) ha;simpa using this
theorem Src.slT{y:Operand}{k:Nat}(hy:s.ev y=some (.d (.sl (R.map enc))))(hk:∀ x,(enc x).length=k):Src ctx s y (R.map enc) k:=Src.sl hy (qh hk R)
theorem LR.rowT{id:Nat}{x:Operand}{xs:List Operand}{ats:Array TypeId}{f:FuncId}{ps:List PV}{e:TypeId}{k:Nat}(hc:PRow P f ps e k (L.map enc))(hx:s.ev x=some (.d (.v (.func (.func f) #[] #[]))))(he:∀ args w,(callFunc f args).run P w=.ok (.enter f args) w)
  (hps:s.evs xs=some ps) (hd:PV.isData.isDataL ps=true) (hf:s.fresh id=true) :
  Local P ctx ⟨some id,.call ⟨.value x,xs.toArray,ats⟩,ty,pos,after,gd⟩ s (s.newO id (.row e k (L.map enc)) (.row id L.length)):=by
 have:=LR.callRow (P:=P) (ctx:=ctx) (ty:=ty) (pos:=pos) (after:=after) (gd:=gd) (id:=id) (ats:=ats) hc hx he hps hd hf
 rwa [List.length_map] at this
end
section
variable{κ ν:Type}[DecidableEq κ]{eK:κ->List Int}{eV:ν->List DV}{m:List (κ×ν)}{q:κ}{zv:ν}(inj:∀ a b,eK a=eK b->a=b)
variable{x kx:Operand}{t kt et:TypeId}{ks:List IntKind}{ag:Bool}{z:Value}{p kp:PV}
theorem xNa{o:Option ν}:(o.map eV).getD (eV zv)=eV (o.getD zv):=by cases o <;> rfl
section
variable(hu:P.underlying t=some (.map kt et))(K:KeyOK P kt ks)(hz:∀ w,(zeroValue et).run P w=.ok z w)(hzr:∀ (w:World) (g:zb) (S:Nat->Prop),Rd w g S (elP ag (eV zv)) z)(hk:s.ev kx=some kp)(hkp:kp=yIa ks (eK q))(hn:(eK q).length=ks.length)(hp:elP ag (eV (AL.getZ m q zv))=p)
include inj hu K hz hzr hk hkp hn hp
theorem LR.getO{id:Nat}{bs:List Nat}{ck:Nat}(hx:s.ev x=some (.mp id))(hl:look s.objs id=some (.map ks ag (zO eK eV m) bs ck)):Local P ctx ⟨dst,.lookup t x kx false,ty,pos,after,gd⟩ s (s.putD dst p):=
 LR.lookupO hu K hz hzr (by rw[hk,hkp]) hn (by rw[jT inj,xNa];exact hp) hx hl
theorem LR.getD(hx:s.ev x=some (.md ks ag (zO eK eV m))):Local P ctx ⟨dst,.lookup t x kx false,ty,pos,after,gd⟩ s (s.putD dst p):=
 LR.lookupD hu K hz hzr (by rw[hk,hkp]) hn (by rw[jT inj,xNa];exact hp) hx
end
section
variable{id:Nat}{bs:List Nat}{ck:Nat}{vx:Operand}{v:ν}(hu:P.underlying t=some (.map kt et))(K:KeyOK P kt ks)(hx:s.ev x=some (.mp id))(hl:look s.objs id=some (.map ks ag (zO eK eV m) bs ck))
  (hk:s.ev kx=some kp) (hkp:kp=yIa ks (eK q)) (hn:(eK q).length=ks.length)
include inj hu K hx hl hk hkp hn
theorem LR.setM{pv:PV}(hv:s.ev vx=some pv)(hq:elP ag (eV v)=pv)(h1:ag=false->(eV v).length=1) :
  Local P ctx ⟨none,.mapUpdate t x kx vx,ty,pos,after,gd⟩ s (s.setO id (.map ks ag (zO eK eV (AL.set m q v)) (bset (zO eK eV m) (eK q) bs ck) (vDa (zO eK eV m) (eK q) ck))):=by
 have:=LR.mapUpdate (P:=P) (ctx:=ctx) (ty:=ty) (pos:=pos) (after:=after) (gd:=gd) hu K hx hl (by rw[hk,hkp]) hn hv hq h1 rfl rfl
 rwa [vFa inj] at this
theorem LR.setIn{pv:PV}(hv:s.ev vx=some pv)(hq:elP ag (eV v)=pv)(h1:ag=false->(eV v).length=1)(hin:AL.has m q=true) :
  Local P ctx ⟨none,.mapUpdate t x kx vx,ty,pos,after,gd⟩ s (s.setO id (.map ks ag (zO eK eV (AL.set m q v)) bs ck)):=by
 have:=LR.setM (P:=P) (ctx:=ctx) (ty:=ty) (pos:=pos) (after:=after) (gd:=gd) inj hu K hx hl hk hkp hn hv hq h1;obtain⟨u,hu'⟩:=Option.isSome_iff_exists.1 hin;have e:JZ (zO eK eV m) (eK q)=some (eV u):=by rw[jT inj,hu'];rfl
 simpa[bset,vDa,e] using this
end
end
end
end Go.Ep
namespace Go.Ep
def PV.nilD : PV->PV
 | .d (.v (.slice none 0 0))=>.d (.sl [])
 | p=>p
theorem Rd.nilD{w:World}{g:zb}{S:Nat->Prop}{p:PV}{u:Value}(h:Rd w g S p u):Rd w g S p.nilD u:=by
 unfold PV.nilD
 split
 ·have:=h.of_v;subst this;exact .d (.nil none 0 (Nat.zero_le _) (fun _=>rfl))
 ·exact h
section
variable{P:Program}{ctx:Ctx}{Q:PQ}{s:PState}
variable{dst:Option Tmp}{ty:TypeId}{pos:String}{after:Array Edge}{gd:Option (Nat×Bool)}
theorem PV.isData_nilD{p:PV}(h:p.nilD.isData=true):p.isData=true:=by
 unfold PV.nilD at h
 split at h
 ·rfl
 ·exact h
theorem vP : ∀ {ps:List PV},PV.isData.isDataL (ps.map PV.nilD)=true->PV.isData.isDataL ps=true
 | [],_=>rfl
 | p::r,h=>by
  simp only[List.map_cons,PV.isData.isDataL,Bool.and_eq_true] at h ⊢;exact⟨PV.isData_nilD h.1,vP h.2⟩
theorem PFun.nilD{f:FuncId}{ps:List PV}{r:PV}(h:PFun P f (ps.map PV.nilD) r):PFun P f ps r:=fun w S vs hl hv=>
 h w S vs (by simpa using hl) fun i p v hp hu=>by
  rw[List.getElem?_map] at hp
  cases hq:ps[i]? with
  | none=>simp[hq] at hp
  | some q=>simp[hq] at hp;subst hp;exact(hv i q v hq hu).nilD
theorem PRow.nilD{f:FuncId}{ps:List PV}{e:TypeId}{k:Nat}{l:List (List DV)}(h:PRow P f (ps.map PV.nilD) e k l):PRow P f ps e k l:=fun w S vs hl hv=>
 h w S vs (by simpa using hl) fun i p v hp hu=>by
  rw[List.getElem?_map] at hp
  cases hq:ps[i]? with
  | none=>simp[hq] at hp
  | some q=>simp[hq] at hp;subst hp;exact(hv i q v hq hu).nilD
theorem PMap.nilD{f:FuncId}{ps:List PV}{ks:List IntKind}{ag:Bool}{m:Mp}(h:PMap P f (ps.map PV.nilD) ks ag m):PMap P f ps ks ag m:=fun w S vs hl hv=>
 h w S vs (by simpa using hl) fun i p v hp hu=>by
  rw[List.getElem?_map] at hp
  cases hq:ps[i]? with
  | none=>simp[hq] at hp
  | some q=>simp[hq] at hp;subst hp;exact(hv i q v hq hu).nilD
theorem LR.callN{x:Operand}{xs:List Operand}{ats:Array TypeId}{f:FuncId}{ps qs:List PV}{r:PV}(hc:PFun P f ps r)(hx:s.ev x=some (.d (.v (.func (.func f) #[] #[]))))(he:∀ args w,(callFunc f args).run P w=.ok (.enter f args) w)
  (hps:s.evs xs=some qs) (hq:qs.map PV.nilD=ps) (hd:PV.isData.isDataL ps=true) (hr:r.isData=true) :
  Local P ctx ⟨dst,.call ⟨.value x,xs.toArray,ats⟩,ty,pos,after,gd⟩ s (s.putD dst r):=by
 subst hq;exact LR.call hc.nilD hx he hps (vP hd) hr
theorem LR.rowN{α:Type}{enc:α->List DV}{L:List α}{id:Nat}{x:Operand}{xs:List Operand}{ats:Array TypeId}{f:FuncId}{ps qs:List PV}{e:TypeId}{k:Nat}(hc:PRow P f ps e k (L.map enc))(hx:s.ev x=some (.d (.v (.func (.func f) #[] #[]))))(he:∀ args w,(callFunc f args).run P w=.ok (.enter f args) w)
  (hps:s.evs xs=some qs) (hq:qs.map PV.nilD=ps) (hd:PV.isData.isDataL ps=true) (hf:s.fresh id=true) :
  Local P ctx ⟨some id,.call ⟨.value x,xs.toArray,ats⟩,ty,pos,after,gd⟩ s (s.newO id (.row e k (L.map enc)) (.row id L.length)):=by
 subst hq;exact LR.rowT hc.nilD hx he hps (vP hd) hf
theorem PWl.mapN{ops:Array Oper}{rest:List Oper}{id:Nat}{x:Operand}{xs:List Operand}{ats:Array TypeId}{f:FuncId}{ps qs:List PV}{ks:List IntKind}{ag:Bool}{m:Mp}(hc:PMap P f ps ks ag m)(hx:s.ev x=some (.d (.v (.func (.func f) #[] #[]))))(he:∀ args w,(callFunc f args).run P w=.ok (.enter f args) w)
  (hps:s.evs xs=some qs) (hq:qs.map PV.nilD=ps) (hd:PV.isData.isDataL ps=true) (hf:s.fresh id=true) (hgd:gd=none)
  (h:∀ bs ck,bs.length=m.length->PWl P ctx ops Q rest (s.newO id (.map ks ag m bs ck) (.mp id))):PWl P ctx ops Q (⟨some id,.call ⟨.value x,xs.toArray,ats⟩,ty,pos,after,gd⟩::rest) s:=by
 subst hq;exact PWl.callMap hc.nilD hx he hps (vP hd) hf hgd h
end
end Go.Ep
namespace Go.Ep
def eK(k:IntKind)(n:Int):List DV:=[.v (.int k n)]
def eS(s:ByteArray):List DV:=[.v (.string s)]
def eL{α:Type}(enc:α->List DV)(l:List α):List DV:=[.sl (l.map enc)]
def kI(n:Int):List Int:=[n]
theorem VI(a b:Int)(h:kI a=kI b):a=b:=by simpa[kI] using h
section
variable{P:Program}{ctx:Ctx}{Q:PQ}{s:PState}
variable{dst:Option Tmp}{ty:TypeId}{pos:String}{after:Array Edge}{gd:Option (Nat×Bool)}
theorem PWc.jn{c:Code}{τ G:Type}{m:M τ}{N:τ->Prop}(h:m.wp N)(J:τ->G->PState)(i:m.wp N->PWc P ctx c (Jn ctx Q J N) s)(k:∀ v g,N v->Q .normal (J v g))
  (hK:∀ t u,Sub ctx t u->Q .normal u->Q .normal t:=by first | exact fun _ _ hs h=>PWc.sub hs h | exact fun _ _ hs ⟨v,g,h1,h2⟩=>⟨v,g,h1,Sub.trans hs h2⟩):PWc P ctx c Q s:=
 (i h).mono fun e t hq=>by
  cases e with
  | normal=>obtain⟨v,g,hv,hs⟩:=hq;exact hK t _ hs (k v g hv)
  | _=>exact hq
theorem PWc.jnX{c:Code}{τ G α:Type}{m:M (M.Ex τ α)}{N:M.Ex τ α->Prop}(h:m.wp N)(J:τ->G->PState)(i:m.wp N->PWc P ctx c (Jn ctx Q J fun v=>N (.brk v)) s)(k:∀ v g,N (.brk v)->Q .normal (J v g))
  (hK:∀ t u,Sub ctx t u->Q .normal u->Q .normal t:=by first | exact fun _ _ hs h=>PWc.sub hs h | exact fun _ _ hs ⟨v,g,h1,h2⟩=>⟨v,g,h1,Sub.trans hs h2⟩):PWc P ctx c Q s:=
 (i h).mono fun e t hq=>by
  cases e with
  | normal=>obtain⟨v,g,hv,hs⟩:=hq;exact hK t _ hs (k v g hv)
  | _=>exact hq
theorem Yt{κ ν:Type}{eK:κ->List Int}{eV:ν->List DV}{m:List (κ×ν)}{i:Nat}{y:κ×ν}(h:0<=Int.ofNat i/\m[(Int.ofNat i).toNat]?=some y):(zO eK eV m)[i]?=some (eK y.1,eV y.2):=by
 have h2:m[i]?=some y:=h.2;simp[zO,h2]
section
variable{κ ν:Type}{eK:κ->List Int}{eV:ν->List DV}{m:List (κ×ν)}
theorem w6a{L:List Nat}(h:∀ i,i < (zO eK eV m).length->i∈L):∀ i,i < m.length->i∈L:=fun i hi=>h i (by rw[Uj];exact hi)
theorem w7a{i:Nat}(h:i < (zO eK eV m).length):i < m.length:=by rwa [Uj] at h
theorem w8a{L:List Nat}(h:∀ i∈L,i < m.length):∀ i∈L,i < (zO eK eV m).length:=fun i hi=>by rw[Uj];exact h i hi
end
end
end Go.Ep
namespace Go.Ep
section
variable{P:Program}{ctx:Ctx}{Q:PQ}{s:PState}
variable{dst:Option Tmp}{ty:TypeId}{pos:String}{after:Array Edge}{gd:Option (Nat×Bool)}
section
variable{x y:Operand}{k ky:IntKind}{m n r:Int}{t t':TypeId}(hx:s.ev x=some (.d (.v (.int k m))))(hy:s.ev y=some (.d (.v (.int ky n))))
include hx hy
theorem LR.shr(h0:0<=n)(hr:m.fdiv (2 ^ min n.toNat k.bits)=r):Local P ctx ⟨dst,.binOp .shr t x y t',ty,pos,after,gd⟩ s (s.putD dst (.d (.v (.int k r)))):=by
 subst hr;have hn:¬ n < 0:=by omega
 exact zG (o:=⟨dst,.binOp .shr t x y t',ty,pos,after,gd⟩) fun a w _ hg=>⟨_,by simp[execOp,wq hg hx,wq hg hy,eqGuard_shr,binOp_shr,Op.shift,hn],.d (.v _ rfl)⟩
end
section
variable{x y:Operand}{k:IntKind}{m n:Int}{t t':TypeId}(hx:s.ev x=some (.d (.v (.int k m))))(hy:s.ev y=some (.d (.v (.int k n))))
include hx hy
theorem LR.and : Local P ctx ⟨dst,.binOp .and t x y t',ty,pos,after,gd⟩ s (s.putD dst (.d (.v (.int k (Go.bits .and k m n))))):=xu hx hy (fun w=>by simp[binOp_and,intBits_and]) rfl
end
end
end Go.Ep
namespace Go.Ep
theorem PWl.eqlNilT{P:Program}{ctx:Ctx}{Q:PQ}{s:PState}{dst:Option Tmp}{ty:TypeId}{pos:String}{after:Array Edge}{gd:Option (Nat×Bool)}{α:Type}{enc:α->List DV}{L:List α}{ops:Array Oper}{rest:List Oper}{x:Operand}{t t' e:TypeId}(hu:P.underlying t=some (.slice e))(hx:s.ev x=some (.d (.sl (L.map enc))))(hg:gd=none)
  (h:∀ b:Bool,(b=true->L=[])->PWl P ctx ops Q rest (s.putD dst (.d (.v (.bool b))))):PWl P ctx ops Q (⟨dst,.binOp .eql t x (.const (.slice none 0 0)) t',ty,pos,after,gd⟩::rest) s:=
 PWl.eqlNil hu hx hg fun b hb=>h b fun e=>by simpa using hb e
end Go.Ep
namespace Go.Ep
section
variable{P:Program}{ctx:Ctx}{Q:PQ}{s:PState}
variable{dst:Option Tmp}{ty:TypeId}{pos:String}{after:Array Edge}{gd:Option (Nat×Bool)}
theorem LR.appMakeT{α:Type}{enc:α->List DV}{z:α}{id k bs:Nat}{t ti e:TypeId}{x y:Operand}{zv:Value}{zs:List Value}{n:Int}(hb:0 < n/\n*bs<=140737488355328)(hE:ElemOK P t e k bs)(hti:P.underlying ti=some (.int .i64))(hzv:∀ w,(zeroValue e).run P w=.ok zv w)(hzc:zv.cells=zs.toArray)(h1:(zs.all Value.oneCell')=true)
  (hz:enc z=zs.map zdv) (hx:s.ev x=some (.d (.v (.slice none 0 0)))) (hy:s.ev y=some (.d (.v (.int .i64 n)))) (hf:s.fresh id=true) (hbs:Nat.ble 1 bs=true) :
  Local P ctx ⟨some id,.call ⟨.builtin .append,#[x,y],#[t,ti]⟩,ty,pos,after,gd⟩ s (s.newO id (.row e k (List.map enc (List.replicate n.toNat z))) (.row id n.toNat)):=by
 obtain⟨h0,h2⟩:=hb;obtain⟨m,rfl⟩:=Int.eq_ofNat_of_zero_le (Int.le_of_lt h0);have h3:m*bs<=140737488355328:=by
  have:((m*bs:Nat):Int)<=140737488355328:=by rw[Int.natCast_mul];exact h2
  omega
 have h4:m<=m*bs:=by
  have:=Nat.mul_le_mul_left m (Nat.le_of_ble_eq_true hbs);omega
 have hr:=LR.appendMake (P:=P) (ctx:=ctx) (s:=s) (ty:=ty) (pos:=pos) (after:=after) (gd:=gd) (id:=id) (n:=m) hE hti hzv hzc h1 hx hy (by omega) h3 (by omega) hf;rw[<- hz,<- List.map_replicate] at hr;exact hr
theorem LR.cutRowT{α:Type}{enc:α->List DV}{L:List α}{x hi:Operand}{id m k:Nat}{t e:TypeId}{kx:IntKind}{j:Int}(js:List Nat)(hu:P.underlying t=some (.slice e))(hs:∀ w,(sizeOf e).run P w=.ok k w)(hx:s.ev x=some (.row id m))(hm:m=L.length)(hl:look s.objs id=some (.row e k (L.map enc)))
  (hh:s.ev hi=some (.d (.v (.int kx j)))) (hb:0<=(0:Int)/\0<=j/\j<=(L.length:Int)) (ha:(s.junks js).alone id=true) :
  Local P ctx ⟨dst,.slice t x none (some hi) none,ty,pos,after,gd⟩ s (((s.junks js).setO id (.row e k (List.map enc (L.take j.toNat)))).putD dst (.row id j.toNat)):=by
 have:=LR.cutRow (P:=P) (ctx:=ctx) (dst:=dst) (ty:=ty) (pos:=pos) (after:=after) (gd:=gd) (m:=j.toNat) js hu hs hx hl (by simp[hm]) hh (by omega) (by omega) ha
 rwa [<- List.map_take] at this
end
end Go.Ep
namespace Go.Ep
theorem Sub.nilRow{ctx:Ctx}{s:PState}(t id e k:Nat)(hs:s.at t=some (.d (.v (.slice none 0 0))))(hf:s.fresh id=true):Sub ctx s { n:=s.n,sl:=(t,.row id 0)::s.sl,objs:=yD id (.row e k []) s.objs }:=by
 rintro a w ⟨g,hg⟩;have hn:=hg.new (Go.RowKit.Below.refl _ w) hf none (fun b n e=>by cases e) (.row e k []) (.rowNil e k (zQ _ _ _));refine⟨_,⟨hn.defers,hn.size,?_,hn.objs,hn.inj,hn.own,hn.os,hn.tape,hn.output,hn.grows,hn.keep⟩⟩;intro i p hp;rcases Jm { s with objs:=yD id (.row e k []) s.objs } t (.row id 0) i p hp with⟨rfl,rfl⟩ | ⟨_,h2⟩
 ·have hv:=(hg.slots t _ hs).of_v;rw[hv];exact .rowNil id (zQ _ _ _)
 ·exact hn.slots i p h2
end Go.Ep
namespace Go.Ep
section
variable{P:Program}{ctx:Ctx}{ops:Array Oper}{Q:PState->Prop}
theorem Uk{s t:PState}(hn:s.n=t.n)(h:∀ i p,t.at i=some p->s.at i=some p)(d:Option Nat)(q:PV):∀ i p,(t.putD d q).at i=some p->(s.putD d q).at i=some p:=by
 cases d with
 | none=>exact h
 | some d=>
  intro i p hp;simp only[PState.putD,VE] at hp ⊢
  by_cases h1:i < t.n
  ·rw[if_pos h1] at hp;rw[if_pos (by omega)]
   by_cases h2:d=i
   ·rw[if_pos h2] at hp ⊢;exact hp
   ·rw[if_neg h2] at hp ⊢;exact h i p hp
  ·rw[if_neg h1] at hp;cases hp
theorem ev_sub{s t:PState}(h:∀ i p,t.at i=some p->s.at i=some p){x:Operand}{q:PV}(hx:t.ev x=some q):s.ev x=some q:=by
 cases x with
 | tmp i=>exact h i q hx
 | const v=>cases v <;> exact hx
 | func f=>exact hx
 | global g=>exact hx
theorem PQl.forget{l:List Oper}{t:PState}(h:PQl P ctx ops Q l t):∀ {s:PState},s.n=t.n->(∀ i p,t.at i=some p->s.at i=some p)->s.objs=t.objs->PQl P ctx ops Q l s:=by
 induction h with
 | fin h hs=>intro s hn hi ho;exact .fin h (Sub.trans (Sub.drop hn hi (fun id o hl=>by rw[ho];exact hl)) hs)
 | step hl hg _ ih=>intro s hn hi ho;exact .step (fun s' h1 h2=>hl s' (fun hx hq=>h1 hx (ev_sub hi hq)) (fun hob=>h2 (by rw[ho];exact hob))) hg (ih (by simp[uG,hn]) (Uk hn hi _ _) (by simp[yl,ho]))
 | guardT hl hg hd hs _ ih=>intro s hn hi ho;exact .guardT (fun s' h1 h2=>hl s' (fun hx hq=>h1 hx (ev_sub hi hq)) (fun hob=>h2 (by rw[ho];exact hob))) hg hd (hi _ _ hs) (ih (by simp[uG,hn]) (Uk hn hi _ _) (by simp[yl,ho]))
 | guardF hg hd hs hbc _ ih=>intro s hn hi ho;exact .guardF hg hd (hi _ _ hs) hbc (ih (by simp[uG,hn]) (Uk hn hi _ _) (by simp[yl,ho]))
 | guardU hg hd hs _ ih=>intro s hn hi ho;exact .guardU hg hd (hi _ _ hs) (ih (by simp[uG,hn]) (Uk hn hi _ _) (by simp[yl,ho]))
theorem PQl.keep{l:List Oper}{s:PState}{n:Nat}{tl:List (Nat×PV)}(hn:s.n=n)(h:Fgt s tl)(k:PQl P ctx ops Q l ⟨n,tl,s.objs⟩):PQl P ctx ops Q l s:=
 k.forget (t:=⟨n,tl,s.objs⟩) hn (fun i p hp=>h.get i p (xL hp)) rfl
end
end Go.Ep
namespace Go.Ep
section
variable{P:Program}{ctx:Ctx}
theorem PWl.re{Q:PQ}{ops:Array Oper}{l:List Oper}{s:PState}{n:Nat}{tl:List (Nat×PV)}{to:List (Nat×Ob)}(hn:s.n=n)(h:Fgt s tl)(ho:OFgt s.objs to)(k:PWl P ctx ops Q l ⟨n,tl,to⟩):PWl P ctx ops Q l s:=PWl.sub (Sub.of hn h ho) k
end
end Go.Ep
namespace Go.Ep
theorem wE : type_of% @PWl.re:=@PWl.re
theorem wJ : type_of% @PWc.jn:=@PWc.jn
theorem cN : type_of% @LR.callN:=@LR.callN
theorem iX : type_of% @LR.idxT:=@LR.idxT
theorem wM : type_of% @PWc.loopM:=@PWc.loopM
theorem wy{P:Program}{ctx:Ctx}{Q:PQ}{s:PState}{ops:Array Oper}{l:List Oper}{n:Nat}{tl:List (Nat×PV)}{to:List (Nat×Ob)}(k:PWl P ctx ops Q l ⟨n,tl,to⟩)(hn:s.n=n:=by exact rfl)(h:Fgt s tl:=by repeat' constructor)(ho:OFgt s.objs to:=by repeat' constructor):PWl P ctx ops Q l s:=PWl.re hn h ho k
theorem kK{P:Program}{ctx:Ctx}{ops:Array Oper}{Q:PState->Prop}{l:List Oper}{s:PState}{n:Nat}{tl:List (Nat×PV)}(k:PQl P ctx ops Q l ⟨n,tl,s.objs⟩)(hn:s.n=n:=by exact rfl)(h:Fgt s tl:=by repeat' constructor):PQl P ctx ops Q l s:=PQl.keep hn h k
theorem xN{P:Program}{ctx:Ctx}{Q:PQ}{s:PState}{ops:Array Oper}{rest:List Oper}{dst:Option Tmp}{ty:TypeId}{pos:String}{after:Array Edge}{gd:Option (Nat×Bool)}{x:Operand}{xs:List Operand}{ats:Array TypeId}{f:FuncId}{ps qs:List PV}{r:PV}(hc:PFun P f ps r)(he:∀ args w,(callFunc f args).run P w=.ok (.enter f args) w)(h:PWl P ctx ops Q rest (s.putD dst r))(hx:s.ev x=some (.d (.v (.func (.func f) #[] #[]))):=by exact rfl)(hps:s.evs xs=some qs:=by exact rfl)(hq:qs.map PV.nilD=ps:=by exact rfl)(hd:PV.isData.isDataL ps=true:=by exact rfl)(hr:r.isData=true:=by exact rfl)(hg:gd=none:=by exact rfl):PWl P ctx ops Q (⟨dst,.call ⟨.value x,xs.toArray,ats⟩,ty,pos,after,gd⟩::rest) s:=PWl.step (LR.callN hc hx he hps hq hd hr) hg h
theorem xD{P:Program}{ctx:Ctx}{Q:PQ}{s:PState}{c:Operand}{x y:Code}{b:Bool}{β:Type}{X Y:M β}{R:β->Prop}(h:(_root_.cond b X Y).wp R)(hc:s.ev c=some (.d (.v (.bool b))))(ht:b=true->X.wp R->PWc P ctx x Q s)(hf:b=false->Y.wp R->PWc P ctx y Q s):PWc P ctx (.cond c x y) Q s:=PWc.cond hc (fun e=>ht e (iT e h)) (fun e=>hf e (iF e h))
theorem xG{P:Program}{ctx:Ctx}{ops:Array Oper}{Q:PQ}{rest:List Oper}{s:PState}{d:Nat}{b:Bool}{β:Type}{X Y:M β}{R:β->Prop}(h:(_root_.cond b X Y).wp R)(hs:s.at d=some (.d (.v (.bool b))))(ht:b=true->X.wp R->PWl P ctx ops Q rest (s.put d (.d (.v (.bool true)))))(hf:b=false->Y.wp R->PWl P ctx ops Q rest (s.put d (.d (.v (.bool false))))):PWl P ctx ops Q rest s:=PWl.split hs (fun e=>ht e (iT e h)) (fun e=>hf e (iF e h))
theorem xQ{P:Program}{ctx:Ctx}{ops:Array Oper}{Q:PState->Prop}{rest:List Oper}{s:PState}{d:Nat}{b:Bool}{β:Type}{X Y:M β}{R:β->Prop}(h:(_root_.cond b X Y).wp R)(hs:s.at d=some (.d (.v (.bool b))))(ht:b=true->X.wp R->PQl P ctx ops Q rest (s.put d (.d (.v (.bool true)))))(hf:b=false->Y.wp R->PQl P ctx ops Q rest (s.put d (.d (.v (.bool false))))):PQl P ctx ops Q rest s:=PQl.split hs (fun e=>ht e (iT e h)) (fun e=>hf e (iF e h))
end Go.Ep
