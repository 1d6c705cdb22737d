/- Side texts. -/
import GoSem.Core.View
import Derived.WalkSpells
import Derived.Test.YtmjhkhdnbenhfaaGreatDoorProg
import Derived.KernelRfl
import Derived.Test.YtmjhkhdnbenhfaaGreatDoorABk1
set_option linter.unusedVariables false
set_option linter.unusedSimpArgs false
namespace Go.Ep
open Go.RowKit
theorem z0a{ns:List Int}{v:List DV}:∀ {m:Mp},QO m ns=none->vGa m ns v=m++[(ns,v)]
 | [],_=>rfl
 | (n,cs)::r,h=>by
  by_cases e:n=ns
  ·simp[QO,e] at h
  ·simp only[QO,e,if_false] at h;simp[vGa,e,z0a h]
theorem wDa{ns:List Int}{v:List DV}:∀ {m:Mp} {cs:List DV},QO m ns=some cs->(vGa m ns v).length=m.length
 | (n,c)::r,cs,h=>by
  by_cases e:n=ns
  ·simp[vGa,e]
  ·simp only[QO,e,if_false] at h;simp[vGa,e,wDa h]
theorem wEa{ns:List Int}{v:List DV}:∀ {m:Mp} {j:Nat},xW ns m 0=some j->∀ i,(vGa m ns v)[i]?=if i=j then some (ns,v) else m[i]?
 | (n,c)::r,j,h,i=>by
  unfold xW at h
  by_cases e:n=ns
  ·subst e;rw[if_pos rfl] at h
   cases h
   simp only[vGa,if_true]
   cases i <;> simp
  ·rw[if_neg e,ve] at h
   cases hp:xW ns r 0 with
   | none=>simp[hp] at h
   | some j'=>
    simp[hp] at h;subst h;simp only[vGa,e,if_false]
    cases i with
    | zero=>simp;omega
    | succ i=>
     rw[List.getElem?_cons_succ,wEa hp i,List.getElem?_cons_succ]
     by_cases hi:i=j'
     ·simp[hi];omega
     ·rw[if_neg hi,if_neg (by omega)]
theorem Uk(ks:List IntKind)(ns:List Int):Instr.sameBits 10000 (YF ks ns) (YF ks ns)=true:=by
 have agg:∀ (ks:List IntKind) (ns:List Int),Instr.sameBits 10000 (.agg (List.zipWith Value.int ks ns).toArray) (.agg (List.zipWith Value.int ks ns).toArray)=true:=by
  intro ks ns;show((List.zipWith Value.int ks ns).toArray.size==(List.zipWith Value.int ks ns).toArray.size&&((List.zipWith Value.int ks ns).toArray.toList.zip (List.zipWith Value.int ks ns).toArray.toList).all fun(x,y)=>Instr.sameBits 9999 x y)=true;simp only[beq_self_eq_true,Bool.true_and]
  generalize hl:List.zipWith Value.int ks ns=l
  have:∀ v∈l,∃ k n,v=Value.int k n:=by
   intro v hv;rw[<- hl] at hv;obtain⟨i,hi,rfl⟩:=List.getElem_of_mem hv;exact⟨_,_,List.getElem_zipWith⟩
  clear hl
  induction l with
  | nil=>rfl
  | cons v r ih=>
   obtain⟨k,n,rfl⟩:=this v (by simp);simp only[List.zip_cons_cons,List.all_cons,Bool.and_eq_true];refine⟨?_,ih fun v hv=>this v (by simp[hv])⟩;show(k==k&&n==n)=true;simp
 rcases ks with _ | ⟨k,_ | ⟨k2,ks⟩⟩ <;> rcases ns with _ | ⟨n,_ | ⟨n2,ns⟩⟩ <;> first | exact agg _ _ | (show(k==k&&n==n)=true;simp)
section
variable{P:Program}
theorem MapRd.key{w:World}{S:Nat->Prop}{ks:List IntKind}{ag:Bool}{m:Mp}{bs:List Nat}{ck:Nat}{es:Array MapEntry}(hm:MapRd w S ks ag m bs ck es):∀ (i:Nat) (e:MapEntry) (n:List Int) (c:List DV),es.toList[i]?=some e->m[i]?=some (n,c)->e.key=YF ks n/\n.length=ks.length:=fun i e n c h1 h2=>by
 obtain⟨e',us,g1,g2,g3,g4,g5,g6,g7,g8⟩:=hm.ent i n c h2;have:e'=e:=by simp at h1;rw[g1] at h1;cases h1;rfl
 subst this;exact⟨g2,g7⟩
theorem QP{w:World}{S:Nat->Prop}{t kt et:TypeId}{ks:List IntKind}{ag:Bool}{m:Mp}{bs:List Nat}{ck b:Nat}{es:Array MapEntry}{ns:List Int}{us:List Value}{cs:List DV}(hu:P.underlying t=some (.map kt et))(K:KeyOK P kt ks)(hn:ns.length=ks.length)
  (hh:w.heap[b]?=some (.map es ck)) (hm:MapRd w S ks ag m bs ck es) (hl:us.length=cs.length) (h1:ag=false->cs.length=1) (ho:∀ u∈us,u.oneCell'=true) (hr:∀ (j:Nat) (x:DV) (u:Value),cs[j]?=some x->us[j]?=some u->DRd w S x u) :
  ∃ es',(Instr.mapUpdate t (.map (some b)) (YF ks ns) (elV ag us)).run P w=.ok () { w with heap:=w.heap.setIfInBounds b (.map es' (v4a m ns ck)) }/\MapRd w S ks ag (vGa m ns cs) (bset m ns bs ck) (v4a m ns ck) es':=by
 have hf:=K.find w ns m es.toList hn (by simpa using hm.size) hm.key
 cases hp:xW ns m 0 with
 | none=>
  have hg:=UE ns m 0 hp;rw[hp] at hf;refine⟨es.push { key:=YF ks ns,val:=elV ag us,born:=ck },?_,?_⟩
  ·simp only[Instr.mapUpdate,Sem.run_bind,run_underlying hu,Result.andThen_ok,MapKept.run_getObj_map hh,K.check w _ ns hn,hf,Option.bind_none,v4a,hg];exact MapKept.run_setObj_map _ hh
  ·rw[z0a hg];simp only[bset,v4a,hg];refine⟨by simp[hm.size],by simp[hm.stamps],?_,?_,?_⟩
   ·intro x hx;rcases List.mem_append.1 hx with h | h
    ·have:=hm.below x h;omega
    ·simp at h;omega
   ·rw[List.nodup_append];refine⟨hm.nodup,by simp,?_⟩;intro x hx y hy;simp at hy;have:=hm.below x hx;omega
   ·intro i n c hi;rw[List.getElem?_append] at hi
    split at hi
    ·rename_i hlt
     obtain⟨e,us',g1,g⟩:=hm.ent i n c hi;exact⟨e,us',by rw[Array.getElem?_push,if_neg (by rw[hm.size];omega)];exact g1,g⟩
    ·rename_i hge
     have hi0:i=m.length:=by
      have:i - m.length < 1:=by simpa using (List.getElem?_eq_some_iff.1 hi).1
      omega
     subst hi0;simp at hi;obtain⟨rfl,rfl⟩:=hi;exact⟨_,us,by rw[Array.getElem?_push,if_pos hm.size.symm],rfl,rfl,hl,h1,ho,hn,hr⟩
 | some j=>
  obtain⟨k,hjk,cs0,h2,h3⟩:=VD ns m 0 j hp;have:j=k:=by omega
  subst this;obtain⟨e0,us0,g1,g2,g3,g4,g5,g6,g7,g8⟩:=hm.ent j ns cs0 h2;rw[hp] at hf;have he:es.toList[j]?=some e0:=by simpa using g1
  simp only[Option.bind_some,he,Option.map_some] at hf;refine⟨es.modify j fun e=>{ e with key:=YF ks ns,val:=elV ag us },?_,?_⟩
  ·have hsame:(Instr.keyThatStays (((es[j]?).map (·.key)).getD (YF ks ns)) (YF ks ns)).run P w=.ok (YF ks ns) w:=by
    simp only[g1,Option.map_some,Option.getD_some,g2,Instr.keyThatStays,Uk,if_true,Sem.run_pure]
   simp only[Instr.mapUpdate,Sem.run_bind,run_underlying hu,Result.andThen_ok,MapKept.run_getObj_map hh,K.check w _ ns hn,hf,hsame,v4a,h3];exact MapKept.run_setObj_map _ hh
  ·simp only[bset,v4a,h3];refine⟨by rw[wDa h3];simp[hm.size],?_,hm.below,hm.nodup,?_⟩
   ·rw[hm.stamps];apply List.ext_getElem?;intro i;simp only[List.getElem?_map,Array.getElem?_toList,Array.getElem?_modify]
    by_cases hij:j=i
    ·subst hij;simp[g1]
    ·simp[hij]
   ·intro i n c hi;rw[wEa hp] at hi
    by_cases hij:i=j
    ·subst hij;rw[if_pos rfl] at hi
     cases hi
     exact⟨_,us,by rw[Array.getElem?_modify,if_pos rfl,g1];rfl,rfl,rfl,hl,h1,ho,hn,hr⟩
    ·rw[if_neg hij] at hi;obtain⟨e,us',q1,q⟩:=hm.ent i n c hi;exact⟨e,us',by rw[Array.getElem?_modify,if_neg (Ne.symm hij)];exact q1,q⟩
end
section
variable{P:Program}{ctx:Ctx}{Q:PQ}{s:PState}
variable{dst:Option Tmp}{ty:TypeId}{pos:String}{after:Array Edge}{gd:Option (Nat×Bool)}
theorem LR.makeMap{id:Nat}{t:TypeId}(ks:List IntKind)(ag:Bool)(hf:s.fresh id=true):Local P ctx ⟨some id,.makeMap t none,ty,pos,after,gd⟩ s (s.newO id (.map ks ag [] [] 0) (.mp id)):=
 yP (o:=⟨some id,.makeMap t none,ty,pos,after,gd⟩) fun a w g hg=>by
  refine⟨.map (some w.heap.size),w.alloc (.map #[] 0),by simp[execOp,Instr.makeMap,Result.andThen],upd g id (some (w.heap.size,0)),?_⟩;have hb:=Below.alloc1 w (.map #[] 0);have hnew:=hg.new hb hf (some (w.heap.size,0)) (fun b n e=>by cases e;simp) (.map ks ag [] [] 0)
   (.map ks ag [] [] 0 w.heap.size 0 #[] (zN _ _ _) (heap_alloc_new w _) ⟨rfl,rfl,by simp,by simp,by simp⟩)
  exact hnew.put (some id) (.mp id w.heap.size 0 (zN _ _ _))
theorem XV(w:World)(b k:Nat)(o:Obj)(h:k≠b):({ w with heap:=w.heap.setIfInBounds b o }:World).heap[k]?=w.heap[k]?:=by simp[Ne.symm h]
theorem VE(w:World)(b:Nat)(o:Obj)(h:b < w.heap.size):({ w with heap:=w.heap.setIfInBounds b o }:World).heap[b]?=some o:=by simp[h]
theorem v7a{ag:Bool}{cs:List DV}{q:PV}(hq:elP ag cs=q)(h1:ag=false->cs.length=1){w:World}{g:zf}{S:Nat->Prop}{u:Value}(h:Rd w g S q u) :
  ∃ us,u=elV ag us/\us.length=cs.length/\(∀ u∈us,u.oneCell'=true)/\∀ (j:Nat) (x:DV) (u:Value),cs[j]?=some x->us[j]?=some u->DRd w S x u:=by
 subst hq
 cases ag with
 | true=>
  cases h with
  | agg _ us hl hr ho=>
   refine⟨us,rfl,by simpa using hl.symm,ho,fun j x u hx hu=>?_⟩;have:=hr j (.d x) u (by simp[hx]) hu
   cases this with
   | d h=>exact h
 | false=>
  match cs,h1 rfl,h with
  | [x],_,.d hd=>
   refine⟨[u],rfl,rfl,by simpa using hd.one,fun j y v hy hv=>?_⟩
   cases j with
   | zero=>simp at hy hv;subst hy;subst hv;exact hd
   | succ j=>simp at hy
theorem LR.mapUpdate{x kx vx:Operand}{t kt et:TypeId}{id:Nat}{ks:List IntKind}{ag:Bool}{m:Mp}{bs bs':List Nat}{ck ck':Nat}{ns:List Int}{cs:List DV}{q:PV}(hu:P.underlying t=some (.map kt et))(K:KeyOK P kt ks)(hx:s.ev x=some (.mp id))(hl:look s.objs id=some (.map ks ag m bs ck))
  (hk:s.ev kx=some (vva ks ns)) (hn:ns.length=ks.length) (hv:s.ev vx=some q) (hq:elP ag cs=q) (h1:ag=false->cs.length=1) (hbs:bset m ns bs ck=bs') (hck:v4a m ns ck=ck') :
  Local P ctx ⟨none,.mapUpdate t x kx vx,ty,pos,after,gd⟩ s (s.setO id (.map ks ag (vGa m ns cs) bs' ck')):=by
 subst hbs;subst hck;refine Xl (o:=⟨none,.mapUpdate t x kx vx,ty,pos,after,gd⟩) fun a w g hg=>?_
 have h:=hg.ev hx
 generalize hxv:a.eval x=v at h
 cases h with
 | mpNil _ hgn=>
  cases hg.objs id _ hl with
  | map _ _ _ _ _ blk' n' es h' hh hm=>rw[hgn] at h';cases h'
 | mp _ blk n hgi=>
  cases hg.objs id _ hl with
  | map _ _ _ _ _ blk' n' es h' hh hm=>
   rw[hgi] at h';cases h';obtain⟨us,e1,e2,e3,e4⟩:=v7a hq h1 (hg.ev hv);obtain⟨es',hrun,hm'⟩:=QP hu K hn hh hm e2 h1 e3 e4;refine⟨_,by simp only[execOp,hxv,XU (hg.ev hk),e1,Sem.run_bind,hrun,Result.andThen_ok,Sem.run_pure];rfl,g,?_⟩;have hown:=hg.own id _ blk n hl hgi;have hother:∀ k,k < w.heap.size->k≠blk->({ w with heap:=w.heap.setIfInBounds blk (.map es' (v4a m ns ck)) }:World).heap[k]?=w.heap[k]?:=fun k _ hne=>XV w blk k _ hne
   have hst:yc w { w with heap:=w.heap.setIfInBounds blk (.map es' (v4a m ns ck)) } (zm ctx g s.objs):=⟨by simp,fun b ⟨_,h2⟩ hlt=>hother b hlt fun e=>by subst e;exact h2 id _ n hl hgi⟩
   exact hg.wrote hl hgi rfl rfl rfl (by simp) hother hown.2 (.map ks ag _ _ _ blk n es' hgi (VE w blk _ hown.1) (hm'.keep hst (fun b hb _=>wh hl b hb)))
theorem QQ{o:Oper}{id:Nat}{ob:Ob}(ho:o.dst=some id)(hf:s.fresh id=true){a:Act}{w:World}{g:zf}(hg:RelG ctx g s a w){it:Obj}
  (h:∀ (w':World) (g':zf) (S':Nat->Prop),yc w w' (zm ctx g s.objs)->(∀ b,zm ctx g s.objs b->b < w.heap.size->S' b)->(∀ j,j≠id->g' j=g j)->g' id=some (w.heap.size,0)->w'.heap[w.heap.size]?=some it->ObRd w' g' S' id ob) :
  Rel ctx (s.newO id ob (.ref id 0)) (a.put o.dst (.pointer (some ⟨w.heap.size,0,none⟩))) (w.alloc it):=by
 have hb:=Below.alloc1 w it;have hst:yc w (w.alloc it) (zm ctx g s.objs):=⟨hb.size,fun b _ hlt=>hb.block b hlt⟩
 have hF:∀ b,zm ctx g s.objs b->b < w.heap.size->zm ctx (upd g id (some (w.heap.size,0))) (yJ id ob s.objs) b:=by
  intro b ⟨h1,h2⟩ hlt;refine⟨h1,fun j o n hl hg'=>?_⟩;rw[zC] at hl
  by_cases hj:j=id
  ·subst hj;rw[zN] at hg';cases hg';omega
  ·rw[if_neg hj] at hl;rw[yS hj] at hg';exact h2 j o n hl hg'
 have hnew:=hg.new hb hf (some (w.heap.size,0)) (fun b n e=>by cases e;simp) ob (h _ _ _ hst hF (fun j hj=>yS hj) (zN _ _ _) (heap_alloc_new w _));rw[ho];exact⟨_,hnew.put (some id) (.ref id 0 w.heap.size 0 (zN _ _ _))⟩
theorem LR.rangeO{id mid:Nat}{x:Operand}{t kt et:TypeId}{ks:List IntKind}{ag:Bool}{m:Mp}{bs:List Nat}{ck:Nat}(hu:P.underlying t=some (.map kt et))(hx:s.ev x=some (.mp mid))(hl:look s.objs mid=some (.map ks ag m bs ck))(hf:s.fresh id=true) :
  Local P ctx ⟨some id,.range t x,ty,pos,after,gd⟩ s (s.newO id (.iterO mid bs ck []) (.ref id 0)):=
 yP (o:=⟨some id,.range t x,ty,pos,after,gd⟩) fun a w g hg=>by
  have h:=hg.ev hx
  generalize hv:a.eval x=v at h
  cases h with
  | mpNil _ hgn=>
   cases hg.objs mid _ hl with
   | map _ _ _ _ _ blk' n' es h' hh hm=>rw[hgn] at h';cases h'
  | mp _ blk n hgi=>
   cases hg.objs mid _ hl with
   | map _ _ _ _ _ blk' n' es h' hh hm=>
    rw[hgi] at h';cases h';refine⟨_,_,?_,QQ (o:=⟨some id,.range t x,ty,pos,after,gd⟩) rfl hf hg (it:=.mapIter (some blk) ck #[] ck) fun w' g' S' _ _ h1 h2 h3=>.iterO mid bs ck [] w.heap.size 0 blk n h2 h3 (by
     rw[h1 mid (fun e=>by subst e;rw[vDa hf] at hl;cases hl)];exact hgi)⟩
    simp[execOp,hv,Instr.range,run_underlying hu,MapKept.run_getObj_map hh,Result.andThen]
theorem PWl.rangeD{ops:Array Oper}{rest:List Oper}{id:Nat}{x:Operand}{t kt et:TypeId}{ks:List IntKind}{ag:Bool}{m:Mp}(hu:P.underlying t=some (.map kt et))(hx:s.ev x=some (.md ks ag m))(hf:s.fresh id=true)(hgd:gd=none)
  (h:∀ bs ck,bs.length=m.length->bs.Nodup->PWl P ctx ops Q rest (s.newO id (.iterD ks ag m bs ck []) (.ref id 0))):PWl P ctx ops Q (⟨some id,.range t x,ty,pos,after,gd⟩::rest) s:=by
 rintro a w ⟨g,hg⟩;have hr:=hg.ev hx
 generalize hv:a.eval x=v at hr
 refine wpList_plain hgd fun K hK=>?_
 cases hr with
 | md _ _ _ bs ck b es hS hb hh hm=>
  have hlen:bs.length=m.length:=by rw[hm.stamps];simp[hm.size]
  have hrun:(execOp a.eval ⟨some id,.range t x,ty,pos,after,gd⟩).run P w=.ok (.value (.pointer (some ⟨w.heap.size,0,none⟩))) (w.alloc (.mapIter (some b) ck #[] ck)):=by
   simp[execOp,hv,Instr.range,run_underlying hu,MapKept.run_getObj_map hh,Result.andThen]
  unfold Oper.wp;rw[hrun];exact hK _ _ (h bs ck hlen hm.nodup _ _ (QQ (o:=⟨some id,.range t x,ty,pos,after,gd⟩) rfl hf hg fun w' g' S' hst hS' h1 h2 h3=>.iterD ks ag m bs ck [] w.heap.size 0 b es h2 h3 (hS' b hS hb) (Nat.lt_of_lt_of_le hb hst.1) (by rw[hst.2 b hS hb];exact hh) (hm.keep hst hS')))
 | mdNil=>
  have hrun:(execOp a.eval ⟨some id,.range t x,ty,pos,after,gd⟩).run P w=.ok (.value (.pointer (some ⟨w.heap.size,0,none⟩))) (w.alloc (.mapIter none 0 #[] 0)):=by
   simp[execOp,hv,Instr.range,run_underlying hu,Result.andThen]
  unfold Oper.wp;rw[hrun];exact hK _ _ (h [] 0 rfl (by simp) _ _ (QQ (o:=⟨some id,.range t x,ty,pos,after,gd⟩) rfl hf hg fun w' g' S' hst hS' h1 h2 h3=>.iterN ks ag w.heap.size 0 h2 h3))
theorem wFa {w : World} {b r ck : Nat} {es : Array MapEntry} {seen : List Nat} (hr : w.heap[r]? = some (.mapIter (some b) ck seen.toArray ck)) (hb : w.heap[b]? = some (.map es ck)) (hlt : ∀ (i : Nat) (e : MapEntry), es[i]? = some e -> e.born < ck) (ty : TypeId) :
    ∃ w1 : World, w1.heap=w.heap/\w1.os=w.os/\w1.tape=w.tape/\w1.output=w.output /\
      (((Instr.next (.pointer (some ⟨r, 0, none⟩)) false ty).run P w=.ok (.tuple #[.bool false]) w1/\∀ (i : Nat) (e : MapEntry), es[i]?=some e->e.born∈seen) \/
       ∃ (i : Nat) (e : MapEntry), es[i]?=some e/\e.born∉seen/\(Instr.next (.pointer (some ⟨r, 0, none⟩)) false ty).run P w=.ok (.tuple #[.bool true, e.key, e.val]) { w1 with heap := w1.heap.setIfInBounds r (.mapIter (some b) ck (seen.toArray.push e.born) ck) }) := by
  have hgr : (getObj r).run P w=.ok (.mapIter (some b) ck seen.toArray ck) w := by simp[getObj, Sem.run, hr]
  have hgb := MapKept.run_getObj_map (P := P) hb;have hnot : (!seen.toArray.isEmpty&&!es.isEmpty&&es.all (·.born >= ck))=false := by
    cases he : es.isEmpty with
    | true => simp
    | false =>
      have h0 : 0 < es.size := by
        rcases Nat.eq_zero_or_pos es.size with h | h
        · have : es=#[] := Array.eq_empty_of_size_eq_zero h;subst this; simp at he
        · exact h
      have h1 := hlt 0 es[0] (Array.getElem?_eq_getElem h0);have : es.all (·.born >= ck)=false := by
        cases ha : es.all (·.born >= ck) with
        | false => rfl
        | true =>
          have := Array.all_eq_true_iff_forall_mem.1 ha es[0] (by simp);simp at this;omega
      simp[this]
  have hold : (es.filter fun e => !seen.toArray.contains e.born).filter (fun e => e.born < ck)=es.filter fun e => !seen.toArray.contains e.born := by
    apply Array.ext';simp only[Array.toList_filter];rw[List.filter_eq_self.2];intro e he;have he := (List.mem_filter.1 he).1;obtain⟨i, hi, rfl⟩ := List.getElem_of_mem he;have := hlt i _ (by simp at hi ⊢; exact Array.getElem?_eq_getElem hi);simpa using this
  have hnew : (es.filter fun e => !seen.toArray.contains e.born).filter (fun e => e.born >= ck)=#[] := by
    apply Array.ext';simp only[Array.toList_filter];rw[List.filter_eq_nil_iff.2]
    · intro e he;have he := (List.mem_filter.1 he).1;obtain⟨i, hi, rfl⟩ := List.getElem_of_mem he;have := hlt i _ (by simp at hi ⊢; exact Array.getElem?_eq_getElem hi);simp at this ⊢;exact this
  generalize hleft : (es.filter fun e => !seen.toArray.contains e.born)=left at hold hnew
  have hunf : ∀ (k : Nat) (w1 : World), (choose (.mapNext ((if left.isEmpty then #[none] else #[]) ++ (left ++ #[]).map some : Array (Option MapEntry)).size)).run P w = .ok k w1 ->
      (Instr.next (.pointer (some ⟨r, 0, none⟩)) false ty).run P w=(match ((if left.isEmpty then #[none] else #[])++(left++#[]).map some : Array (Option MapEntry))[k]? with
        | some (some e) => (do setObj r (.mapIter (some b) ck (seen.toArray.push e.born) ck); pure (.tuple #[.bool true, e.key, e.val]) : Sem Value).run P w1
        | some none => .ok (.tuple #[.bool false]) w1
        | none => (stuck "Next: no such candidate" : Sem Value).run P w1) := by
    intro k w1 hk;simp only[Instr.next, Sem.run_bind, hgr, Result.andThen_ok, hgb, hnot, Bool.false_eq_true, if_false, hleft, hold, hnew, hk]
    split <;> simp_all
  by_cases hemp : left.isEmpty=true
  · have hl0 : left=#[] := by simpa using hemp
    refine⟨w, rfl, rfl, rfl, rfl, .inl ⟨?_, ?_⟩⟩
    · have hc : (choose (.mapNext ((if left.isEmpty then #[none] else #[]) ++ (left ++ #[]).map some : Array (Option MapEntry)).size)).run P w = .ok 0 w := by
        subst hl0;simp[Question.forced]
      rw[hunf 0 w hc];subst hl0;simp
    · intro i e he
      by_cases hs : e.born∈seen
      · exact hs
      · exfalso;have : e ∈ left := by
          rw[<- hleft, Array.mem_filter];exact⟨Array.mem_of_getElem? he, by simpa using hs⟩
        rw[hl0] at this;simp at this
  · have hcand : ((if left.isEmpty then #[none] else #[])++(left++#[]).map some : Array (Option MapEntry))=left.map some := by simp[hemp]
    have hpos : 0 < left.size := by
      rcases Nat.eq_zero_or_pos left.size with h | h
      · have : left=#[] := Array.eq_empty_of_size_eq_zero h;subst this; simp at hemp
      · exact h
    obtain⟨k, w1, hk, hklt, e1, e2, e3, e4⟩ : ∃ (k : Nat) (w1 : World), (choose (.mapNext ((if left.isEmpty then #[none] else #[])++(left++#[]).map some : Array (Option MapEntry)).size)).run P w=.ok k w1/\k < left.size/\w1.heap=w.heap/\w1.os=w.os/\w1.tape=w.tape/\w1.output=w.output := by
      rw[hcand];rw[run_choose_drew]
      by_cases hfo : (Question.mapNext (left.map some : Array (Option MapEntry)).size).forced=true
      · rw[if_pos hfo]; exact⟨0, w, rfl, hpos, rfl, rfl, rfl, rfl⟩
      · rw[if_neg hfo]; exact⟨_, w.drew, rfl, by simp only[Question.cut, Array.size_map]; exact Nat.mod_lt _ hpos, rfl, rfl, rfl, rfl⟩
    refine⟨w1, e1, e2, e3, e4, .inr ?_⟩;have hin : left[k]∈es.filter fun e => !seen.toArray.contains e.born := by rw[hleft]; simp
    obtain⟨h1, h2⟩ := Array.mem_filter.1 hin;obtain⟨i, hi, hie⟩ := Array.getElem_of_mem h1;refine⟨i, left[k], by rw[<- hie]; exact Array.getElem?_eq_getElem hi, by simpa using h2, ?_⟩;rw[hunf k w1 hk, hcand];have : (left.map some : Array (Option MapEntry))[k]?=some (some left[k]) := by simp[hklt]
    rw[this];have hset : (setObj r (.mapIter (some b) ck (seen.toArray.push left[k].born) ck)).run P w1=.ok () { w1 with heap := w1.heap.setIfInBounds r (.mapIter (some b) ck (seen.toArray.push left[k].born) ck) } := by
      simp[setObj, Sem.run, e1, hr]
    simp only[Sem.run_bind, hset, Result.andThen_ok, Sem.run_pure]
theorem wGa{bs:List Nat}(h:bs.Nodup){i j:Nat}(hi:i < bs.length)(hj:j < bs.length)(e:bs.getD i 0=bs.getD j 0):i=j:=by
 have e':bs[i]=bs[j]:=by simpa[List.getD,hi,hj] using e
 have hp:=List.pairwise_iff_getElem.1 h;rcases Nat.lt_trichotomy i j with h1 | h1 | h1
 ·exact absurd e' (hp i j hi hj h1)
 ·exact h1
 ·exact absurd e'.symm (hp j i hj hi h1)
section
variable{ops:Array Oper}{rest:List Oper}{it:Operand}{id:Nat}{ks:List IntKind}{ag:Bool}{m:Mp}{bs:List Nat}{ck:Nat}{L:List Nat}
theorem PWl.nextD(hx:s.ev it=some (.ref id 0))(hl:look s.objs id=some (.iterD ks ag m bs ck L))(hL:∀ i∈L,i < m.length)(hgd:gd=none)
  (hdone:(∀ i,i < m.length->i∈L)->PWl P ctx ops Q rest (s.putD dst (.tup [.d (.v (.bool false))])))
  (hstep:∀ i,i < m.length->i∉L->PWl P ctx ops Q rest ((s.setO id (.iterD ks ag m bs ck (L++[i]))).putD dst (.tup [.d (.v (.bool true)),.junk,.junk]))) :
  PWl P ctx ops Q (⟨dst,.next it false,ty,pos,after,gd⟩::rest) s:=by
 rintro a w ⟨g,hg⟩;have hr:=hg.ev hx
 generalize hv:a.eval it=v at hr
 refine wpList_plain hgd fun K hK=>?_
 have tupF:Rd w g (zm ctx g s.objs) (.tup [.d (.v (.bool false))]) (.tuple [.bool false].toArray):=.tup _ [.bool false] rfl (fun i p u hp hu=>by
  match i with
  | 0=>simp at hp hu;subst hp;subst hu;exact .d (.v _ rfl)
  | _+1=>simp at hp)
 cases hr with
 | ref _ _ blk n hgi=>
  cases hg.objs id _ hl with
  | iterN _ _ blk' n' h' hh=>
   rw[hgi] at h';cases h';have hrun:(execOp a.eval ⟨dst,.next it false,ty,pos,after,gd⟩).run P w=.ok (.value (.tuple #[.bool false])) w:=by
    have hgr:(getObj blk).run P w=.ok (.mapIter none 0 #[] 0) w:=by simp[getObj,Sem.run,hh]
    simp only[execOp,hv,Instr.next,Sem.run_bind,hgr,Result.andThen_ok,Sem.run_pure]
   unfold Oper.wp;rw[hrun];exact hK _ _ (hdone (by simp) _ _ ⟨g,hg.put dst tupF⟩)
  | iterD _ _ _ _ _ _ blk' n' b es h' hh hS hb hb2 hm=>
   rw[hgi] at h';cases h';have hblen:bs.length=m.length:=by rw[hm.stamps];simp[hm.size]
   have hborn:∀ (i:Nat) (e:MapEntry),es[i]?=some e->e.born=bs.getD i 0/\i < m.length:=fun i e he=>by
    have hi:i < es.size:=(Array.getElem?_eq_some_iff.1 he).1;rw[hm.stamps];refine⟨?_,by rw[<- hm.size];exact hi⟩;simp[List.getD,he]
   obtain⟨w1,e1,e2,e3,e4,hcase⟩:=wFa (P:=P) hh hb2 (fun i e he=>by
    have:=hborn i e he;rw[this.1];refine hm.below _ ?_;simp[List.getD,hblen,this.2]) ty
   have hst:yc w w1 (zm ctx g s.objs):=⟨by rw[e1];exact Nat.le_refl _,fun b _ _=>by rw[e1]⟩
   have hg1:RelG ctx g s a w1:=hg.below ⟨e2,e3,e4,by rw[e1];exact Nat.le_refl _,fun k _=>by rw[e1]⟩;rcases hcase with⟨hrun,hall⟩ | ⟨i,e,he,hns,hrun⟩
   ·unfold Oper.wp;have:(execOp a.eval ⟨dst,.next it false,ty,pos,after,gd⟩).run P w=.ok (.value (.tuple #[.bool false])) w1:=by simp only[execOp,hv,Sem.run_bind,hrun,Result.andThen_ok,Sem.run_pure]
    rw[this];refine hK _ _ (hdone (fun i hi=>?_) _ _ ⟨g,hg1.put dst (tupF.keep hst (fun _ hb _=>hb) (fun _ _=>rfl))⟩);have hi':i < es.size:=by rw[hm.size];exact hi
    have:=hall i es[i] (Array.getElem?_eq_getElem hi');rw[(hborn i _ (Array.getElem?_eq_getElem hi')).1,List.mem_map] at this;obtain⟨j,hj,hje⟩:=this;have:=wGa hm.nodup (by rw[hblen];exact hL j hj) (by rw[hblen];exact hi) hje;rw[<- this];exact hj
   ·have hb':=hborn i e he;have hnL:i∉L:=fun hi=>hns (by rw[hb'.1];exact List.mem_map.2 ⟨i,hi,rfl⟩)
    unfold Oper.wp;have hexec:(execOp a.eval ⟨dst,.next it false,ty,pos,after,gd⟩).run P w=.ok (.value (.tuple #[.bool true,e.key,e.val])) { w1 with heap:=w1.heap.setIfInBounds blk (.mapIter (some b) ck ((L.map fun i=>bs.getD i 0).toArray.push e.born) ck) }:=by simp only[execOp,hv,Sem.run_bind,hrun,Result.andThen_ok,Sem.run_pure]
    rw[hexec];have hown:=hg1.own id _ blk n hl hgi;have hother:∀ k,k < w1.heap.size->k≠blk->({ w1 with heap:=w1.heap.setIfInBounds blk (.mapIter (some b) ck ((L.map fun i=>bs.getD i 0).toArray.push e.born) ck) }:World).heap[k]?=w1.heap[k]?:=fun k _ hne=>XV w1 blk k _ hne
    have hst2:yc w { w1 with heap:=w1.heap.setIfInBounds blk (.mapIter (some b) ck ((L.map fun i=>bs.getD i 0).toArray.push e.born) ck) } (zm ctx g s.objs):=⟨by simp[e1],fun b' hb3 hlt=>by
     rw[hother b' (by rw[e1];exact hlt) fun e=>by subst e;exact hb3.2 id _ n hl hgi,e1]⟩
    have hwr:=hg1.wrote hl hgi (w':={ w1 with heap:=w1.heap.setIfInBounds blk (.mapIter (some b) ck ((L.map fun i=>bs.getD i 0).toArray.push e.born) ck) }) rfl rfl rfl (by simp) hother hown.2
     (ob:=.iterD ks ag m bs ck (L++[i])) (.iterD ks ag m bs ck (L++[i]) blk n b es hgi (by rw[VE w1 blk _ hown.1];simp[hb'.1]) (wh hl b hS) (by simp[e1];exact hb)
      (by rw[hst2.2 b hS hb];exact hb2) (hm.keep hst2 (fun b hb _=>wh hl b hb)))
    exact hK _ _ (hstep i hb'.2 hnL _ _ ⟨g,hwr.put dst (.tup _ [.bool true,e.key,e.val] rfl (fun j p u hp hu=>by
     match j with
     | 0=>simp at hp hu;subst hp;subst hu;exact .d (.v _ rfl)
     | 1=>simp at hp hu;subst hp;exact .junk _
     | 2=>simp at hp hu;subst hp;exact .junk _
     | _+3=>simp at hp))⟩)
theorem PWl.nextO{mid:Nat}(hx:s.ev it=some (.ref id 0))(hl:look s.objs id=some (.iterO mid bs ck L))(hlm:look s.objs mid=some (.map ks ag m bs ck))(hL:∀ i∈L,i < m.length)(hgd:gd=none)
  (hdone:(∀ i,i < m.length->i∈L)->PWl P ctx ops Q rest (s.putD dst (.tup [.d (.v (.bool false))])))
  (hstep:∀ i,i < m.length->i∉L->PWl P ctx ops Q rest ((s.setO id (.iterO mid bs ck (L++[i]))).putD dst (.tup [.d (.v (.bool true)),.junk,.junk]))) :
  PWl P ctx ops Q (⟨dst,.next it false,ty,pos,after,gd⟩::rest) s:=by
 rintro a w ⟨g,hg⟩;have hr:=hg.ev hx
 generalize hv:a.eval it=v at hr
 refine wpList_plain hgd fun K hK=>?_
 have tupF:Rd w g (zm ctx g s.objs) (.tup [.d (.v (.bool false))]) (.tuple [.bool false].toArray):=.tup _ [.bool false] rfl (fun i p u hp hu=>by
  match i with
  | 0=>simp at hp hu;subst hp;subst hu;exact .d (.v _ rfl)
  | _+1=>simp at hp)
 cases hr with
 | ref _ _ blk n hgi=>
  cases hg.objs id _ hl with
  | iterON _ _ blk' n' h' hh hgm=>
   cases hg.objs mid _ hlm with
   | map _ _ _ _ _ bm nm es hgm2 hb2 hm=>rw[hgm] at hgm2;cases hgm2
  | iterO _ _ _ _ blk' n' b n2 h' hh hgm=>
   rw[hgi] at h';cases h'
   cases hg.objs mid _ hlm with
   | map _ _ _ _ _ bm nm es hgm2 hb2 hm=>
    rw[hgm] at hgm2;cases hgm2;have hblen:bs.length=m.length:=by rw[hm.stamps];simp[hm.size]
    have hborn:∀ (i:Nat) (e:MapEntry),es[i]?=some e->e.born=bs.getD i 0/\i < m.length:=fun i e he=>by
     have hi:i < es.size:=(Array.getElem?_eq_some_iff.1 he).1;rw[hm.stamps];refine⟨?_,by rw[<- hm.size];exact hi⟩;simp[List.getD,he]
    obtain⟨w1,e1,e2,e3,e4,hcase⟩:=wFa (P:=P) hh hb2 (fun i e he=>by
     have:=hborn i e he;rw[this.1];refine hm.below _ ?_;simp[List.getD,hblen,this.2]) ty
    have hst:yc w w1 (zm ctx g s.objs):=⟨by rw[e1];exact Nat.le_refl _,fun b _ _=>by rw[e1]⟩
    have hg1:RelG ctx g s a w1:=hg.below ⟨e2,e3,e4,by rw[e1];exact Nat.le_refl _,fun k _=>by rw[e1]⟩;rcases hcase with⟨hrun,hall⟩ | ⟨i,e,he,hns,hrun⟩
    ·unfold Oper.wp;have:(execOp a.eval ⟨dst,.next it false,ty,pos,after,gd⟩).run P w=.ok (.value (.tuple #[.bool false])) w1:=by simp only[execOp,hv,Sem.run_bind,hrun,Result.andThen_ok,Sem.run_pure]
     rw[this];refine hK _ _ (hdone (fun i hi=>?_) _ _ ⟨g,hg1.put dst (tupF.keep hst (fun _ hb _=>hb) (fun _ _=>rfl))⟩);have hi':i < es.size:=by rw[hm.size];exact hi
     have:=hall i es[i] (Array.getElem?_eq_getElem hi');rw[(hborn i _ (Array.getElem?_eq_getElem hi')).1,List.mem_map] at this;obtain⟨j,hj,hje⟩:=this;have:=wGa hm.nodup (by rw[hblen];exact hL j hj) (by rw[hblen];exact hi) hje;rw[<- this];exact hj
    ·have hb':=hborn i e he;have hnL:i∉L:=fun hi=>hns (by rw[hb'.1];exact List.mem_map.2 ⟨i,hi,rfl⟩)
     unfold Oper.wp;have hexec:(execOp a.eval ⟨dst,.next it false,ty,pos,after,gd⟩).run P w=.ok (.value (.tuple #[.bool true,e.key,e.val])) { w1 with heap:=w1.heap.setIfInBounds blk (.mapIter (some b) ck ((L.map fun i=>bs.getD i 0).toArray.push e.born) ck) }:=by simp only[execOp,hv,Sem.run_bind,hrun,Result.andThen_ok,Sem.run_pure]
     rw[hexec];have hown:=hg1.own id _ blk n hl hgi;have hother:∀ k,k < w1.heap.size->k≠blk->({ w1 with heap:=w1.heap.setIfInBounds blk (.mapIter (some b) ck ((L.map fun i=>bs.getD i 0).toArray.push e.born) ck) }:World).heap[k]?=w1.heap[k]?:=fun k _ hne=>XV w1 blk k _ hne
     have hwr:=hg1.wrote hl hgi (w':={ w1 with heap:=w1.heap.setIfInBounds blk (.mapIter (some b) ck ((L.map fun i=>bs.getD i 0).toArray.push e.born) ck) }) rfl rfl rfl (by simp) hother hown.2
      (ob:=.iterO mid bs ck (L++[i])) (.iterO mid bs ck (L++[i]) blk n b n2 hgi (by rw[VE w1 blk _ hown.1];simp[hb'.1]) hgm)
     exact hK _ _ (hstep i hb'.2 hnL _ _ ⟨g,hwr.put dst (.tup _ [.bool true,e.key,e.val] rfl (fun j p u hp hu=>by
      match j with
      | 0=>simp at hp hu;subst hp;subst hu;exact .d (.v _ rfl)
      | 1=>simp at hp hu;subst hp;exact .junk _
      | 2=>simp at hp hu;subst hp;exact .junk _
      | _+3=>simp at hp))⟩)
theorem z1a{w:World}{b r ck i:Nat}{es:Array MapEntry}{bs:List Nat}{L:List Nat}{e:MapEntry}(hr:w.heap[r]?=some (.mapIter (some b) ck ((L++[i]).map fun i=>bs.getD i 0).toArray ck))(hb:w.heap[b]?=some (.map es ck))(hs:bs=es.toList.map (·.born))(hn:bs.Nodup)(hi:es[i]?=some e) :
  (Instr.entry (.pointer (some ⟨r,0,none⟩))).run P w=.ok (.tuple #[e.key,e.val]) w:=by
 have hgr:(getObj r).run P w=.ok (.mapIter (some b) ck ((L++[i]).map fun i=>bs.getD i 0).toArray ck) w:=by simp[getObj,Sem.run,hr]
 have hgb:=MapKept.run_getObj_map (P:=P) hb;have hlt:i < es.size:=(Array.getElem?_eq_some_iff.1 hi).1;have hborn:bs.getD i 0=e.born:=by rw[hs];simp[List.getD,hi]
 have hback:(((L++[i]).map fun i=>bs.getD i 0).toArray).back?=some e.born:=by
  have h:=hborn;simp[List.getD] at h ⊢;exact h
 have hfind:es.find? (·.born==e.born)=some e:=by
  rw[<- Array.find?_toList];have he:es.toList[i]?=some e:=by simpa using hi
  have hnd:(es.toList.map (·.born)).Nodup:=by rw[<- hs];exact hn
  clear hr hgr hgb hback hborn hs hb hn hi hlt
  generalize es.toList=l at he hnd
  induction l generalizing i with
  | nil=>simp at he
  | cons x r ih=>
   cases i with
   | zero=>simp at he;subst he;simp
   | succ i=>
    simp at he;simp only[List.map_cons,List.nodup_cons] at hnd;have hne:x.born≠e.born:=fun h=>hnd.1 (by rw[h];exact List.mem_map.2 ⟨e,List.mem_of_getElem? he,rfl⟩)
    rw[List.find?_cons_of_neg (by simpa using hne)];exact ih he hnd.2
 simp only[Instr.entry,Sem.run_bind,hgr,Result.andThen_ok,hback,hgb,bne_self_eq_false,Bool.false_eq_true,if_false,hfind,Sem.run_pure]
theorem LR.entryD{i:Nat}{ns:List Int}{cs:List DV}{kp p:PV}(hx:s.ev it=some (.ref id 0))(hl:look s.objs id=some (.iterD ks ag m bs ck (L++[i])))(hi:m[i]?=some (ns,cs))(hkp:vva ks ns=kp)(hp:elP ag cs=p) :
  Local P ctx ⟨dst,.entry it,ty,pos,after,gd⟩ s (s.putD dst (.tup [kp,p])):=
 zG (o:=⟨dst,.entry it,ty,pos,after,gd⟩) fun a w g hg=>by
  have hr:=hg.ev hx
  generalize hv:a.eval it=v at hr
  cases hr with
  | ref _ _ blk n hgi=>
   have hob:=hg.objs id _ hl
   generalize hLL:L++[i]=LL at hob
   cases hob with
   | iterN=>simp at hLL
   | iterD _ _ _ _ _ _ blk' n' b es h' hh hS hb hb2 hm=>
    rw[hgi] at h';cases h';rw[<- hLL] at hh;obtain⟨e,us,g1,g2,g3,g4,g5,g6,g7,g8⟩:=hm.ent i ns cs hi;have:=z1a (P:=P) hh hb2 hm.stamps hm.nodup g1;refine⟨.tuple [e.key,e.val].toArray,by simp only[execOp,hv,Sem.run_bind,this,Result.andThen_ok,Sem.run_pure],.tup _ [e.key,e.val] rfl (fun j p' u hp' hu=>?_)⟩;subst hkp;subst hp
    match j with
    | 0=>simp at hp' hu;subst hp';subst hu;rw[g2];exact v6a w g _ ks ns
    | 1=>simp at hp' hu;subst hp';subst hu;rw[g3];exact v5a g4 g5 g6 g8
    | _+2=>simp at hp'
theorem LR.entryO{mid i:Nat}{ns:List Int}{cs:List DV}{kp p:PV}(hx:s.ev it=some (.ref id 0))(hl:look s.objs id=some (.iterO mid bs ck (L++[i])))(hlm:look s.objs mid=some (.map ks ag m bs ck))(hi:m[i]?=some (ns,cs))(hkp:vva ks ns=kp)(hp:elP ag cs=p) :
  Local P ctx ⟨dst,.entry it,ty,pos,after,gd⟩ s (s.putD dst (.tup [kp,p])):=
 zG (o:=⟨dst,.entry it,ty,pos,after,gd⟩) fun a w g hg=>by
  have hr:=hg.ev hx
  generalize hv:a.eval it=v at hr
  cases hr with
  | ref _ _ blk n hgi=>
   have hob:=hg.objs id _ hl
   generalize hLL:L++[i]=LL at hob
   cases hob with
   | iterON=>simp at hLL
   | iterO _ _ _ _ blk' n' b n2 h' hh hgm=>
    subst hLL;rw[hgi] at h';cases h'
    cases hg.objs mid _ hlm with
    | map _ _ _ _ _ bm nm es hgm2 hb2 hm=>
     rw[hgm] at hgm2;cases hgm2;obtain⟨e,us,g1,g2,g3,g4,g5,g6,g7,g8⟩:=hm.ent i ns cs hi;have:=z1a (P:=P) hh hb2 hm.stamps hm.nodup g1;refine⟨.tuple [e.key,e.val].toArray,by simp only[execOp,hv,Sem.run_bind,this,Result.andThen_ok,Sem.run_pure],.tup _ [e.key,e.val] rfl (fun j p' u hp' hu=>?_)⟩;subst hkp;subst hp
     match j with
     | 0=>simp at hp' hu;subst hp';subst hu;rw[g2];exact v6a w g _ ks ns
     | 1=>simp at hp' hu;subst hp';subst hu;rw[g3];exact v5a g4 g5 g6 g8
     | _+2=>simp at hp'
end
end
end Go.Ep
namespace Go.Ep
open Go.RowKit
def MapNew(w:World)(S:Nat->Prop)(base:Nat)(ks:List IntKind)(ag:Bool)(m:Mp)(u:Value):Prop:=
 ∃ blk es bs ck,u=.map (some blk)/\base<=blk/\w.heap[blk]?=some (.map es ck)/\MapRd w (fun b=>(S b\/base<=b)/\b≠blk) ks ag m bs ck es
def PMap(P:Program)(f:FuncId)(ps:List PV)(ks:List IntKind)(ag:Bool)(m:Mp):Prop:=
 ∀ (w:World) (S:Nat->Prop) (vs:List Value),ps.length=vs.length->(∀ (i:Nat) (p:PV) (v:Value),ps[i]?=some p->vs[i]?=some v->Rd w g0 S p v) ->
  Calls P f vs.toArray w (fun en w'=>∃ u,en=.returned u/\Below w.heap.size w w'/\MapNew w' S w.heap.size ks ag m u)
theorem PMap.fun{P:Program}{f:FuncId}{ps:List PV}{ks:List IntKind}{ag:Bool}{m:Mp}(h:PMap P f ps ks ag m):PFun P f ps (.md ks ag m):=
 fun w S vs hl hv=>(h w S vs hl hv).mono fun _ w' ⟨u,he,hb,blk,es,bs,ck,hu,h1,h2,h3⟩=>⟨u,he,hb,by
  subst hu;exact .md ks ag m bs ck blk es (.inr h1) (Array.getElem?_eq_some_iff.1 h2).1 h2 (h3.keep ⟨Nat.le_refl _,fun _ _ _=>rfl⟩ (fun b hb _=>hb.1))⟩
def EndsMap(fn:Func)(ks:List IntKind)(ag:Bool)(m:Mp):PQ:=fun en s=>(en=.normal\/en=.ret)/\∃ t id bs ck,fn.results=#[.tmp t]/\s.at t=some (.mp id)/\look s.objs id=some (.map ks ag m bs ck)
section
variable{P:Program}{ctx:Ctx}{Q:PQ}{s:PState}
variable{dst:Option Tmp}{ty:TypeId}{pos:String}{after:Array Edge}{gd:Option (Nat×Bool)}
theorem PMap.intro{f:FuncId}{fn:Func}{c:Code}{ps:List PV}{ks:List IntKind}{ag:Bool}{m:Mp}{n:Nat}{sl:List (Nat×PV)}(hf:P.funcs[f]?=some fn)(hb:fn.body=some c)(hn:fn.ntmps=n)(hsl:args 0 ps=sl)(hpn:Nat.ble ps.length n=true)
  (body:∀ ctx:Ctx,(∀ b,ctx.K b->ctx.S b)->PWc P ctx c (EndsMap fn ks ag m) ⟨n,sl,[]⟩):PMap P f ps ks ag m:=by
 intro w S vs hlen hreal
 let ctx:Ctx:=⟨w,S,fun _=>False⟩
 have hK:∀ b,¬ ctx.K b:=fun _ h=>h
 refine calls_of_wp hf hb ?_;subst hsl;have hrel:RelG ctx g0 ⟨n,args 0 ps,[]⟩ { tmps:=vs.toArray++Array.replicate (fn.ntmps - vs.toArray.size) undef,defers:=[] } w:=by
  rw[hn];exact QN hlen hreal (by rw[<- hlen];exact Nat.le_of_ble_eq_true hpn)
 refine wp_mono (body ctx (fun b h=>(hK b h).elim) _ w ⟨g0,hrel⟩) fun en a' w' ⟨s,⟨he,t,id,bs,ck,hres,hs,hl⟩,g,hg⟩=>?_
 have hbel:Below w.heap.size w w':=⟨hg.os,hg.tape,hg.output,hg.grows,fun k hk=>hg.keep k hk (hK k)⟩
 have main:a'.defers=[]/\∃ v,(results fn a'.tmps).run P w'=.ok v w'/\(∃ u,Ending.returned v=.returned u/\Below w.heap.size w w'/\MapNew w' S w.heap.size ks ag m u):=by
  refine⟨hg.defers,_,results_tmp hres _ _ _,_,rfl,hbel,?_⟩;have hr:=hg.slots t _ hs
  generalize hv:a'.tmps.getD t undef=v at hr
  cases hr with
  | mpNil _ hgn=>
   cases hg.objs id _ hl with
   | map _ _ _ _ _ blk' n' es h' hh hm=>rw[hgn] at h';cases h'
  | mp _ blk n hgi=>
   cases hg.objs id _ hl with
   | map _ _ _ _ _ blk' n' es h' hh hm=>
    rw[hgi] at h'
    cases h'
    have hown:=hg.own id _ blk n hl hgi;exact⟨blk,es,bs,ck,rfl,hown.2.resolve_right (hK _),hh,hm.keep ⟨Nat.le_refl _,fun _ _ _=>rfl⟩ (fun b ⟨h1,h2⟩ _=>⟨h1,fun eb=>by subst eb;exact h2 id _ n hl hgi⟩)⟩
 rcases he with rfl | rfl
 ·exact main
 ·exact main
theorem PWl.callMap{ops:Array Oper}{rest:List Oper}{id:Nat}{x:Operand}{xs:List Operand}{ats:Array TypeId}{f:FuncId}{ps:List PV}{ks:List IntKind}{ag:Bool}{m:Mp}(hc:PMap P f ps ks ag m)(hx:s.ev x=some (.d (.v (.func (.func f) #[] #[]))))(he:∀ args w,(callFunc f args).run P w=.ok (.enter f args) w)
  (hps:s.evs xs=some ps) (hd:PV.isData.isDataL ps=true) (hf:s.fresh id=true) (hgd:gd=none)
  (h:∀ bs ck,bs.length=m.length->PWl P ctx ops Q rest (s.newO id (.map ks ag m bs ck) (.mp id))):PWl P ctx ops Q (⟨some id,.call ⟨.value x,xs.toArray,ats⟩,ty,pos,after,gd⟩::rest) s:=by
 rintro a w ⟨g,hg⟩;refine wpList_plain hgd fun K hK=>?_
 obtain⟨hlen,hreal⟩:=QL hps hd hg;unfold Oper.wp;rw[ZB (o:=⟨some id,.call ⟨.value x,xs.toArray,ats⟩,ty,pos,after,gd⟩) rfl (qC hg hx) he w];rw[List.map_toArray];refine(hc w (zm ctx g s.objs) _ hlen hreal).mono fun en w' ⟨u,he,hb,blk,es,bs,ck,hu,hbase,hh,hm⟩=>?_
 subst he;subst hu;have hlt:blk < w'.heap.size:=(Array.getElem?_eq_some_iff.1 hh).1;have hlen:bs.length=m.length:=by rw[hm.stamps];simp[hm.size]
 refine hK _ _ (h bs ck hlen _ _ ⟨upd g id (some (blk,0)),(hg.new hb hf (some (blk,0)) (fun b n e=>by cases e;exact⟨hbase,hlt⟩) (.map ks ag m bs ck) ?_).put (some id) (.mp id blk 0 (zN _ _ _))⟩);refine .map ks ag m bs ck blk 0 es (zN _ _ _) hh (hm.keep ⟨Nat.le_refl _,fun _ _ _=>rfl⟩ fun b ⟨h1,h2⟩ hblt=>?_);have hfr:=VA hg h1;refine⟨hfr.1,fun j o mm hj hgj=>?_⟩;rw[zC] at hj
 by_cases ej:j=id
 ·subst ej;rw[zN] at hgj;cases hgj;exact h2 rfl
 ·rw[if_neg ej] at hj;rw[yS ej] at hgj;exact hfr.2 j o mm hj hgj
def PState.frzM(s:PState)(id:Nat)(ks:List IntKind)(ag:Bool)(m:Mp)(js:List Nat):PState:={ n:=s.n,sl:=(s.sets (.md ks ag m) js).sl,objs:=YD id s.objs }
theorem Sub.frzM{id:Nat}{ks:List IntKind}{ag:Bool}{m:Mp}{bs:List Nat}{ck:Nat}(js:List Nat)(hK:∀ b,ctx.K b->ctx.S b)(hl:look s.objs id=some (.map ks ag m bs ck))(hjs:∀ j∈js,s.at j=some (.mp id)):Sub ctx s (s.frzM id ks ag m js):=by
 rintro a w ⟨g,h⟩;have hF:∀ b,zm ctx g s.objs b->zm ctx g (YD id s.objs) b:=fun b ⟨h1,h2⟩=>⟨h1,fun j o m hj hg=>by
  rw[xV] at hj
  split at hj
  ·cases hj
  ·exact h2 j o m hj hg⟩
 have hst:yc w w (zm ctx g s.objs):=⟨Nat.le_refl _,fun _ _ _=>rfl⟩
 have hlk:∀ {j:Nat} {o:Ob},look (YD id s.objs) j=some o->j≠id/\look s.objs j=some o:=fun {j o} hj=>by
  rw[xV] at hj
  split at hj
  ·cases hj
  ·rename_i hne;exact⟨hne,hj⟩
 refine⟨g,⟨h.defers,h.size,?_,?_,?_,?_,h.os,h.tape,h.output,h.grows,h.keep⟩⟩
 ·intro i p hp;have old:s.at i=some p->Rd w g (zm ctx g (YD id s.objs)) p (a.tmps.getD i undef):=fun hq=>(h.slots i p hq).keep hst (fun b hb _=>hF b hb) (fun _ _=>rfl)
  have hp':(s.sets (.md ks ag m) js).at i=some p:=y3a (by rw[QJ];exact qB (s:=s.frzM id ks ag m js) hp) (uz (s:=s.frzM id ks ag m js) hp);rcases QK _ js s i p hp' with⟨h1,rfl⟩ | h2
  ·have hr:=h.slots i _ (hjs i h1);show Rd w g (zm ctx g (YD id s.objs)) (.md ks ag m) (a.tmps.getD i undef)
   generalize hv:a.tmps.getD i undef=v at hr
   cases hr with
   | mpNil _ hgn=>
    cases h.objs id _ hl with
    | map _ _ _ _ _ blk' n' es h' hh hm=>rw[hgn] at h';cases h'
   | mp _ blk n hgi=>
    cases h.objs id _ hl with
    | map _ _ _ _ _ blk' n' es h' hh hm=>
     rw[hgi] at h'
     cases h'
     have hown:=h.own id _ blk n hl hgi;have hfree:zm ctx g (YD id s.objs) blk:=⟨hown.2.elim .inr fun hh=>.inl (hK _ hh),fun j o mm hj hgj=>by
      obtain⟨hne,hj'⟩:=hlk hj;exact hne (h.inj j id o _ blk mm n hj' hl hgj hgi)⟩
     exact .md ks ag m bs ck blk es hfree hown.1 hh (hm.keep hst (fun b hb _=>hF b hb))
  ·exact old h2
 ·intro j o hj;obtain⟨_,hj'⟩:=hlk hj;exact(h.objs j o hj').keep hst (fun b hb _=>hF b hb) (fun _ _ _=>rfl) rfl (fun _ _=>rfl)
 ·intro i j oi oj b n m hi hj;exact h.inj i j oi oj b n m (hlk hi).2 (hlk hj).2
 ·intro j o b n hj;exact h.own j o b n (hlk hj).2
inductive AllMp (s:PState) (id:Nat):List Nat->Prop
 | nil:AllMp s id []
 | cons {j:Nat} {js:List Nat} (h:s.at j=some (.mp id)) (r:AllMp s id js):AllMp s id (j::js)
theorem AllMp.get{id:Nat}{js:List Nat}(h:AllMp s id js):∀ j∈js,s.at j=some (.mp id):=by
 induction h with
 | nil=>intro j hj;cases hj
 | cons h _ ih=>
  intro j hj;rcases List.mem_cons.1 hj with rfl | hj
  ·exact h
  ·exact ih j hj
theorem PWl.frzM{ops:Array Oper}{rest:List Oper}{id:Nat}{ks:List IntKind}{ag:Bool}{m:Mp}{bs:List Nat}{ck:Nat}(js:List Nat)(hK:∀ b,ctx.K b->ctx.S b)(hjs:AllMp s id js)(hl:look s.objs id=some (.map ks ag m bs ck))(h:PWl P ctx ops Q rest (s.frzM id ks ag m js)):PWl P ctx ops Q rest s:=
 PWl.sub (Sub.frzM js hK hl hjs.get) h
end
theorem zRd1(x:Value)(h:x.oneCell'=true):∀ (w:World) (g:zf) (S:Nat->Prop),Rd w g S (elP false [zdv x]) x:=fun w _ S=>.d (zdv_rd w S x h)
end Go.Ep
namespace Go.Ep
open Go.RowKit
structure SortLaw{α:Type}(P:Program)(f g:FuncId)(k:Nat)(enc:α->List Value)(lt:α->α->Bool):Prop where
 nil:∀ w:World,Calls P f #[.slice none 0 0,.func (.func g) #[] #[]] w fun e w'=>e=.returned (.tuple #[])/\Below w.heap.size w w'
 row:∀ (w:World) (blk cap:Nat) (l:List α) (T:TypeId) (cur:List Value),w.heap[blk]?=some (.cells cur.toArray T (0,0))->l.length<=cap->cur.length=cap*k->l.length < 4611686018427387904 ->
  (∀ (i:Nat) (x:α) (j:Nat) (u:Value),l[i]?=some x->(enc x)[j]?=some u->cur[i*k+j]?=some u) ->
  Calls P f #[.slice (some ⟨blk,0,none⟩) l.length cap,.func (.func g) #[] #[]] w fun e w'=>e=.returned (.tuple #[])/\∃ (l':List α) (cur':List Value),l'.Perm l/\l'.Pairwise (fun x y=>lt y x=false) /\
   w'.heap[blk]?=some (.cells cur'.toArray T (0,0))/\cur'.length=cur.length/\(∀ (i:Nat) (x:α) (j:Nat) (u:Value),l'[i]?=some x->(enc x)[j]?=some u->cur'[i*k+j]?=some u) /\
   w'.os=w.os/\w'.tape=w.tape/\w'.output=w.output/\w.heap.size<=w'.heap.size/\∀ b,b < w.heap.size->b≠blk->w'.heap[b]?=w.heap[b]?
section
variable{P:Program}{ctx:Ctx}{Q:PQ}{s:PState}
variable{dst:Option Tmp}{ty:TypeId}{pos:String}{after:Array Edge}{gd:Option (Nat×Bool)}
theorem PWl.sortFn{α:Type}{ops:Array Oper}{rest:List Oper}{id n k:Nat}{e:TypeId}{fx x gx:Operand}{ats:Array TypeId}{f g:FuncId}{enc:α->List Value}{encD:α->List DV}{lt:α->α->Bool}{l:List α}(hS:SortLaw P f g k enc lt)
  (henc:∀ y,encD y=(enc y).map .v) (h1:∀ y,∀ u∈enc y,u.oneCell'=true) (hk:∀ y,(enc y).length=k) (hfx:s.ev fx=some (.d (.v (.func (.func f) #[] #[])))) (he:∀ args w,(callFunc f args).run P w=.ok (.enter f args) w) (hx:s.ev x=some (.row id n)) (hgx:s.ev gx=some (.d (.v (.func (.func g) #[] #[]))))
  (hl:look s.objs id=some (.row e k (l.map encD))) (hn:l.length=n) (hlen:l.length < 4611686018427387904) (hgd:gd=none)
  (h:∀ l':List α,l'.Perm l->l'.Pairwise (fun x y=>lt y x=false)->PWl P ctx ops Q rest ((s.setO id (.row e k (l'.map encD))).putD dst (.tup []))) :
  PWl P ctx ops Q (⟨dst,.call ⟨.value fx,#[x,gx],ats⟩,ty,pos,after,gd⟩::rest) s:=by
 rintro a w ⟨gh,hg⟩;refine wpList_plain hgd fun K hK=>?_
 have hxv:=hg.ev hx;have hob:=hg.objs id _ hl;unfold Oper.wp;rw[ZB (o:=⟨dst,.call ⟨.value fx,#[x,gx],ats⟩,ty,pos,after,gd⟩) rfl (qC hg hfx) he w]
 generalize hv:a.eval x=v at hxv
 have hargs:(#[x,gx]:Array Operand).map a.eval=#[v,.func (.func g) #[] #[]]:=by simp[hv,qC hg hgx]
 rw[hargs]
 generalize hL:l.map encD=L at hob
 cases hob with
 | rowNil _ _ hgn=>
  have hl0:l=[]:=by simpa using hL
  subst hl0
  cases hxv with
  | row _ _ blk cap hgi=>rw[hgn] at hgi;cases hgi
  | rowNil=>
   refine(hS.nil w).mono fun en w' ⟨hen,hb⟩=>?_
   subst hen;have hsub:Sub ctx s (s.setO id (.row e k ([].map encD))):=Sub.drop rfl (fun i p hp=>hp) (fun j o hj=>by
    simp only[PState.setO,zC] at hj
    split at hj
    ·rename_i ej;subst ej;cases hj;rw[hl]
    ·exact hj)
   obtain⟨g2,hg2⟩:=hsub a w' ⟨gh,hg.below hb⟩;exact hK _ _ (h [] (List.Perm.refl _) List.Pairwise.nil _ _ ⟨g2,hg2.put dst (.tup [] [] rfl (by simp))⟩)
 | row _ _ _ blk' cap' cur hgi hh hlc hcap hcs hkk hr'=>
  cases hxv with
  | rowNil _ hgn=>rw[hgn] at hgi;cases hgi
  | row _ _ blk cap hgi'=>
   rw[hgi] at hgi'
   cases hgi'
   subst hL;subst hn;have hcells:∀ (i:Nat) (y:α) (j:Nat) (u:Value),l[i]?=some y->(enc y)[j]?=some u->cur[i*k+j]?=some u:=by
    intro i y j u hi hu;obtain⟨v,hv1,hv2⟩:=hr' i (encD y) j (.v u) (by simp[hi]) (by rw[henc];simp[hu])
    cases hv2 with
    | v _ _=>exact hv1
   refine(hS.row w blk' cap' l e cur hh (by simpa using hlc) hcs hlen hcells).mono fun en w' ⟨hen,l',cur',hperm,hsort,hh',hcl,hc',hos,htape,hout,hsz,hother⟩=>?_
   subst hen;have hown:=hg.own id _ blk' cap' hl hgi;have hst:yc w w' (zm ctx gh s.objs):=⟨hsz,fun b ⟨_,h2⟩ hlt=>hother b hlt fun eb=>by subst eb;exact h2 id _ cap' hl hgi⟩
   have hpl:l'.length=l.length:=hperm.length_eq;have hwr:=hg.wrote hl hgi (w':=w') hos htape hout hsz hother hown.2 (ob:=.row e k (l'.map encD)) (.row e k _ blk' cap' cur' hgi hh' (by simpa[hpl] using hlc) hcap (by rw[hcl];exact hcs)
    (fun i cs hi=>by
     rw[List.getElem?_map] at hi
     cases hy:l'[i]? with
     | none=>simp[hy] at hi
     | some y=>simp[hy] at hi;subst hi;rw[henc];simp[hk])
    (fun i cs j d hi hd=>by
     rw[List.getElem?_map] at hi
     cases hy:l'[i]? with
     | none=>simp[hy] at hi
     | some y=>
      simp[hy] at hi;subst hi;rw[henc,List.getElem?_map] at hd
      cases hu:(enc y)[j]? with
      | none=>simp[hu] at hd
      | some u=>simp[hu] at hd;subst hd;exact⟨u,hc' i y j u hy hu,.v u (h1 y u (List.mem_of_getElem? hu))⟩))
   exact hK _ _ (h l' hperm hsort _ _ ⟨gh,hwr.put dst (.tup [] [] rfl (by simp))⟩)
end
end Go.Ep
namespace Go.Ep
open Go.RowKit
section
variable{P:Program}{ctx:Ctx}{Q:PQ}{s:PState}
variable{dst:Option Tmp}{ty:TypeId}{pos:String}{after:Array Edge}{gd:Option (Nat×Bool)}
theorem LR.cutRow{x hi:Operand}{id n m k:Nat}{t e:TypeId}{l:List (List DV)}{kx:IntKind}{j:Int}(js:List Nat)(hu:P.underlying t=some (.slice e))(hs:∀ w,(sizeOf e).run P w=.ok k w)(hx:s.ev x=some (.row id n))(hl:look s.objs id=some (.row e k l))(hn:l.length=n)
  (hh:s.ev hi=some (.d (.v (.int kx j)))) (hj:j=m) (hm:m<=n) (ha:(s.junks js).alone id=true) :
  Local P ctx ⟨dst,.slice t x none (some hi) none,ty,pos,after,gd⟩ s (((s.junks js).setO id (.row e k (l.take m))).putD dst (.row id m)):=
 yP (o:=⟨dst,.slice t x none (some hi) none,ty,pos,after,gd⟩) fun a w g hg=>by
  have hxv:=hg.ev hx;have hob:=hg.objs id _ hl;have hgj:=hg.junks js;have hlj:look (s.junks js).objs id=some (.row e k l):=by rw[yC];exact hl
  have hupd:upd g id (g id)=g:=by funext q;unfold upd;split <;> simp_all
  have hre:∀ (ob':ObRd w g (zm ctx g (yJ id (.row e k (l.take m)) (s.junks js).objs)) id (.row e k (l.take m))),RelG ctx g ((s.junks js).setO id (.row e k (l.take m))) a w:=fun ob'=>by
   have:=hgj.reown hlj ha (g id) (ob:=.row e k (l.take m)) rfl rfl rfl (Nat.le_refl _) (fun _ _ _=>rfl) (fun b n eb=>.inl ⟨n,eb⟩) (by rw[hupd];exact ob');rw[hupd] at this;exact this
  have hst:yc w w (zm ctx g s.objs):=⟨Nat.le_refl _,fun _ _ _=>rfl⟩
  generalize hv:a.eval x=v at hxv
  cases hob with
  | rowNil _ _ hgn=>
   cases hxv with
   | row _ _ blk cap hgi=>rw[hgn] at hgi;cases hgi
   | rowNil=>
    have hm0:m=0:=by omega
    subst hm0;refine⟨.slice none 0 0,w,?_,g,(hre (.rowNil e k hgn)).put dst (.rowNil id hgn)⟩;simp[execOp,hv,xK hg hh,Instr.sliceAt,Instr.slice,Instr.sliceBounds,run_underlying hu,hs,xF (P:=P) hj (show 0<=0 from Nat.le_refl _),Result.andThen]
  | row _ _ _ blk' cap' cur hgi hh' hlc hcap hcs hkk hr'=>
   cases hxv with
   | rowNil _ hgn=>rw[hgn] at hgi;cases hgi
   | row _ _ blk cap hgi'=>
    rw[hgi] at hgi'
    cases hgi'
    have hrow:ObRd w g (zm ctx g (yJ id (.row e k (l.take m)) (s.junks js).objs)) id (.row e k (l.take m)):=by
     rw[yC];refine .row e k _ blk' cap' cur hgi hh' (by simp;omega) hcap hcs (fun i cs hi=>?_) (fun i cs t x hi hx=>?_)
     ·rw[List.getElem?_take] at hi
      split at hi
      ·exact hkk i cs hi
      ·cases hi
     ·rw[List.getElem?_take] at hi
      split at hi
      ·obtain⟨u,h1,h2⟩:=hr' i cs t x hi hx;exact⟨u,h1,h2.keep hst (fun b hb _=>wh hl b hb)⟩
      ·cases hi
    refine⟨.slice (some ⟨blk',0,none⟩) m cap',w,?_,g,(hre hrow).put dst (.row id m blk' cap' hgi)⟩;simp[execOp,hv,xK hg hh,Instr.sliceAt,Instr.slice,Instr.sliceBounds,run_underlying hu,hs,xF (P:=P) hj (show m<=cap' by omega),Addr.add_lit,Result.andThen]
end
end Go.Ep
namespace Go.Ep
structure M(α:Type) where
 wp:(α->Prop)->Prop
 mono:∀ {P Q:α->Prop},(∀ a,P a->Q a)->wp P->wp Q
 meet:∀ {P Q:α->Prop},wp P->wp Q->∃ a,P a/\Q a
namespace M
variable{α β γ σ ρ:Type}
theorem ext'{x y:M α}(h:∀ Q,x.wp Q↔y.wp Q):x=y:=by
 obtain⟨a,_,_⟩:=x;obtain⟨b,_,_⟩:=y;have:a=b:=funext fun Q=>propext (h Q)
 subst this
 rfl
def pure(a:α):M α:=⟨fun Q=>Q a,fun h p=>h _ p,fun p q=>⟨a,p,q⟩⟩
def bind(x:M α)(f:α->M β):M β:=
 ⟨fun Q=>x.wp fun a=>(f a).wp Q,fun h p=>x.mono (fun a=>(f a).mono h) p,fun p q=>let ⟨a,h1,h2⟩:=x.meet p q;(f a).meet h1 h2⟩
def xg(p:Prop)(x:M α):M α:=⟨fun Q=>p/\x.wp Q,fun h ⟨h1,h2⟩=>⟨h1,x.mono h h2⟩,fun⟨_,h1⟩ ⟨_,h2⟩=>x.meet h1 h2⟩
def det(x:M α):M α:=⟨fun Q=>∃ a,x.wp (·=a)/\Q a,fun h ⟨a,h1,h2⟩=>⟨a,h1,h a h2⟩,fun⟨a,h1,h2⟩ ⟨b,h3,h4⟩=>by
 obtain⟨c,h5,h6⟩:=x.meet h1 h3;exact⟨a,h2,by rw[<- h5,h6];exact h4⟩⟩
def any(p:α->Prop):M α:=⟨fun Q=>(∃ a,p a)/\∀ a,p a->Q a,fun h ⟨h0,h1⟩=>⟨h0,fun a ha=>h a (h1 a ha)⟩,fun⟨⟨a,ha⟩,h1⟩ ⟨_,h2⟩=>⟨a,h1 a ha,h2 a ha⟩⟩
inductive Step (σ ρ:Type) where
 | next (s:σ)
 | done (r:ρ)
inductive Ex (τ α:Type) where
 | brk (t:τ)
 | ret (a:α)
def exk(k:β->M α):Ex β α->M α
 | .brk t=>k t
 | .ret a=>pure a
def sum(y:α⊕β)(f:α->M γ)(g:β->M γ):M γ:=match y with | .inl a=>f a | .inr b=>g b
def Step.post(X:σ->Prop)(Q:ρ->Prop):Step σ ρ->Prop
 | .next s=>X s
 | .done r=>Q r
def qI(body:σ->M (Step σ ρ))(Q:ρ->Prop)(s:σ):Prop:=∀ X:σ->Prop,(∀ s,(body s).wp (Step.post X Q)->X s)->X s
theorem YZ{body:σ->M (Step σ ρ)}{Q:ρ->Prop}{s:σ}(h:(body s).wp (Step.post (qI body Q) Q)):qI body Q s:=fun X hX=>
 hX s ((body s).mono (fun o ho=>by cases o with | next s'=>exact ho X hX | done r=>exact ho) h)
theorem z2a{body:σ->M (Step σ ρ)}{Q:ρ->Prop}{s:σ}(h:qI body Q s):(body s).wp (Step.post (qI body Q) Q):=
 h (fun s=>(body s).wp (Step.post (qI body Q) Q)) fun s hs=>(body s).mono (fun o ho=>by cases o with | next s'=>exact YZ ho | done r=>exact ho) hs
def loop(body:σ->M (Step σ ρ))(s:σ):M ρ:=
 ⟨fun Q=>qI body Q s,fun h p X hX=>p X fun s hs=>hX s ((body s).mono (fun o ho=>by cases o with | next s'=>exact ho | done r=>exact h r ho) hs),fun {P Q} hp=>by
  refine hp (fun s=>qI body Q s->∃ a,P a/\Q a) fun s hs hq=>?_
  obtain⟨o,h1,h2⟩:=(body s).meet hs (z2a hq)
  cases o with
  | next s'=>exact h1 h2
  | done r=>exact⟨r,h1,h2⟩⟩
theorem zA(a:α)(f:α->M β):(pure a).bind f=f a:=rfl
theorem qa(x:M α)(f:α->M β)(g:β->M γ):(x.bind f).bind g=x.bind fun a=>(f a).bind g:=rfl
theorem zH{p:Prop}(h:p)(x:M α):xg p x=x:=ext' fun _=>⟨fun h=>h.2,fun hx=>⟨h,hx⟩⟩
theorem Ya{x:M α}{a:α}(h:x.wp (·=a)):x=pure a:=ext' fun Q=>
 ⟨fun hq=>let ⟨b,h1,h2⟩:=x.meet h hq;by subst h1;exact h2,fun hq=>x.mono (fun b hb=>by subst hb;exact hq) h⟩
theorem zB(a:α):det (pure a)=pure a:=Ya ⟨a,rfl,rfl⟩
theorem ZC(k:β->M α)(t:β):exk k (.brk t)=k t:=rfl
theorem jo(k:β->M α)(a:α):exk k (.ret a)=pure a:=rfl
theorem jp(body:σ->M (Step σ ρ))(s:σ):loop body s=(body s).bind fun o=>match o with | .next s'=>loop body s' | .done r=>pure r:=ext' fun Q=>
 ⟨fun h=>(body s).mono (fun o ho=>by cases o with | next s'=>exact ho | done r=>exact ho) (z2a h),fun h=>YZ ((body s).mono (fun o ho=>by cases o with | next s'=>exact ho | done r=>exact ho) h)⟩
theorem zq{body:σ->M (Step σ ρ)}{s s':σ}(h:body s=pure (.next s')):loop body s=loop body s':=by rw[jp,h];rfl
theorem ze{body:σ->M (Step σ ρ)}{s:σ}{r:ρ}(h:body s=pure (.done r)):loop body s=pure r:=by rw[jp,h];rfl
theorem zx(a b:Bool):(cond a (pure b) (pure false):M Bool)=pure (a&&b):=by cases a <;> rfl
theorem z3a(a b:Bool):(cond a (pure true) (pure b):M Bool)=pure (a||b):=by cases a <;> rfl
theorem wHa{body:σ->M (Step σ ρ)}{Q:ρ->Prop}(I:σ->Prop)(mu:σ->Nat)(h:∀ s,I s->(body s).wp (Step.post (fun s'=>I s'/\mu s' < mu s) Q))(s0:σ)(h0:I s0):(loop body s0).wp Q:=by
 have key:∀ n s,mu s=n->I s->qI body Q s:=by
  intro n
  induction n using Nat.strongRecOn with
  | _ n ih=>
   intro s hn hI;refine YZ ((body s).mono (fun o ho=>?_) (h s hI))
   cases o with
   | next s'=>exact ih (mu s') (hn▸ho.2) s' rfl ho.1
   | done r=>exact ho
 exact key _ s0 rfl h0
end M
namespace M
variable{α β:Type}
def idx(l:List α)(i:Int):M α:=⟨fun Q=>∃ y,(0<=i/\l[i.toNat]?=some y)/\Q y,fun h ⟨y,h1,h2⟩=>⟨y,h1,h y h2⟩,fun⟨y,h1,h2⟩ ⟨z,h3,h4⟩=>⟨y,h2,by have:=h1.2.symm.trans h3.2;cases this;exact h4⟩⟩
theorem VF{l:List α}{i:Int}{y:α}(h0:0<=i)(h:l[i.toNat]?=some y):idx l i=pure y:=Ya ⟨y,⟨h0,h⟩,rfl⟩
theorem zJ{l:List α}{i:Nat}{y:α}(h:l[i]?=some y):idx l (i:Int)=pure y:=VF (by omega) (by simpa using h)
def cut(l:List α)(lo hi:Int):M (List α):=xg (0<=lo/\lo<=hi/\hi<=l.length) (pure ((l.take hi.toNat).drop lo.toNat))
def app(bs:Nat)(l r:List α):M (List α):=xg ((l.length+r.length)*bs<=140737488355328) (pure (l++r))
def upd(l:List α)(i:Int)(y:α):M (List α):=xg (0<=i/\i < l.length) (pure (l.set i.toNat y))
end M
def yI(s:ByteArray):List Int:=s.data.toList.map fun b=>(b.toNat:Int)
def z4a(l:List Int):ByteArray:=l.foldl (fun r n=>r.push (UInt8.ofNat n.toNat)) ByteArray.empty
def bAnd(k:IntKind)(x y:Int):Int:=k.wrap (BitVec.ofInt k.bits x &&& BitVec.ofInt k.bits y).toNat
def bOr(k:IntKind)(x y:Int):Int:=k.wrap (BitVec.ofInt k.bits x ||| BitVec.ofInt k.bits y).toNat
namespace AL
variable{κ ν:Type}[DecidableEq κ]
def get : List (κ×ν)->κ->Option ν
 | [],_=>none
 | (k,v)::r,x=>if k=x then some v else get r x
def set : List (κ×ν)->κ->ν->List (κ×ν)
 | [],x,u=>[(x,u)]
 | (k,v)::r,x,u=>if k=x then (k,u)::r else (k,v)::set r x u
def getZ(m:List (κ×ν))(x:κ)(z:ν):ν:=(get m x).getD z
def has(m:List (κ×ν))(x:κ):Bool:=(get m x).isSome
def grow{α:Type}(m:List (κ×List α))(l:List (κ×List α)):List (κ×List α):=l.foldl (fun m x=>set m x.1 (getZ m x.1 []++x.2)) m
def growOK{α:Type}(bs n:Nat)(l:List (κ×List α)):Prop:=n < 9223372036854775807/\(l.map fun x=>x.2.length).sum*bs<=140737488355328
end AL
namespace M
def nxt(n:Nat)(L:List Nat):M (Option Nat):=any fun o=>match o with | none=>∀ i,i < n->i∈L | some i=>i < n/\i∉L
def isNil{α:Type}(l:List α):M Bool:=any fun b=>b=true->l=[]
def srt{α:Type}(lt:α->α->Bool)(l:List α):M (List α):=any fun l'=>l'.Perm l/\l'.Pairwise fun x y=>lt y x=false
end M
end Go.Ep
namespace Go.Ep
open Go.RowKit
section
variable{α β:Type}{Q:β->Prop}
theorem yE{l:List α}{i:Int}{k:α->M β}(h:((M.idx l i).bind k).wp Q):∃ y,(0<=i/\l[i.toNat]?=some y)/\(k y).wp Q:=h
theorem yM{p:Prop}{x:M β}(h:(M.xg p x).wp Q):p/\x.wp Q:=h
theorem zD{x:M α}{k:α->M β}(h:(x.det.bind k).wp Q):∃ r,x.wp (·=r)/\(k r).wp Q:=h
theorem iNxt{n:Nat}{L:List Nat}{k:Option Nat->M β}(h:((M.nxt n L).bind k).wp Q):((∀ i,i < n->i∈L)->(k none).wp Q)/\∀ i,i < n->i∉L->(k (some i)).wp Q:=⟨fun h0=>h.2 none h0,fun i h1 h2=>h.2 (some i) ⟨h1,h2⟩⟩
theorem iSrt{lt:α->α->Bool}{l:List α}{k:List α->M β}(h:((M.srt lt l).bind k).wp Q):∀ l':List α,l'.Perm l->l'.Pairwise (fun x y=>lt y x=false)->(k l').wp Q:=fun l' h1 h2=>h.2 l' ⟨h1,h2⟩
theorem iNil{l:List α}{k:Bool->M β}(h:((M.isNil l).bind k).wp Q):∀ b,(b=true->l=[])->(k b).wp Q:=fun b hb=>h.2 b hb
theorem zF{x:M α}{k:α->M β}(h:(x.bind k).wp Q):x.wp fun a=>(k a).wp Q:=h
theorem iSumL{γ:Type}{a:α}{f:α->M β}{g:γ->M β}(h:(M.sum (.inl a) f g).wp Q):(f a).wp Q:=h
theorem iSumR{γ:Type}{b:γ}{f:α->M β}{g:γ->M β}(h:(M.sum (.inr b) f g).wp Q):(g b).wp Q:=h
theorem iT{b:Bool}{x y:M β}(hb:b=true)(h:(cond b x y).wp Q):x.wp Q:=by subst hb;exact h
theorem iF{b:Bool}{x y:M β}(hb:b=false)(h:(cond b x y).wp Q):y.wp Q:=by subst hb;exact h
end
def xX{κ ν:Type}(eK:κ->List Int)(eV:ν->List DV)(m:List (κ×ν)):Mp:=m.map fun x=>(eK x.1,eV x.2)
section
variable{κ ν:Type}[DecidableEq κ]{eK:κ->List Int}{eV:ν->List DV}(inj:∀ a b,eK a=eK b->a=b)
include inj
theorem jq(m:List (κ×ν))(k:κ):QO (xX eK eV m) (eK k)=(AL.get m k).map eV:=by
 induction m with
 | nil=>rfl
 | cons x r ih=>
  obtain⟨a,v⟩:=x;show(if eK a=eK k then _ else _)=_
  by_cases h:a=k
  ·subst h;simp[AL.get]
  ·rw[if_neg (fun e=>h (inj _ _ e))];simp only[AL.get,h,if_false];exact ih
theorem v8a(m:List (κ×ν))(k:κ)(v:ν):vGa (xX eK eV m) (eK k) (eV v)=xX eK eV (AL.set m k v):=by
 induction m with
 | nil=>rfl
 | cons x r ih=>
  obtain⟨a,u⟩:=x;show(if eK a=eK k then _ else _)=_
  by_cases h:a=k
  ·subst h;simp[AL.set,xX]
  ·rw[if_neg (fun e=>h (inj _ _ e))];simp only[AL.set,h,if_false];show _::vGa (xX eK eV r) _ _=_::xX eK eV (AL.set r k v);rw[ih]
end
theorem QR{κ ν:Type}{eK:κ->List Int}{eV:ν->List DV}(m:List (κ×ν)):(xX eK eV m).length=m.length:=by simp[xX]
section
variable{P:Program}{ctx:Ctx}{Q:PQ}{s:PState}
variable{dst:Option Tmp}{ty:TypeId}{pos:String}{after:Array Edge}{gd:Option (Nat×Bool)}
def LoopAt(P:Program)(c:Code)(Q:Exit->Act->World->Prop)(a:Act)(w:World):Prop:=∀ (b:Frame) (k:List Item) (cs:List Frame),
 ∃ e a' w',Q e a' w'/\Arrives P (lone (b.at a (.code c::.inLoop c::k)) cs w) b k cs e a' w'
theorem LoopAt.step{c:Code}{Q:Exit->Act->World->Prop}{a:Act}{w:World}(h:c.wp P (Exit.then (LoopAt P c Q) Q) a w):LoopAt P c Q a w:=by
 intro b k cs;obtain⟨e,a₁,w₁,hq,harr⟩:=h b (.inLoop c::k) cs
 cases e with
 | normal=>
  obtain⟨e₂,a₂,w₂,hq₂,harr₂⟩:=hq b k cs;exact⟨e₂,a₂,w₂,hq₂,.of_steps (Steps.trans harr (.one step_inLoop)) harr₂⟩
 | exit id=>exact⟨_,a₁,w₁,hq,.pass (x:=.inLoop c) rfl (fun _ _=>.inl (by simp)) harr⟩
 | goto l=>exact⟨_,a₁,w₁,hq,.pass (x:=.inLoop c) rfl (fun _ _=>.inl (by simp)) harr⟩
 | ret=>exact⟨_,a₁,w₁,hq,.pass (x:=.inLoop c) rfl (fun _ _=>.inl (by simp)) harr⟩
 | panic ch=>exact⟨_,a₁,w₁,hq,.pass (x:=.inLoop c) rfl (fun _ _=>.inl (by simp)) harr⟩
 | outgrown=>exact⟨_,a₁,w₁,hq,.pass (x:=.inLoop c) rfl (fun _ _=>.inl (by simp)) harr⟩
theorem LoopAt.loop{c:Code}{Q:Exit->Act->World->Prop}{a:Act}{w:World}(h:LoopAt P c Q a w):(Code.loop c).wp P Q a w:=fun b k cs=>
 let ⟨e,a',w',hq,harr⟩:=h b k cs
 ⟨e,a',w',hq,.of_steps (.one step_loop) harr⟩
theorem PWc.loopM{σ ρ G:Type}{c:Code}{body:σ->M (M.Step σ ρ)}{s0:σ}{R:ρ->Prop}(J:σ->G->PState)(g0:G)(h:(M.loop body s0).wp R)(hs:Sub ctx s (J s0 g0))
  (round:∀ (N:σ->Prop) (x:σ) (g:G),(body x).wp (M.Step.post N R)->PWc P ctx c (Then (fun t=>∃ y g',N y/\Sub ctx t (J y g')) Q) (J x g)):PWc P ctx (.loop c) Q s:=by
 intro a w hr;refine LoopAt.loop ?_;have key:∀ g a w,Rel ctx (J s0 g) a w->LoopAt P c (lift ctx Q) a w:=by
  refine h (fun x=>∀ g a w,Rel ctx (J x g) a w->LoopAt P c (lift ctx Q) a w) fun x hx g a w hr=>?_
  refine LoopAt.step (wp_mono (round _ x g hx a w hr) fun e a' w' ⟨t,h1,h2⟩=>?_)
  cases e with
  | normal=>
   obtain⟨y,g',hy,hsub⟩:=h1;exact hy g' a' w' (hsub a' w' h2)
  | _=>exact⟨t,h1,h2⟩
 exact key g0 a w (hs a w hr)
def Jn(ctx:Ctx)(Q:PQ){τ G:Type}(J:τ->G->PState)(N:τ->Prop):PQ
 | .normal,t=>∃ v g,N v/\Sub ctx t (J v g)
 | e,t=>Q e t
section
variable{α:Type}{enc:α->List DV}{L R:List α}
theorem LR.idxT{x ix:Operand}{ki:IntKind}{i:Int}{k:Nat}{y:α}{t e:TypeId}(hu:P.underlying t=some (.slice e))(hs:∀ w,(sizeOf e).run P w=.ok k w)
  (hx:s.ev x=some (.d (.sl (L.map enc)))) (hix:s.ev ix=some (.d (.v (.int ki i)))) (hy:0<=i/\L[i.toNat]?=some y) (hk:∀ x,(enc x).length=k) :
  Local P ctx ⟨dst,.indexAddr t x ix,ty,pos,after,gd⟩ s (s.putD dst (.ep (enc y) 0)):=
 LR.idxSl (n:=i.toNat) hu hs hx hix (by omega) (by simp[hy.2]) (hk _)
theorem LR.idxRowT{x ix:Operand}{id m:Nat}{ki:IntKind}{i:Int}{k:Nat}{y:α}{t e:TypeId}(hu:P.underlying t=some (.slice e))(hs:∀ w,(sizeOf e).run P w=.ok k w)
  (hx:s.ev x=some (.row id m)) (hm:m=L.length) (hix:s.ev ix=some (.d (.v (.int ki i)))) (hy:0<=i/\L[i.toNat]?=some y) :
  Local P ctx ⟨dst,.indexAddr t x ix,ty,pos,after,gd⟩ s (s.putD dst (.rp id i.toNat 0 k)):=
 LR.idxRow hu hs hx hix (by omega) (by rw[hm];exact(List.getElem?_eq_some_iff.1 hy.2).1)
theorem LR.loadRpT{x:Operand}{id n k:Nat}{T T0:TypeId}{y:α}(ha:∀ w,(isAgg T).run P w=.ok true w)(hs:∀ w,(sizeOf T).run P w=.ok k w)(hx:s.ev x=some (.rp id n 0 k))(hl:look s.objs id=some (.row T0 k (L.map enc)))(hy:L[n]?=some y) :
  Local P ctx ⟨dst,.load T x,ty,pos,after,gd⟩ s (s.putD dst (.agg ((enc y).map .d))):=LR.loadRpAgg ha hs hx hl (by simp[hy])
theorem LR.loadRpF{x:Operand}{id n o k:Nat}{T T0:TypeId}{y:α}{z:DV}(ha:∀ w,(isAgg T).run P w=.ok false w)(hx:s.ev x=some (.rp id n o k))(hl:look s.objs id=some (.row T0 k (L.map enc)))(hy:L[n]?=some y)(hz:(enc y)[o]?=some z) :
  Local P ctx ⟨dst,.load T x,ty,pos,after,gd⟩ s (s.putD dst (.d z)):=LR.loadRp ha hx hl (by simp[hy]) hz
theorem LR.storeRpT{x y:Operand}{id n o k m:Nat}{T T0:TypeId}{a b:α}{ys:List DV}{p:PV}(hs:∀ w,(sizeOf T).run P w=.ok m w)(hx:s.ev x=some (.rp id n o k))(hy:s.ev y=some p)(hp:p.dparts=some ys)(hm:ys.length=m)
  (hl:look s.objs id=some (.row T0 k (L.map enc))) (hi:L[n]?=some a) (hlen:Nat.ble (o+m) k=true) (hns:(enc a).take o++ys++(enc a).drop (o+m)=enc b) :
  Local P ctx ⟨none,.store T x y,ty,pos,after,gd⟩ s (s.setO id (.row T0 k ((L.set n b).map enc))):=by
 have:=LR.storeRpB (P:=P) (ctx:=ctx) (ty:=ty) (pos:=pos) (after:=after) (gd:=gd) hs hx hy hp hm hl (by simp[hi]) hlen hns
 rwa [<- List.map_set] at this
theorem LR.cutLT{x lo:Operand}{k:Nat}{t e:TypeId}{k1:IntKind}{i:Int}(hu:P.underlying t=some (.slice e))(hs:∀ w,(sizeOf e).run P w=.ok k w)(hx:s.ev x=some (.d (.sl (L.map enc))))(hk:∀ x,(enc x).length=k)
  (h1:s.ev lo=some (.d (.v (.int k1 i)))) (hb:0<=i/\i<=(L.length:Int)/\(L.length:Int)<=L.length) :
  Local P ctx ⟨dst,.slice t x (some lo) none none,ty,pos,after,gd⟩ s (s.putD dst (.d (.sl (((L.take (L.length:Int).toNat).drop i.toNat).map enc)))):=by
 have:=LR.sliceL (P:=P) (ctx:=ctx) (dst:=dst) (ty:=ty) (pos:=pos) (after:=after) (gd:=gd) (m:=i.toNat) hu hs hx (UD hk L) h1 (by omega) (by simp;omega);rw[<- List.map_drop] at this;simpa using this
theorem LR.cutHT{x hi:Operand}{k:Nat}{t e:TypeId}{k2:IntKind}{j:Int}(hu:P.underlying t=some (.slice e))(hs:∀ w,(sizeOf e).run P w=.ok k w)(hx:s.ev x=some (.d (.sl (L.map enc))))(hk:∀ x,(enc x).length=k)
  (h2:s.ev hi=some (.d (.v (.int k2 j)))) (hb:0<=(0:Int)/\0<=j/\j<=L.length) :
  Local P ctx ⟨dst,.slice t x none (some hi) none,ty,pos,after,gd⟩ s (s.putD dst (.d (.sl (((L.take j.toNat).drop (0:Int).toNat).map enc)))):=by
 have:=LR.sliceH (P:=P) (ctx:=ctx) (dst:=dst) (ty:=ty) (pos:=pos) (after:=after) (gd:=gd) (n:=j.toNat) hu hs hx (UD hk L) h2 (by omega) (by simp;omega);rw[<- List.map_take] at this;simpa using this
theorem LR.appT{x y:Operand}{id m k bs:Nat}{t t' e e':TypeId}(js:List Nat)(hE:ElemOK P t e k bs)(hu':P.underlying t'=some (.slice e'))(hx:s.ev x=some (.row id m))(hm:m=L.length)(hl:look s.objs id=some (.row e k (L.map enc)))
  (hy:Src ctx s y (R.map enc) k) (hk:∀ x,(enc x).length=k) (hb:(L.length+R.length)*bs<=140737488355328) (h1:Nat.ble 1 bs=true) (ha:(s.junks js).alone id=true) :
  Local P ctx ⟨dst,.call ⟨.builtin .append,#[x,y],#[t,t']⟩,ty,pos,after,gd⟩ s (((s.junks js).setO id (.row e k ((L++R).map enc))).putD dst (.row id (L++R).length)):=by
 subst hm;have h2:=Nat.le_of_ble_eq_true h1;have h3:(L.length+R.length)*1<=(L.length+R.length)*bs:=Nat.mul_le_mul_left _ h2;have:=LR.append (P:=P) (ctx:=ctx) (dst:=dst) (ty:=ty) (pos:=pos) (after:=after) (gd:=gd) js hE hu' hx hl (by simp) hy (UD hk R) (by simpa using hb) (by simp;omega) ha;simpa using this
theorem LR.appNilT{id k bs:Nat}{y:Operand}{t t' e e':TypeId}(hE:ElemOK P t e k bs)(hu':P.underlying t'=some (.slice e'))(hf:s.fresh id=true)
  (hy:Src ctx { s with objs:=yJ id (.row e k []) s.objs } y (R.map enc) k) (hk:∀ x,(enc x).length=k) (hb:R.length*bs<=140737488355328) (h1:Nat.ble 1 bs=true) (ha:({ s with objs:=yJ id (.row e k []) s.objs }:PState).alone id=true) :
  Local P ctx ⟨some id,.call ⟨.builtin .append,#[.const (.slice none 0 0),y],#[t,t']⟩,ty,pos,after,gd⟩ s ((({ s with objs:=yJ id (.row e k []) s.objs }:PState).setO id (.row e k (R.map enc))).putD (some id) (.row id R.length)):=by
 have h2:=Nat.le_of_ble_eq_true h1;have h3:R.length*1<=R.length*bs:=Nat.mul_le_mul_left _ h2;have:=LR.appendNil (P:=P) (ctx:=ctx) (ty:=ty) (pos:=pos) (after:=after) (gd:=gd) hE hu' hf hy (UD hk R) (by simpa using hb) (by simp;omega) ha;simpa using this
theorem Src.slT{y:Operand}{k:Nat}(hy:s.ev y=some (.d (.sl (R.map enc))))(hk:∀ x,(enc x).length=k):Src ctx s y (R.map enc) k:=Src.sl hy (UD hk R)
theorem Src.rowT{y:Operand}{id m k:Nat}{T:TypeId}(hy:s.ev y=some (.row id m))(hl:look s.objs id=some (.row T k (R.map enc)))(hm:m=R.length):Src ctx s y (R.map enc) k:=Src.row hy hl (by simpa using hm.symm)
theorem LR.rowT{id:Nat}{x:Operand}{xs:List Operand}{ats:Array TypeId}{f:FuncId}{ps:List PV}{e:TypeId}{k:Nat}(hc:PRow P f ps e k (L.map enc))(hx:s.ev x=some (.d (.v (.func (.func f) #[] #[]))))(he:∀ args w,(callFunc f args).run P w=.ok (.enter f args) w)
  (hps:s.evs xs=some ps) (hd:PV.isData.isDataL ps=true) (hf:s.fresh id=true) :
  Local P ctx ⟨some id,.call ⟨.value x,xs.toArray,ats⟩,ty,pos,after,gd⟩ s (s.newO id (.row e k (L.map enc)) (.row id L.length)):=by
 have:=LR.callRow (P:=P) (ctx:=ctx) (ty:=ty) (pos:=pos) (after:=after) (gd:=gd) (id:=id) (ats:=ats) hc hx he hps hd hf
 rwa [List.length_map] at this
end
section
variable{κ ν:Type}[DecidableEq κ]{eK:κ->List Int}{eV:ν->List DV}{m:List (κ×ν)}{q:κ}{zv:ν}(inj:∀ a b,eK a=eK b->a=b)
variable{x kx:Operand}{t kt et:TypeId}{ks:List IntKind}{ag:Bool}{z:Value}{p kp:PV}
theorem wIa{o:Option ν}:(o.map eV).getD (eV zv)=eV (o.getD zv):=by cases o <;> rfl
section
variable(hu:P.underlying t=some (.map kt et))(K:KeyOK P kt ks)(hz:∀ w,(zeroValue et).run P w=.ok z w)(hzr:∀ (w:World) (g:zf) (S:Nat->Prop),Rd w g S (elP ag (eV zv)) z)(hk:s.ev kx=some kp)(hkp:kp=vva ks (eK q))(hn:(eK q).length=ks.length)(hp:elP ag (eV (AL.getZ m q zv))=p)
include inj hu K hz hzr hk hkp hn hp
theorem LR.getO{id:Nat}{bs:List Nat}{ck:Nat}(hx:s.ev x=some (.mp id))(hl:look s.objs id=some (.map ks ag (xX eK eV m) bs ck)):Local P ctx ⟨dst,.lookup t x kx false,ty,pos,after,gd⟩ s (s.putD dst p):=
 LR.lookupO hu K hz hzr (by rw[hk,hkp]) hn (by rw[jq inj,wIa];exact hp) hx hl
theorem LR.getD(hx:s.ev x=some (.md ks ag (xX eK eV m))):Local P ctx ⟨dst,.lookup t x kx false,ty,pos,after,gd⟩ s (s.putD dst p):=
 LR.lookupD hu K hz hzr (by rw[hk,hkp]) hn (by rw[jq inj,wIa];exact hp) hx
end
section
variable{id:Nat}{bs:List Nat}{ck:Nat}{vx:Operand}{v:ν}(hu:P.underlying t=some (.map kt et))(K:KeyOK P kt ks)(hx:s.ev x=some (.mp id))(hl:look s.objs id=some (.map ks ag (xX eK eV m) bs ck))
  (hk:s.ev kx=some kp) (hkp:kp=vva ks (eK q)) (hn:(eK q).length=ks.length)
include inj hu K hx hl hk hkp hn
theorem LR.setM{pv:PV}(hv:s.ev vx=some pv)(hq:elP ag (eV v)=pv)(h1:ag=false->(eV v).length=1) :
  Local P ctx ⟨none,.mapUpdate t x kx vx,ty,pos,after,gd⟩ s (s.setO id (.map ks ag (xX eK eV (AL.set m q v)) (bset (xX eK eV m) (eK q) bs ck) (v4a (xX eK eV m) (eK q) ck))):=by
 have:=LR.mapUpdate (P:=P) (ctx:=ctx) (ty:=ty) (pos:=pos) (after:=after) (gd:=gd) hu K hx hl (by rw[hk,hkp]) hn hv hq h1 rfl rfl
 rwa [v8a inj] at this
theorem LR.setIn{pv:PV}(hv:s.ev vx=some pv)(hq:elP ag (eV v)=pv)(h1:ag=false->(eV v).length=1)(hin:AL.has m q=true) :
  Local P ctx ⟨none,.mapUpdate t x kx vx,ty,pos,after,gd⟩ s (s.setO id (.map ks ag (xX eK eV (AL.set m q v)) bs ck)):=by
 have:=LR.setM (P:=P) (ctx:=ctx) (ty:=ty) (pos:=pos) (after:=after) (gd:=gd) inj hu K hx hl hk hkp hn hv hq h1;obtain⟨u,hu'⟩:=Option.isSome_iff_exists.1 hin;have e:QO (xX eK eV m) (eK q)=some (eV u):=by rw[jq inj,hu'];rfl
 simpa[bset,v4a,e] using this
end
end
end
end Go.Ep
namespace Go.Ep
def PV.nilD : PV->PV
 | .d (.v (.slice none 0 0))=>.d (.sl [])
 | p=>p
theorem Rd.nilD{w:World}{g:zf}{S:Nat->Prop}{p:PV}{u:Value}(h:Rd w g S p u):Rd w g S p.nilD u:=by
 unfold PV.nilD
 split
 ·have:=h.of_v;subst this;exact .d (.nil none 0 (Nat.zero_le _) (fun _=>rfl))
 ·exact h
section
variable{P:Program}{ctx:Ctx}{Q:PQ}{s:PState}
variable{dst:Option Tmp}{ty:TypeId}{pos:String}{after:Array Edge}{gd:Option (Nat×Bool)}
theorem PV.isData_nilD{p:PV}(h:p.nilD.isData=true):p.isData=true:=by
 unfold PV.nilD at h
 split at h
 ·rfl
 ·exact h
theorem uA : ∀ {ps:List PV},PV.isData.isDataL (ps.map PV.nilD)=true->PV.isData.isDataL ps=true
 | [],_=>rfl
 | p::r,h=>by
  simp only[List.map_cons,PV.isData.isDataL,Bool.and_eq_true] at h ⊢;exact⟨PV.isData_nilD h.1,uA h.2⟩
theorem PFun.nilD{f:FuncId}{ps:List PV}{r:PV}(h:PFun P f (ps.map PV.nilD) r):PFun P f ps r:=fun w S vs hl hv=>
 h w S vs (by simpa using hl) fun i p v hp hu=>by
  rw[List.getElem?_map] at hp
  cases hq:ps[i]? with
  | none=>simp[hq] at hp
  | some q=>simp[hq] at hp;subst hp;exact(hv i q v hq hu).nilD
theorem PRow.nilD{f:FuncId}{ps:List PV}{e:TypeId}{k:Nat}{l:List (List DV)}(h:PRow P f (ps.map PV.nilD) e k l):PRow P f ps e k l:=fun w S vs hl hv=>
 h w S vs (by simpa using hl) fun i p v hp hu=>by
  rw[List.getElem?_map] at hp
  cases hq:ps[i]? with
  | none=>simp[hq] at hp
  | some q=>simp[hq] at hp;subst hp;exact(hv i q v hq hu).nilD
theorem PMap.nilD{f:FuncId}{ps:List PV}{ks:List IntKind}{ag:Bool}{m:Mp}(h:PMap P f (ps.map PV.nilD) ks ag m):PMap P f ps ks ag m:=fun w S vs hl hv=>
 h w S vs (by simpa using hl) fun i p v hp hu=>by
  rw[List.getElem?_map] at hp
  cases hq:ps[i]? with
  | none=>simp[hq] at hp
  | some q=>simp[hq] at hp;subst hp;exact(hv i q v hq hu).nilD
theorem LR.callN{x:Operand}{xs:List Operand}{ats:Array TypeId}{f:FuncId}{ps qs:List PV}{r:PV}(hc:PFun P f ps r)(hx:s.ev x=some (.d (.v (.func (.func f) #[] #[]))))(he:∀ args w,(callFunc f args).run P w=.ok (.enter f args) w)
  (hps:s.evs xs=some qs) (hq:qs.map PV.nilD=ps) (hd:PV.isData.isDataL ps=true) (hr:r.isData=true) :
  Local P ctx ⟨dst,.call ⟨.value x,xs.toArray,ats⟩,ty,pos,after,gd⟩ s (s.putD dst r):=by
 subst hq;exact LR.call hc.nilD hx he hps (uA hd) hr
theorem LR.rowN{α:Type}{enc:α->List DV}{L:List α}{id:Nat}{x:Operand}{xs:List Operand}{ats:Array TypeId}{f:FuncId}{ps qs:List PV}{e:TypeId}{k:Nat}(hc:PRow P f ps e k (L.map enc))(hx:s.ev x=some (.d (.v (.func (.func f) #[] #[]))))(he:∀ args w,(callFunc f args).run P w=.ok (.enter f args) w)
  (hps:s.evs xs=some qs) (hq:qs.map PV.nilD=ps) (hd:PV.isData.isDataL ps=true) (hf:s.fresh id=true) :
  Local P ctx ⟨some id,.call ⟨.value x,xs.toArray,ats⟩,ty,pos,after,gd⟩ s (s.newO id (.row e k (L.map enc)) (.row id L.length)):=by
 subst hq;exact LR.rowT hc.nilD hx he hps (uA hd) hf
theorem PWl.mapN{ops:Array Oper}{rest:List Oper}{id:Nat}{x:Operand}{xs:List Operand}{ats:Array TypeId}{f:FuncId}{ps qs:List PV}{ks:List IntKind}{ag:Bool}{m:Mp}(hc:PMap P f ps ks ag m)(hx:s.ev x=some (.d (.v (.func (.func f) #[] #[]))))(he:∀ args w,(callFunc f args).run P w=.ok (.enter f args) w)
  (hps:s.evs xs=some qs) (hq:qs.map PV.nilD=ps) (hd:PV.isData.isDataL ps=true) (hf:s.fresh id=true) (hgd:gd=none)
  (h:∀ bs ck,bs.length=m.length->PWl P ctx ops Q rest (s.newO id (.map ks ag m bs ck) (.mp id))):PWl P ctx ops Q (⟨some id,.call ⟨.value x,xs.toArray,ats⟩,ty,pos,after,gd⟩::rest) s:=by
 subst hq;exact PWl.callMap hc.nilD hx he hps (uA hd) hf hgd h
end
end Go.Ep
namespace Go.Ep
def eK(k:IntKind)(n:Int):List DV:=[.v (.int k n)]
def eS(s:ByteArray):List DV:=[.v (.string s)]
def eL{α:Type}(enc:α->List DV)(l:List α):List DV:=[.sl (l.map enc)]
def kI(n:Int):List Int:=[n]
theorem wJa(a b:Int)(h:kI a=kI b):a=b:=by simpa[kI] using h
section
variable{P:Program}{ctx:Ctx}{Q:PQ}{s:PState}
variable{dst:Option Tmp}{ty:TypeId}{pos:String}{after:Array Edge}{gd:Option (Nat×Bool)}
theorem PWc.jn{c:Code}{τ G:Type}{m:M τ}{N:τ->Prop}(h:m.wp N)(J:τ->G->PState)(i:m.wp N->PWc P ctx c (Jn ctx Q J N) s)(k:∀ v g,N v->Q .normal (J v g))
  (hK:∀ t u,Sub ctx t u->Q .normal u->Q .normal t:=by first | exact fun _ _ hs h=>PWc.sub hs h | exact fun _ _ hs ⟨v,g,h1,h2⟩=>⟨v,g,h1,Sub.trans hs h2⟩):PWc P ctx c Q s:=
 (i h).mono fun e t hq=>by
  cases e with
  | normal=>obtain⟨v,g,hv,hs⟩:=hq;exact hK t _ hs (k v g hv)
  | _=>exact hq
theorem PWc.jnX{c:Code}{τ G α:Type}{m:M (M.Ex τ α)}{N:M.Ex τ α->Prop}(h:m.wp N)(J:τ->G->PState)(i:m.wp N->PWc P ctx c (Jn ctx Q J fun v=>N (.brk v)) s)(k:∀ v g,N (.brk v)->Q .normal (J v g))
  (hK:∀ t u,Sub ctx t u->Q .normal u->Q .normal t:=by first | exact fun _ _ hs h=>PWc.sub hs h | exact fun _ _ hs ⟨v,g,h1,h2⟩=>⟨v,g,h1,Sub.trans hs h2⟩):PWc P ctx c Q s:=
 (i h).mono fun e t hq=>by
  cases e with
  | normal=>obtain⟨v,g,hv,hs⟩:=hq;exact hK t _ hs (k v g hv)
  | _=>exact hq
theorem entGet{κ ν:Type}{eK:κ->List Int}{eV:ν->List DV}{m:List (κ×ν)}{i:Nat}{y:κ×ν}(h:0<=Int.ofNat i/\m[(Int.ofNat i).toNat]?=some y):(xX eK eV m)[i]?=some (eK y.1,eV y.2):=by
 have h2:m[i]?=some y:=h.2;simp[xX,h2]
section
variable{κ ν:Type}{eK:κ->List Int}{eV:ν->List DV}{m:List (κ×ν)}
theorem nxtA{L:List Nat}(h:∀ i,i < (xX eK eV m).length->i∈L):∀ i,i < m.length->i∈L:=fun i hi=>h i (by rw[QR];exact hi)
theorem nxtB{i:Nat}(h:i < (xX eK eV m).length):i < m.length:=by rwa [QR] at h
theorem nxtD{L:List Nat}(h:∀ i∈L,i < m.length):∀ i∈L,i < (xX eK eV m).length:=fun i hi=>by rw[QR];exact h i hi
end
end
end Go.Ep
namespace Go.Ep
section
variable{P:Program}{ctx:Ctx}{Q:PQ}{s:PState}
variable{dst:Option Tmp}{ty:TypeId}{pos:String}{after:Array Edge}{gd:Option (Nat×Bool)}
section
variable{x y:Operand}{k ky:IntKind}{m n r:Int}{t t':TypeId}(hx:s.ev x=some (.d (.v (.int k m))))(hy:s.ev y=some (.d (.v (.int ky n))))
include hx hy
theorem LR.shr(h0:0<=n)(hr:m.fdiv (2 ^ min n.toNat k.bits)=r):Local P ctx ⟨dst,.binOp .shr t x y t',ty,pos,after,gd⟩ s (s.putD dst (.d (.v (.int k r)))):=by
 subst hr;have hn:¬ n < 0:=by omega
 exact zG (o:=⟨dst,.binOp .shr t x y t',ty,pos,after,gd⟩) fun a w _ hg=>⟨_,by simp[execOp,xK hg hx,xK hg hy,eqGuard_shr,binOp_shr,Op.shift,hn],.d (.v _ rfl)⟩
theorem LR.shl(h0:0<=n)(hr:k.wrap (m*2 ^ min n.toNat k.bits)=r):Local P ctx ⟨dst,.binOp .shl t x y t',ty,pos,after,gd⟩ s (s.putD dst (.d (.v (.int k r)))):=by
 subst hr;have hn:¬ n < 0:=by omega
 exact zG (o:=⟨dst,.binOp .shl t x y t',ty,pos,after,gd⟩) fun a w _ hg=>⟨_,by simp[execOp,xK hg hx,xK hg hy,eqGuard_shl,binOp_shl,Op.shift,hn],.d (.v _ rfl)⟩
end
section
variable{x y:Operand}{k:IntKind}{m n:Int}{t t':TypeId}(hx:s.ev x=some (.d (.v (.int k m))))(hy:s.ev y=some (.d (.v (.int k n))))
include hx hy
theorem LR.and : Local P ctx ⟨dst,.binOp .and t x y t',ty,pos,after,gd⟩ s (s.putD dst (.d (.v (.int k (Go.bits .and k m n))))):=xE hx hy (fun w=>by simp[binOp_and,intBits_and]) rfl
theorem LR.or : Local P ctx ⟨dst,.binOp .or t x y t',ty,pos,after,gd⟩ s (s.putD dst (.d (.v (.int k (Go.bits .or k m n))))):=xE hx hy (fun w=>by simp[binOp_or,intBits_or]) rfl
end
end
end Go.Ep
namespace Go.Ep
theorem PWl.eqlNilT{P:Program}{ctx:Ctx}{Q:PQ}{s:PState}{dst:Option Tmp}{ty:TypeId}{pos:String}{after:Array Edge}{gd:Option (Nat×Bool)}{α:Type}{enc:α->List DV}{L:List α}{ops:Array Oper}{rest:List Oper}{x:Operand}{t t' e:TypeId}(hu:P.underlying t=some (.slice e))(hx:s.ev x=some (.d (.sl (L.map enc))))(hg:gd=none)
  (h:∀ b:Bool,(b=true->L=[])->PWl P ctx ops Q rest (s.putD dst (.d (.v (.bool b))))):PWl P ctx ops Q (⟨dst,.binOp .eql t x (.const (.slice none 0 0)) t',ty,pos,after,gd⟩::rest) s:=
 PWl.eqlNil hu hx hg fun b hb=>h b fun e=>by simpa using hb e
end Go.Ep
namespace Go.Ep
section
variable{P:Program}{ctx:Ctx}{Q:PQ}{s:PState}
variable{dst:Option Tmp}{ty:TypeId}{pos:String}{after:Array Edge}{gd:Option (Nat×Bool)}
theorem LR.cutRowT{α:Type}{enc:α->List DV}{L:List α}{x hi:Operand}{id m k:Nat}{t e:TypeId}{kx:IntKind}{j:Int}(js:List Nat)(hu:P.underlying t=some (.slice e))(hs:∀ w,(sizeOf e).run P w=.ok k w)(hx:s.ev x=some (.row id m))(hm:m=L.length)(hl:look s.objs id=some (.row e k (L.map enc)))
  (hh:s.ev hi=some (.d (.v (.int kx j)))) (hb:0<=(0:Int)/\0<=j/\j<=(L.length:Int)) (ha:(s.junks js).alone id=true) :
  Local P ctx ⟨dst,.slice t x none (some hi) none,ty,pos,after,gd⟩ s (((s.junks js).setO id (.row e k (List.map enc (L.take j.toNat)))).putD dst (.row id j.toNat)):=by
 have:=LR.cutRow (P:=P) (ctx:=ctx) (dst:=dst) (ty:=ty) (pos:=pos) (after:=after) (gd:=gd) (m:=j.toNat) js hu hs hx hl (by simp[hm]) hh (by omega) (by omega) ha
 rwa [<- List.map_take] at this
end
end Go.Ep
namespace Go.Ep
end Go.Ep
namespace Go.Ep
section
variable{P:Program}{ctx:Ctx}{ops:Array Oper}{Q:PState->Prop}
theorem jA{s t:PState}(hn:s.n=t.n)(h:∀ i p,t.at i=some p->s.at i=some p)(d:Option Nat)(q:PV):∀ i p,(t.putD d q).at i=some p->(s.putD d q).at i=some p:=by
 cases d with
 | none=>exact h
 | some d=>
  intro i p hp;simp only[PState.putD,VB] at hp ⊢
  by_cases h1:i < t.n
  ·rw[if_pos h1] at hp;rw[if_pos (by omega)]
   by_cases h2:d=i
   ·rw[if_pos h2] at hp ⊢;exact hp
   ·rw[if_neg h2] at hp ⊢;exact h i p hp
  ·rw[if_neg h1] at hp;cases hp
theorem ev_sub{s t:PState}(h:∀ i p,t.at i=some p->s.at i=some p){x:Operand}{q:PV}(hx:t.ev x=some q):s.ev x=some q:=by
 cases x with
 | tmp i=>exact h i q hx
 | const v=>cases v <;> exact hx
 | func f=>exact hx
 | global g=>exact hx
theorem PQl.forget{l:List Oper}{t:PState}(h:PQl P ctx ops Q l t):∀ {s:PState},s.n=t.n->(∀ i p,t.at i=some p->s.at i=some p)->s.objs=t.objs->PQl P ctx ops Q l s:=by
 induction h with
 | fin h hs=>intro s hn hi ho;exact .fin h (Sub.trans (Sub.drop hn hi (fun id o hl=>by rw[ho];exact hl)) hs)
 | step hl hg _ ih=>intro s hn hi ho;exact .step (fun s' h1 h2=>hl s' (fun hx hq=>h1 hx (ev_sub hi hq)) (fun hob=>h2 (by rw[ho];exact hob))) hg (ih (by simp[vt,hn]) (jA hn hi _ _) (by simp[yo,ho]))
 | guardT hl hg hd hs _ ih=>intro s hn hi ho;exact .guardT (fun s' h1 h2=>hl s' (fun hx hq=>h1 hx (ev_sub hi hq)) (fun hob=>h2 (by rw[ho];exact hob))) hg hd (hi _ _ hs) (ih (by simp[vt,hn]) (jA hn hi _ _) (by simp[yo,ho]))
 | guardF hg hd hs hbc _ ih=>intro s hn hi ho;exact .guardF hg hd (hi _ _ hs) hbc (ih (by simp[vt,hn]) (jA hn hi _ _) (by simp[yo,ho]))
 | guardU hg hd hs _ ih=>intro s hn hi ho;exact .guardU hg hd (hi _ _ hs) (ih (by simp[vt,hn]) (jA hn hi _ _) (by simp[yo,ho]))
theorem PQl.keep{l:List Oper}{s:PState}{n:Nat}{tl:List (Nat×PV)}(hn:s.n=n)(h:Fgt s tl)(k:PQl P ctx ops Q l ⟨n,tl,s.objs⟩):PQl P ctx ops Q l s:=
 k.forget (t:=⟨n,tl,s.objs⟩) hn (fun i p hp=>h.get i p (uz hp)) rfl
end
end Go.Ep
namespace Go.Ep
section
variable{P:Program}{ctx:Ctx}
theorem PWl.re{Q:PQ}{ops:Array Oper}{l:List Oper}{s:PState}{n:Nat}{tl:List (Nat×PV)}{to:List (Nat×Ob)}(hn:s.n=n)(h:Fgt s tl)(ho:OFgt s.objs to)(k:PWl P ctx ops Q l ⟨n,tl,to⟩):PWl P ctx ops Q l s:=PWl.sub (Sub.of hn h ho) k
end
end Go.Ep
namespace Go.Ep
theorem wE : type_of% @PWl.re:=@PWl.re
theorem wJ : type_of% @PWc.jn:=@PWc.jn
theorem cN : type_of% @LR.callN:=@LR.callN
theorem iX : type_of% @LR.idxT:=@LR.idxT
theorem wM : type_of% @PWc.loopM:=@PWc.loopM
theorem wy{P:Program}{ctx:Ctx}{Q:PQ}{s:PState}{ops:Array Oper}{l:List Oper}{n:Nat}{tl:List (Nat×PV)}{to:List (Nat×Ob)}(k:PWl P ctx ops Q l ⟨n,tl,to⟩)(hn:s.n=n:=by exact rfl)(h:Fgt s tl:=by repeat' constructor)(ho:OFgt s.objs to:=by repeat' constructor):PWl P ctx ops Q l s:=PWl.re hn h ho k
theorem kK{P:Program}{ctx:Ctx}{ops:Array Oper}{Q:PState->Prop}{l:List Oper}{s:PState}{n:Nat}{tl:List (Nat×PV)}(k:PQl P ctx ops Q l ⟨n,tl,s.objs⟩)(hn:s.n=n:=by exact rfl)(h:Fgt s tl:=by repeat' constructor):PQl P ctx ops Q l s:=PQl.keep hn h k
theorem xN{P:Program}{ctx:Ctx}{Q:PQ}{s:PState}{ops:Array Oper}{rest:List Oper}{dst:Option Tmp}{ty:TypeId}{pos:String}{after:Array Edge}{gd:Option (Nat×Bool)}{x:Operand}{xs:List Operand}{ats:Array TypeId}{f:FuncId}{ps qs:List PV}{r:PV}(hc:PFun P f ps r)(he:∀ args w,(callFunc f args).run P w=.ok (.enter f args) w)(h:PWl P ctx ops Q rest (s.putD dst r))(hx:s.ev x=some (.d (.v (.func (.func f) #[] #[]))):=by exact rfl)(hps:s.evs xs=some qs:=by exact rfl)(hq:qs.map PV.nilD=ps:=by exact rfl)(hd:PV.isData.isDataL ps=true:=by exact rfl)(hr:r.isData=true:=by exact rfl)(hg:gd=none:=by exact rfl):PWl P ctx ops Q (⟨dst,.call ⟨.value x,xs.toArray,ats⟩,ty,pos,after,gd⟩::rest) s:=PWl.step (LR.callN hc hx he hps hq hd hr) hg h
theorem xD{P:Program}{ctx:Ctx}{Q:PQ}{s:PState}{c:Operand}{x y:Code}{b:Bool}{β:Type}{X Y:M β}{R:β->Prop}(h:(_root_.cond b X Y).wp R)(hc:s.ev c=some (.d (.v (.bool b))))(ht:b=true->X.wp R->PWc P ctx x Q s)(hf:b=false->Y.wp R->PWc P ctx y Q s):PWc P ctx (.cond c x y) Q s:=PWc.cond hc (fun e=>ht e (iT e h)) (fun e=>hf e (iF e h))
theorem xG{P:Program}{ctx:Ctx}{ops:Array Oper}{Q:PQ}{rest:List Oper}{s:PState}{d:Nat}{b:Bool}{β:Type}{X Y:M β}{R:β->Prop}(h:(_root_.cond b X Y).wp R)(hs:s.at d=some (.d (.v (.bool b))))(ht:b=true->X.wp R->PWl P ctx ops Q rest (s.put d (.d (.v (.bool true)))))(hf:b=false->Y.wp R->PWl P ctx ops Q rest (s.put d (.d (.v (.bool false))))):PWl P ctx ops Q rest s:=PWl.split hs (fun e=>ht e (iT e h)) (fun e=>hf e (iF e h))
theorem xQ{P:Program}{ctx:Ctx}{ops:Array Oper}{Q:PState->Prop}{rest:List Oper}{s:PState}{d:Nat}{b:Bool}{β:Type}{X Y:M β}{R:β->Prop}(h:(_root_.cond b X Y).wp R)(hs:s.at d=some (.d (.v (.bool b))))(ht:b=true->X.wp R->PQl P ctx ops Q rest (s.put d (.d (.v (.bool true)))))(hf:b=false->Y.wp R->PQl P ctx ops Q rest (s.put d (.d (.v (.bool false))))):PQl P ctx ops Q rest s:=PQl.split hs (fun e=>ht e (iT e h)) (fun e=>hf e (iF e h))
end Go.Ep
namespace Go.Ep
structure DT where
 dev:Int
 n:Int
 deriving DecidableEq
structure EV where
 dot:DT
 kind:Int
 cid:Int
 field:Int
 text:ByteArray
 kills:List DT
 deriving DecidableEq
structure RN where
 lo:Int
 hi:Int
 deriving DecidableEq
structure PT where
 dev:Int
 runs:List RN
 deriving DecidableEq
structure DL where
 from_:List PT
 to_:List PT
 events:List EV
 deriving DecidableEq
structure TEntry where
 kind:Int
 slot:Int
 dev:Int
 epoch:Int
 try_:Int
 event:EV
 have_:List PT
 front:List PT
 delta:DL
 deriving DecidableEq
structure TState where
 slot:Int
 phase:Int
 dev:Int
 epoch:Int
 try_:Int
 now:Int
 had:List PT
 ctx:List PT
 all:List EV
 deriving DecidableEq
structure PpackWriter where
 b:List Int
 deriving DecidableEq
structure Ppackrest where
 b:List Int
 deriving DecidableEq
structure PpackReader where
 rest:Ppackrest
 bad:Int
 deriving DecidableEq
structure PcountCounter where
 limit:Int
 now:Int
 deriving DecidableEq
structure TAnon66 where
 f:Int
 n:Int
 deriving DecidableEq
end Go.Ep
namespace Go.Ep
def DT.e(x:DT):List DV:=[.v (.int .u16 x.dev),.v (.int .u64 x.n)]
def DT.v(x:DT):List Value:=[(.int .u16 x.dev),(.int .u64 x.n)]
theorem DT.v1(x:DT):∀ u∈x.v,u.oneCell'=true:=by
 intro u hu;simp only[DT.v,List.mem_cons,List.not_mem_nil,or_false] at hu;rcases hu with rfl | rfl <;> rfl
def DT.k(x:DT):List Int:=[x.dev,x.n]
theorem DT.k_inj(a b:DT)(h:a.k=b.k):a=b:=by
 cases a;cases b;simp[DT.k] at h;simp[h]
def EV.e(x:EV):List DV:=[.v (.int .u16 x.dot.dev),.v (.int .u64 x.dot.n),.v (.int .u8 x.kind),.v (.int .u64 x.cid),.v (.int .u8 x.field),.v (.string x.text),.sl (List.map DT.e x.kills)]
def RN.e(x:RN):List DV:=[.v (.int .u64 x.lo),.v (.int .u64 x.hi)]
def RN.v(x:RN):List Value:=[(.int .u64 x.lo),(.int .u64 x.hi)]
theorem RN.v1(x:RN):∀ u∈x.v,u.oneCell'=true:=by
 intro u hu;simp only[RN.v,List.mem_cons,List.not_mem_nil,or_false] at hu;rcases hu with rfl | rfl <;> rfl
def RN.k(x:RN):List Int:=[x.lo,x.hi]
def PT.e(x:PT):List DV:=[.v (.int .u16 x.dev),.sl (List.map RN.e x.runs)]
def DL.e(x:DL):List DV:=[.sl (List.map PT.e x.from_),.sl (List.map PT.e x.to_),.sl (List.map EV.e x.events)]
def TEntry.e(x:TEntry):List DV:=[.v (.int .u8 x.kind),.v (.int .u8 x.slot),.v (.int .u16 x.dev),.v (.int .u64 x.epoch),.v (.int .u64 x.try_),.v (.int .u16 x.event.dot.dev),.v (.int .u64 x.event.dot.n),.v (.int .u8 x.event.kind),.v (.int .u64 x.event.cid),.v (.int .u8 x.event.field),.v (.string x.event.text),.sl (List.map DT.e x.event.kills),.sl (List.map PT.e x.have_),.sl (List.map PT.e x.front),.sl (List.map PT.e x.delta.from_),.sl (List.map PT.e x.delta.to_),.sl (List.map EV.e x.delta.events)]
def TState.e(x:TState):List DV:=[.v (.int .u8 x.slot),.v (.int .u8 x.phase),.v (.int .u16 x.dev),.v (.int .u64 x.epoch),.v (.int .u64 x.try_),.v (.int .u64 x.now),.sl (List.map PT.e x.had),.sl (List.map PT.e x.ctx),.sl (List.map EV.e x.all)]
def PpackWriter.e(x:PpackWriter):List DV:=[.sl (List.map (eK .u8) x.b)]
def Ppackrest.e(x:Ppackrest):List DV:=[.sl (List.map (eK .u8) x.b)]
def PpackReader.e(x:PpackReader):List DV:=[.sl (List.map (eK .u8) x.rest.b),.v (.int .i64 x.bad)]
def PcountCounter.e(x:PcountCounter):List DV:=[.v (.int .u64 x.limit),.v (.int .u64 x.now)]
def PcountCounter.v(x:PcountCounter):List Value:=[(.int .u64 x.limit),(.int .u64 x.now)]
def PcountCounter.k(x:PcountCounter):List Int:=[x.limit,x.now]
def TAnon66.e(x:TAnon66):List DV:=[.v (.int .i64 x.f),.v (.int .u64 x.n)]
def TAnon66.v(x:TAnon66):List Value:=[(.int .i64 x.f),(.int .u64 x.n)]
def TAnon66.k(x:TAnon66):List Int:=[x.f,x.n]
end Go.Ep
namespace Go.Ep
open Go.RowKit
section
variable{P:Program}
theorem jr{kt:TypeId}{k1 k2:IntKind}(he:∀ {a0 a1 b0 b1:Int},vFa P kt [.int k1 a0,.int k2 a1] [.int k1 b0,.int k2 b1] (decide (a0=b0)&&decide (a1=b1)))(w:World)(x y:Int) :
  ∀ (m:Mp) (es:List MapEntry) (i:Nat),es.length=m.length->(∀ (i:Nat) (e:MapEntry) (n:List Int) (c:List DV),es[i]?=some e->m[i]?=some (n,c)->e.key=YF [k1,k2] n/\n.length=2) ->
  (Instr.findAsking kt (YF [k1,k2] [x,y]) es i).run P w=.ok ((xW [x,y] m 0).bind fun j=>(es[j]?).map fun e=>(i+j,e.val)) w
 | [],es,i,hl,_=>by
  have:es=[]:=List.eq_nil_of_length_eq_zero hl;subst this;simp[Instr.findAsking,xW]
 | (ns,c)::m,[],i,hl,_=>by simp at hl
 | (ns,c)::m,e::es,i,hl,h=>by
  obtain⟨hk,hn⟩:=h 0 e ns c rfl rfl;obtain⟨a,b,rfl⟩:∃ a b,ns=[a,b]:=by
   match ns,hn with
   | [a,b],_=>exact⟨a,b,rfl⟩
  have ih:=jr he w x y m es (i+1) (by simpa using hl) (fun j e' n' c' h1 h2=>h (j+1) e' n' c' (by simpa using h1) (by simpa using h2));have heq:(Op.equal kt (YF [k1,k2] [x,y]) e.key).run P w=.ok (decide (x=a)&&decide (y=b)) w:=by
   rw[hk];exact(he (a0:=x) (a1:=y) (b0:=a) (b1:=b)).2 w
  unfold Instr.findAsking;simp only[Sem.run_bind,heq,Result.andThen_ok,Sem.run_ite]
  by_cases e1:x=a/\y=b
  ·obtain⟨rfl,rfl⟩:=e1;simp[xW]
  ·have e2:¬ ([a,b]:List Int)=[x,y]:=fun h=>e1 (by simp at h;exact⟨h.1.symm,h.2.symm⟩)
   have e3:(decide (x=a)&&decide (y=b))=false:=by
    rw[Bool.and_eq_false_iff,decide_eq_false_iff_not,decide_eq_false_iff_not]
    by_cases h0:x=a
    ·exact .inr fun h=>e1 ⟨h0,h⟩
    ·exact .inl h0
   rw[e3,if_neg (by simp),ih];show _=Result.ok ((if [a,b]=[x,y] then some 0 else xW [x,y] m (0+1)).bind _) w;rw[if_neg e2,ve [x,y] m (0+1)]
   cases xW [x,y] m 0 with
   | none=>rfl
   | some j=>
    simp only[Option.map_some,Option.bind_some,Nat.zero_add,Nat.add_comm 1 j,List.getElem?_cons_succ]
    cases es[j]? with
    | none=>rfl
    | some z=>simp;omega
theorem KeyOK.pair{kt:TypeId}{k1 k2:IntKind}{d:TypeDesc}(hu:P.underlying kt=some d)(hd:∀ us vs,Instr.sameNow d (.agg us) (.agg vs)=none)
  (hc:∀ (w:World) (e:Bool) (a b:Int),(Instr.checkKey e 10000 kt (.agg #[.int k1 a,.int k2 b])).run P w=.ok () w)
  (he:∀ {a0 a1 b0 b1:Int},vFa P kt [.int k1 a0,.int k2 a1] [.int k1 b0,.int k2 b1] (decide (a0=b0)&&decide (a1=b1))):KeyOK P kt [k1,k2]:=by
 refine⟨fun w e ns hn=>?_,fun w ns m es hn hl h=>?_⟩
 ·obtain⟨a,b,rfl⟩:∃ a b,ns=[a,b]:=by
   match ns,hn with
   | [a,b],_=>exact⟨a,b,rfl⟩
  exact hc w e a b
 ·obtain⟨a,b,rfl⟩:∃ a b,ns=[a,b]:=by
   match ns,hn with
   | [a,b],_=>exact⟨a,b,rfl⟩
  unfold Instr.findKey;simp only[Sem.run_bind,run_underlying hu,Result.andThen_ok]
  cases es with
  | nil=>
   have:m=[]:=List.eq_nil_of_length_eq_zero (by simpa using hl.symm);subst this;simp[Instr.findNow,xW]
  | cons e r=>
   have hnow:Instr.findNow d (YF [k1,k2] [a,b]) (e::r) 0=none:=by
    unfold Instr.findNow
    cases m with
    | nil=>simp at hl
    | cons x m'=>
     obtain⟨n,c⟩:=x;obtain⟨hk,hn2⟩:=h 0 e n c rfl rfl;obtain⟨a',b',rfl⟩:∃ a b,n=[a,b]:=by
      match n,hn2 with
      | [a,b],_=>exact⟨a,b,rfl⟩
     rw[hk];have:=hd #[.int k1 a,.int k2 b] #[.int k1 a',.int k2 b'];show(match Instr.sameNow d (.agg #[.int k1 a,.int k2 b]) (.agg #[.int k1 a',.int k2 b']) with | some true=>_ | some false=>_ | none=>_)=_;rw[this]
   rw[hnow];have:=jr he w a b m (e::r) 0 hl h;simp only[Nat.zero_add] at this;exact this
end
end Go.Ep
namespace Go.Proofs
open Go.Ep
set_option linter.unusedSimpArgs false
theorem uB : ElemOK Tryz.prog 26 25 2 16:=ElemOK.mk' (z:=.agg #[.int .u16 0,.int .u64 0]) Tryz.underlying26 (by kernel_rfl) rfl
theorem qb : ElemOK Tryz.prog 30 94 2 32:=ElemOK.mk' (z:=.agg #[.int .u16 0,.slice none 0 0]) Tryz.underlying30 (by kernel_rfl) rfl
theorem v9a : ElemOK Tryz.prog 31 28 7 80:=ElemOK.mk' (z:=.agg #[.int .u16 0,.int .u64 0,.int .u8 0,.int .u64 0,.int .u8 0,.string ⟨#[]⟩,.slice none 0 0]) Tryz.underlying31 (by kernel_rfl) rfl
theorem XL : ElemOK Tryz.prog 41 5 1 1:=ElemOK.mk' (z:=.int .u8 0) Tryz.underlying41 (by kernel_rfl) rfl
theorem elem67 : ElemOK Tryz.prog 67 66 2 16:=ElemOK.mk' (z:=.agg #[.int .i64 0,.int .u64 0]) Tryz.underlying67 (by kernel_rfl) rfl
theorem jt : ElemOK Tryz.prog 85 23 1 8:=ElemOK.mk' (z:=.int .u64 0) Tryz.underlying85 (by kernel_rfl) rfl
theorem vO : ElemOK Tryz.prog 92 117 2 16:=ElemOK.mk' (z:=.agg #[.int .u64 0,.int .u64 0]) Tryz.underlying92 (by kernel_rfl) rfl
theorem XW : vB Tryz.prog 25 [(0,1),(1,1)] [.int .u16 0,.int .u64 0]:=fun parts=>by kernel_rfl
theorem UF : vB Tryz.prog 28 [(0,2),(2,1),(3,1),(4,1),(5,1),(6,1)] [.int .u16 0,.int .u64 0,.int .u8 0,.int .u64 0,.int .u8 0,.string ⟨#[]⟩,.slice none 0 0]:=fun parts=>by kernel_rfl
theorem uAa : vB Tryz.prog 33 [(0,1),(1,1),(2,1)] [.slice none 0 0,.slice none 0 0,.slice none 0 0]:=fun parts=>by kernel_rfl
theorem ju : vB Tryz.prog 35 [(0,1),(1,1),(2,1),(3,1),(4,1),(5,7),(12,1),(13,1),(14,3)] [.int .u8 0,.int .u8 0,.int .u16 0,.int .u64 0,.int .u64 0,.int .u16 0,.int .u64 0,.int .u8 0,.int .u64 0,.int .u8 0,.string ⟨#[]⟩,.slice none 0 0,.slice none 0 0,.slice none 0 0,.slice none 0 0,.slice none 0 0,.slice none 0 0]:=fun parts=>by kernel_rfl
theorem xEa : vB Tryz.prog 37 [(0,1),(1,1),(2,1),(3,1),(4,1),(5,1),(6,1),(7,1),(8,1)] [.int .u8 0,.int .u8 0,.int .u16 0,.int .u64 0,.int .u64 0,.int .u64 0,.slice none 0 0,.slice none 0 0,.slice none 0 0]:=fun parts=>by kernel_rfl
theorem xFa : vB Tryz.prog 66 [(0,1),(1,1)] [.int .i64 0,.int .u64 0]:=fun parts=>by kernel_rfl
theorem xGa : vB Tryz.prog 94 [(0,1),(1,1)] [.int .u16 0,.slice none 0 0]:=fun parts=>by kernel_rfl
theorem VG : vB Tryz.prog 117 [(0,1),(1,1)] [.int .u64 0,.int .u64 0]:=fun parts=>by kernel_rfl
theorem build118 : vB Tryz.prog 118 [(0,1)] [.slice none 0 0]:=fun parts=>by kernel_rfl
theorem build120 : vB Tryz.prog 120 [(0,1),(1,1)] [.slice none 0 0,.int .i64 0]:=fun parts=>by kernel_rfl
theorem build155 : vB Tryz.prog 155 [(0,1),(1,1),(2,1),(3,1),(4,1),(5,1),(6,1),(7,1),(8,1)] [.int .u8 0,.int .u8 0,.int .u16 0,.int .u64 0,.int .u64 0,.int .u64 0,.pointer none,.slice none 0 0,.pointer none]:=fun parts=>by kernel_rfl
theorem QS : vB Tryz.prog 171 [(0,1),(1,1),(2,1)] [.slice none 0 0,.map none,.map none]:=fun parts=>by kernel_rfl
theorem build176 : vB Tryz.prog 176 [(0,1),(1,1)] [.int .u64 0,.int .u64 0]:=fun parts=>by kernel_rfl
theorem uBa{a0 b0:Int}{a1 b1:Int}:vFa Tryz.prog 25 [.int .u16 a0,.int .u64 a1] [.int .u16 b0,.int .u64 b1] ((decide (a0=b0)&&decide (a1=b1))):=by
 refine⟨by kernel_rfl,fun w=>?_⟩;have hu:Tryz.prog.underlying 25=some (.struct (Tryz.prog.fieldsOf 25)):=by simp only[Program.fieldsOf,Tryz.underlying25]
 rw[run_equalIn_agg w 9999 25 _ _ hu (by kernel_rfl)];simp[Program.fieldsOf,Tryz.underlying25,Op.eqFields,part,Tryz.isAgg22,Tryz.isAgg23,run_equalIn_int _ 9998 22 _ _ _ _ Tryz.underlying22,run_equalIn_int _ 9998 23 _ _ _ _ Tryz.underlying23,Result.andThen,VC]
 all_goals (repeat' split) <;> simp_all
theorem eq117{a0 b0:Int}{a1 b1:Int}:vFa Tryz.prog 117 [.int .u64 a0,.int .u64 a1] [.int .u64 b0,.int .u64 b1] ((decide (a0=b0)&&decide (a1=b1))):=by
 refine⟨by kernel_rfl,fun w=>?_⟩;have hu:Tryz.prog.underlying 117=some (.struct (Tryz.prog.fieldsOf 117)):=by simp only[Program.fieldsOf,Tryz.underlying117]
 rw[run_equalIn_agg w 9999 117 _ _ hu (by kernel_rfl)];simp[Program.fieldsOf,Tryz.underlying117,Op.eqFields,part,Tryz.isAgg23,run_equalIn_int _ 9998 23 _ _ _ _ Tryz.underlying23,Result.andThen,VC]
 all_goals (repeat' split) <;> simp_all
theorem jv : KeyOK Tryz.prog 22 [.u16]:=KeyOK.int Tryz.underlying22
theorem chk169 : ∀ (w:World) (e:Bool) (a b:Int),(Instr.checkKey e 10000 25 (.agg #[.int .u16 a,.int .u64 b])).run Tryz.prog w=.ok () w:=by
 intro w e a b;have q1:∀ w,(Instr.checkKey e 9999 22 (.int .u16 a)).run Tryz.prog w=.ok () w:=fun w=>MapKept.run_checkKey (k:=.int .u16 a) Tryz.underlying22 rfl e 9998
 have q2:∀ w,(Instr.checkKey e 9999 23 (.int .u64 b)).run Tryz.prog w=.ok () w:=fun w=>MapKept.run_checkKey (k:=.int .u64 b) Tryz.underlying23 rfl e 9998
 unfold Instr.checkKey;simp[run_underlying Tryz.underlying25,Result.andThen,part,Tryz.isAgg22,Tryz.isAgg23,q1,q2]
theorem key169 : KeyOK Tryz.prog 25 [.u16,.u64]:=KeyOK.pair Tryz.underlying25 (fun _ _=>rfl) chk169 uBa
theorem U5{t : TypeId}{u : _}(h : Tryz.prog.underlying t=some u := by with_reducible first | exact Tryz.underlying4 | exact Tryz.underlying5 | exact Tryz.underlying9 | exact Tryz.underlying25 | exact Tryz.underlying26 | exact Tryz.underlying28 | exact Tryz.underlying30 | exact Tryz.underlying31 | exact Tryz.underlying33 | exact Tryz.underlying35 | exact Tryz.underlying37 | exact Tryz.underlying41 | exact Tryz.underlying64 | exact Tryz.underlying66 | exact Tryz.underlying70 | exact Tryz.underlying75 | exact Tryz.underlying85 | exact Tryz.underlying92 | exact Tryz.underlying94 | exact Tryz.underlying117 | exact Tryz.underlying118 | exact Tryz.underlying120 | exact Tryz.underlying143 | exact Tryz.underlying145 | exact Tryz.underlying153 | exact Tryz.underlying155 | exact Tryz.underlying169 | exact Tryz.underlying171 | exact Tryz.underlying176) : Tryz.prog.underlying t=some u := h
theorem I5{t : TypeId}{b : Bool}(h : ∀ w, (isAgg t).run Tryz.prog w=.ok b w := by with_reducible first | exact Tryz.isAgg3 | exact Tryz.isAgg5 | exact Tryz.isAgg9 | exact Tryz.isAgg22 | exact Tryz.isAgg23 | exact Tryz.isAgg25 | exact Tryz.isAgg26 | exact Tryz.isAgg28 | exact Tryz.isAgg30 | exact Tryz.isAgg31 | exact Tryz.isAgg33 | exact Tryz.isAgg35 | exact Tryz.isAgg37 | exact Tryz.isAgg41 | exact Tryz.isAgg42 | exact Tryz.isAgg66 | exact Tryz.isAgg92 | exact Tryz.isAgg94 | exact Tryz.isAgg117 | exact Tryz.isAgg153 | exact Tryz.isAgg169) : ∀ w, (isAgg t).run Tryz.prog w=.ok b w := h
theorem Z5{t : TypeId}{k : Nat}{k' : _}(h : ∀ w, (sizeOf t).run Tryz.prog w=.ok k' w := by first | (with_reducible first | exact Tryz.sizeOf3 | exact Tryz.sizeOf5 | exact Tryz.sizeOf9 | exact Tryz.sizeOf22 | exact Tryz.sizeOf23 | exact Tryz.sizeOf25 | exact Tryz.sizeOf26 | exact Tryz.sizeOf28 | exact Tryz.sizeOf30 | exact Tryz.sizeOf31 | exact Tryz.sizeOf33 | exact Tryz.sizeOf35 | exact Tryz.sizeOf37 | exact Tryz.sizeOf41 | exact Tryz.sizeOf42 | exact Tryz.sizeOf66 | exact Tryz.sizeOf92 | exact Tryz.sizeOf94 | exact Tryz.sizeOf117 | exact Tryz.sizeOf118 | exact Tryz.sizeOf149 | exact Tryz.sizeOf153 | exact Tryz.sizeOf169) | (simp only[List.getElem_toArray, List.getElem_cons_zero, List.getElem_cons_succ]; with_reducible first | exact Tryz.sizeOf3 | exact Tryz.sizeOf5 | exact Tryz.sizeOf9 | exact Tryz.sizeOf22 | exact Tryz.sizeOf23 | exact Tryz.sizeOf25 | exact Tryz.sizeOf26 | exact Tryz.sizeOf28 | exact Tryz.sizeOf30 | exact Tryz.sizeOf31 | exact Tryz.sizeOf33 | exact Tryz.sizeOf35 | exact Tryz.sizeOf37 | exact Tryz.sizeOf41 | exact Tryz.sizeOf42 | exact Tryz.sizeOf66 | exact Tryz.sizeOf92 | exact Tryz.sizeOf94 | exact Tryz.sizeOf117 | exact Tryz.sizeOf118 | exact Tryz.sizeOf149 | exact Tryz.sizeOf153 | exact Tryz.sizeOf169))(e : k'=k := by rfl) : ∀ w, (sizeOf t).run Tryz.prog w=.ok k w := e▸h
theorem V5{t : TypeId}{v : Value}{v' : _}(h : ∀ w, (zeroValue t).run Tryz.prog w=.ok v' w := by with_reducible first | exact Tryz.zeroValue25 | exact Tryz.zeroValue28 | exact Tryz.zeroValue33 | exact Tryz.zeroValue35 | exact Tryz.zeroValue37 | exact Tryz.zeroValue64 | exact Tryz.zeroValue66 | exact Tryz.zeroValue94 | exact Tryz.zeroValue117)(e : v'=v := by rfl) : ∀ w, (zeroValue t).run Tryz.prog w=.ok v w := e▸h
theorem E5{t e : TypeId}{k bs : Nat}(h : ElemOK Tryz.prog t e k bs := by with_reducible first | exact uB | exact vO) : ElemOK Tryz.prog t e k bs := h
theorem g5{p q : Prop}(k : q)(h : q → p := by first
  | ((with_reducible show(_ → PWl _ _ _ _ [] _)); exact fun k => wN k)
  | ((with_reducible show(_ → PWl _ _ _ _ (⟨_, _, _, _, _, none⟩::_) _)); first | ((with_reducible show(_ → PWl _ _ _ _ (⟨_, .move _, _, _, _, _⟩::_) _)); first | exact fun k => wm k) | ((with_reducible show(_ → PWl _ _ _ _ (⟨_, .assign _, _, _, _, _⟩::_) _)); first | exact fun k => wa k) | ((with_reducible show(_ → PWl _ _ _ _ (⟨_, .pick _ _ _, _, _, _, _⟩::_) _)); first | exact fun k => ws (pF rfl rfl) k | exact fun k => ws (pT rfl rfl) k) | ((with_reducible show(_ → PWl _ _ _ _ (⟨_, .load _ _, _, _, _, _⟩::_) _)); first | exact fun k => ws (lD I5 rfl rfl rfl) k | exact fun k => ws (lA (ps := [_, _]) I5 Z5 rfl rfl rfl rfl) k | exact fun k => ws (lE (ys := [_, _]) I5 Z5 rfl rfl rfl) k | exact fun k => ws (LR.loadEp I5 rfl rfl) k | exact fun k => ws (lE (ys := [_, _, _, _, _, _, _]) I5 Z5 rfl rfl rfl) k | exact fun k => ws (lA (ps := [_, _, _, _, _, _, _]) I5 Z5 rfl rfl rfl rfl) k | exact fun k => ws (lA (ps := [_, _, _]) I5 Z5 rfl rfl rfl rfl) k | exact fun k => ws (lA (ps := [_, _, _, _, _, _, _, _, _, _, _, _, _, _, _, _, _]) I5 Z5 rfl rfl rfl rfl) k | exact fun k => ws (lA (ps := [_, _, _, _, _, _, _, _, _]) I5 Z5 rfl rfl rfl rfl) k) | ((with_reducible show(_ → PWl _ _ _ _ (⟨_, .fieldAddr _ _ _, _, _, _, _⟩::_) _)); first | exact fun k => ws (fR U5 rfl Z5 (by decide) rfl rfl) k | exact fun k => ws (fE U5 rfl Z5 (by decide) rfl rfl) k | exact fun k => ws (LR.fieldRp U5 rfl Z5 (by decide) rfl rfl) k) | ((with_reducible show(_ → PWl _ _ _ _ (⟨_, .call ⟨.builtin .len, _, _⟩, _, _, _, _⟩::_) _)); first | exact fun k => ws (lM U5 rfl) k | exact fun k => ws (LR.lenRow U5 rfl) k | exact fun k => ws (LR.lenStr U5 rfl) k | exact fun k => ws (LR.lenPc U5 rfl) k) | ((with_reducible show(_ → PWl _ _ _ _ (⟨_, .store _ _ _, _, _, _, _⟩::_) _)); first | exact fun k => ws (sB (ns := [_, _]) Z5 rfl rfl rfl rfl rfl rfl rfl) k | exact fun k => ws (sB (ns := [_, _, _, _, _, _, _]) Z5 rfl rfl rfl rfl rfl rfl rfl) k | exact fun k => ws (sB (ns := [_, _, _, _, _, _, _, _, _, _, _, _, _, _, _, _, _]) Z5 rfl rfl rfl rfl rfl rfl rfl) k | exact fun k => ws (sB (ns := [_, _, _, _, _, _, _, _, _]) Z5 rfl rfl rfl rfl rfl rfl rfl) k | exact fun k => ws (sB (ns := [_, _, _]) Z5 rfl rfl rfl rfl rfl rfl rfl) k | exact fun k => ws (sB (ns := [_]) Z5 rfl rfl rfl rfl rfl rfl rfl) k) | ((with_reducible show(_ → PWl _ _ _ _ (⟨_, .binOp .lss _ _ _ _, _, _, _, _⟩::_) _)); first | exact fun k => ws (LR.lss rfl rfl) k) | ((with_reducible show(_ → PWl _ _ _ _ (⟨_, .binOp .add _ _ _ _, _, _, _, _⟩::_) _)); first | exact fun k => ws (LR.addW rfl rfl) k) | ((with_reducible show(_ → PWl _ _ _ _ (⟨_, .box _ _, _, _, _, _⟩::_) _)); first | exact fun k => ws (LR.box rfl rfl rfl rfl) k) | ((with_reducible show(_ → PWl _ _ _ _ (⟨_, .binOp .eql _ _ _ _, _, _, _, _⟩::_) _)); first | exact fun k => ws (eQ rfl rfl) k | exact fun k => ws (LR.eqlPtr U5 rfl) k | exact fun k => ws (LR.eqlBool U5 rfl rfl) k | exact fun k => ws (LR.eqlStr rfl rfl) k | exact fun k => ws (LR.eqlH U5 rfl rfl) k) | ((with_reducible show(_ → PWl _ _ _ _ (⟨_, .alloc _, _, _, _, _⟩::_) _)); first | exact fun k => ws (LR.allocZ (cs := [_, _]) V5 rfl rfl rfl rfl) k | exact fun k => ws (LR.allocZ (cs := [_, _, _, _, _, _, _]) V5 rfl rfl rfl rfl) k | exact fun k => ws (LR.allocZ (cs := [_, _, _]) V5 rfl rfl rfl rfl) k | exact fun k => ws (LR.allocZ (cs := [_, _, _, _, _, _, _, _, _, _, _, _, _, _, _, _, _]) V5 rfl rfl rfl rfl) k | exact fun k => ws (LR.allocZ (cs := [_, _, _, _, _, _, _, _, _]) V5 rfl rfl rfl rfl) k | exact fun k => ws (LR.allocR (cs := [_]) V5 rfl rfl rfl rfl) k) | ((with_reducible show(_ → PWl _ _ _ _ (⟨_, .extract _ _, _, _, _, _⟩::_) _)); first | exact fun k => ws (LR.extract rfl rfl) k) | ((with_reducible show(_ → PWl _ _ _ _ (⟨_, .binOp .neq _ _ _ _, _, _, _, _⟩::_) _)); first | exact fun k => ws (nQ rfl rfl) k | exact fun k => ws (LR.neqPtr U5 rfl) k) | ((with_reducible show(_ → PWl _ _ _ _ (⟨_, .nilCheck _, _, _, _, _⟩::_) _)); first | exact fun k => ws (LR.nilCheckRef rfl) k) | ((with_reducible show(_ → PWl _ _ _ _ (⟨_, .binOp .gtr _ _ _ _, _, _, _, _⟩::_) _)); first | exact fun k => ws (LR.gtr rfl rfl) k) | ((with_reducible show(_ → PWl _ _ _ _ (⟨_, .unOp .not _ _, _, _, _, _⟩::_) _)); first | exact fun k => ws (LR.not rfl) k) | ((with_reducible show(_ → PWl _ _ _ _ (⟨_, .binOp .geq _ _ _ _, _, _, _, _⟩::_) _)); first | exact fun k => ws (LR.geq rfl rfl) k) | ((with_reducible show(_ → PWl _ _ _ _ (⟨_, .binOp .sub _ _ _ _, _, _, _, _⟩::_) _)); first | exact fun k => ws (LR.subW rfl rfl) k) | ((with_reducible show(_ → PWl _ _ _ _ (⟨_, .binOp .leq _ _ _ _, _, _, _, _⟩::_) _)); first | exact fun k => ws (LR.leq rfl rfl) k) | ((with_reducible show(_ → PWl _ _ _ _ (⟨_, .call ⟨.builtin .max, _, _⟩, _, _, _, _⟩::_) _)); first | exact fun k => ws (LR.maxI rfl rfl) k) | ((with_reducible show(_ → PWl _ _ _ _ (⟨_, .binOp .shr _ _ _ _, _, _, _, _⟩::_) _)); first | exact fun k => ws (LR.shr rfl rfl (by decide) rfl) k) | ((with_reducible show(_ → PWl _ _ _ _ (⟨_, .convert _ _ _, _, _, _, _⟩::_) _)); first | exact fun k => ws (LR.bytesStr U5 U5 U5 rfl) k) | ((with_reducible show(_ → PWl _ _ _ _ (⟨_, .buildSlice _ _ _, _, _, _, _⟩::_) _)); first | exact fun k => ws (LR.buildSlice [] E5 rfl rfl (.nil) (by decide) (by decide) rfl) k) | ((with_reducible show(_ → PWl _ _ _ _ (⟨_, .call ⟨.builtin .min, _, _⟩, _, _, _, _⟩::_) _)); first | exact fun k => ws (LR.minI rfl rfl) k) | ((with_reducible show(_ → PWl _ _ _ _ (⟨_, .binOp .and _ _ _ _, _, _, _, _⟩::_) _)); first | exact fun k => ws (LR.and rfl rfl) k) | ((with_reducible show(_ → PWl _ _ _ _ (⟨_, .range _ _, _, _, _, _⟩::_) _)); first | exact fun k => ws (LR.rangeO U5 rfl rfl rfl) k) | ((with_reducible show(_ → PWl _ _ _ _ (⟨_, .binOp .mul _ _ _ _, _, _, _, _⟩::_) _)); first | exact fun k => ws (LR.mulW rfl rfl) k) | ((with_reducible show(_ → PWl _ _ _ _ (⟨_, .binOp .quo _ _ _ _, _, _, _, _⟩::_) _)); first | exact fun k => ws (LR.quoW rfl rfl (by decide)) k) | ((with_reducible show(_ → PWl _ _ _ _ (⟨_, .binOp .rem _ _ _ _, _, _, _, _⟩::_) _)); first | exact fun k => ws (LR.rem rfl rfl (by decide)) k) | ((with_reducible show(_ → PWl _ _ _ _ (⟨_, .binOp .shl _ _ _ _, _, _, _, _⟩::_) _)); first | exact fun k => ws (LR.shl rfl rfl (by decide) rfl) k) | ((with_reducible show(_ → PWl _ _ _ _ (⟨_, .binOp .or _ _ _ _, _, _, _, _⟩::_) _)); first | exact fun k => ws (LR.or rfl rfl) k))
  | ((with_reducible show(_ → PWl _ _ _ _ (⟨_, _, _, _, _, some _⟩::_) _)); first | exact fun k => wf k | exact fun k => wu k | ((with_reducible show(_ → PWl _ _ _ _ (⟨_, .load _ _, _, _, _, _⟩::_) _)); first | exact fun k => wt (lD I5 rfl rfl rfl) k | exact fun k => wt (lA (ps := [_, _, _, _, _, _, _]) I5 Z5 rfl rfl rfl rfl) k | exact fun k => wt (LR.loadEp I5 rfl rfl) k | exact fun k => wt (lA (ps := [_, _]) I5 Z5 rfl rfl rfl rfl) k | exact fun k => wt (lA (ps := [_, _, _]) I5 Z5 rfl rfl rfl rfl) k | exact fun k => wt (lA (ps := [_, _, _, _, _, _, _, _, _]) I5 Z5 rfl rfl rfl rfl) k | exact fun k => wt (lA (ps := [_, _, _, _, _, _, _, _, _, _, _, _, _, _, _, _, _]) I5 Z5 rfl rfl rfl rfl) k | exact fun k => wt (lE (ys := [_, _]) I5 Z5 rfl rfl rfl) k) | ((with_reducible show(_ → PWl _ _ _ _ (⟨_, .fieldAddr _ _ _, _, _, _, _⟩::_) _)); first | exact fun k => wt (fR U5 rfl Z5 (by decide) rfl rfl) k | exact fun k => wt (fE U5 rfl Z5 (by decide) rfl rfl) k) | ((with_reducible show(_ → PWl _ _ _ _ (⟨_, .move _, _, _, _, _⟩::_) _)); first | exact fun k => wt (mV rfl) k) | ((with_reducible show(_ → PWl _ _ _ _ (⟨_, .pick _ _ _, _, _, _, _⟩::_) _)); first | exact fun k => wt (pT rfl rfl) k | exact fun k => wt (pF rfl rfl) k) | ((with_reducible show(_ → PWl _ _ _ _ (⟨_, .unOp .not _ _, _, _, _, _⟩::_) _)); first | exact fun k => wt (LR.not rfl) k) | ((with_reducible show(_ → PWl _ _ _ _ (⟨_, .binOp .eql _ _ _ _, _, _, _, _⟩::_) _)); first | exact fun k => wt (eQ rfl rfl) k | exact fun k => wt (LR.eqlStr rfl rfl) k) | ((with_reducible show(_ → PWl _ _ _ _ (⟨_, .binOp .gtr _ _ _ _, _, _, _, _⟩::_) _)); first | exact fun k => wt (LR.gtr rfl rfl) k) | ((with_reducible show(_ → PWl _ _ _ _ (⟨_, .binOp .neq _ _ _ _, _, _, _, _⟩::_) _)); first | exact fun k => wt (nQ rfl rfl) k | exact fun k => wt (LR.neqStr rfl rfl) k) | ((with_reducible show(_ → PWl _ _ _ _ (⟨_, .call ⟨.builtin .len, _, _⟩, _, _, _, _⟩::_) _)); first | exact fun k => wt (lM U5 rfl) k | exact fun k => wt (LR.lenRow U5 rfl) k | exact fun k => wt (LR.lenStr U5 rfl) k) | ((with_reducible show(_ → PWl _ _ _ _ (⟨_, .binOp .leq _ _ _ _, _, _, _, _⟩::_) _)); first | exact fun k => wt (LR.leq rfl rfl) k) | ((with_reducible show(_ → PWl _ _ _ _ (⟨_, .binOp .geq _ _ _ _, _, _, _, _⟩::_) _)); first | exact fun k => wt (LR.geq rfl rfl) k) | ((with_reducible show(_ → PWl _ _ _ _ (⟨_, .binOp .lss _ _ _ _, _, _, _, _⟩::_) _)); first | exact fun k => wt (LR.lss rfl rfl) k) | ((with_reducible show(_ → PWl _ _ _ _ (⟨_, .binOp .and _ _ _ _, _, _, _, _⟩::_) _)); first | exact fun k => wt (LR.and rfl rfl) k) | ((with_reducible show(_ → PWl _ _ _ _ (⟨_, .nilCheck _, _, _, _, _⟩::_) _)); first | exact fun k => wt (LR.nilCheckRef rfl) k))
  | (show(_ → PWc _ _ _ _ _)); first | ((with_reducible show(_ → PWc _ _ (.seq _ _) _ _)); first | exact fun k => wQ k) | ((with_reducible show(_ → PWc _ _ (.region _ _ _) _ _)); first | exact fun k => wR k | exact fun k => wD (by kernel_rfl) (by kernel_rfl) k) | ((with_reducible show(_ → PWc _ _ .skip _ _)); first | exact fun k => wK k) | ((with_reducible show(_ → PWc _ _ (.block _ _) _ _)); first | exact fun k => wB k)
  | exact fun k => wt (LR.max3I rfl rfl rfl) k) : p := h k
theorem h5{p q : Prop}(k : q)(h : q → p := by first
  | ((with_reducible show(_ → PQl _ _ _ _ [] _)); exact fun k => qN k)
  | ((with_reducible show(_ → PQl _ _ _ _ (⟨_, _, _, _, _, none⟩::_) _)); first | ((with_reducible show(_ → PQl _ _ _ _ (⟨_, .move _, _, _, _, _⟩::_) _)); first | exact fun k => qm k) | ((with_reducible show(_ → PQl _ _ _ _ (⟨_, .pick _ _ _, _, _, _, _⟩::_) _)); first | exact fun k => qs (fun _ U W => pF U U) k | exact fun k => qs (fun _ U W => pT U U) k) | ((with_reducible show(_ → PQl _ _ _ _ (⟨_, .load _ _, _, _, _, _⟩::_) _)); first | exact fun k => qs (fun _ U W => lE (ys := [_, _]) I5 Z5 U rfl rfl) k | exact fun k => qs (fun _ U W => LR.loadEp I5 U rfl) k | exact fun k => qs (fun _ U W => lD I5 U (W rfl) rfl) k | exact fun k => qs (fun _ U W => lA (ps := [_, _]) I5 Z5 U (W rfl) rfl rfl) k | exact fun k => qs (fun _ U W => lA (ps := [_, _, _, _, _, _, _]) I5 Z5 U (W rfl) rfl rfl) k | exact fun k => qs (fun _ U W => lE (ys := [_, _, _, _, _, _, _]) I5 Z5 U rfl rfl) k) | ((with_reducible show(_ → PQl _ _ _ _ (⟨_, .assign _, _, _, _, _⟩::_) _)); first | exact fun k => qs (fun _ U W => aS U) k) | ((with_reducible show(_ → PQl _ _ _ _ (⟨_, .fieldAddr _ _ _, _, _, _, _⟩::_) _)); first | exact fun k => qs (fun _ U W => fR U5 rfl Z5 (by decide) rfl U) k | exact fun k => qs (fun _ U W => fE U5 rfl Z5 (by decide) rfl U) k) | ((with_reducible show(_ → PQl _ _ _ _ (⟨_, .unOp .not _ _, _, _, _, _⟩::_) _)); first | exact fun k => qs (fun _ U W => LR.not U) k) | ((with_reducible show(_ → PQl _ _ _ _ (⟨_, .binOp .gtr _ _ _ _, _, _, _, _⟩::_) _)); first | exact fun k => qs (fun _ U W => LR.gtr U U) k) | ((with_reducible show(_ → PQl _ _ _ _ (⟨_, .binOp .geq _ _ _ _, _, _, _, _⟩::_) _)); first | exact fun k => qs (fun _ U W => LR.geq U U) k) | ((with_reducible show(_ → PQl _ _ _ _ (⟨_, .binOp .sub _ _ _ _, _, _, _, _⟩::_) _)); first | exact fun k => qs (fun _ U W => LR.subW U U) k) | ((with_reducible show(_ → PQl _ _ _ _ (⟨_, .binOp .neq _ _ _ _, _, _, _, _⟩::_) _)); first | exact fun k => qs (fun _ U W => nQ U U) k | exact fun k => qs (fun _ U W => LR.neqBool U5 U U) k) | ((with_reducible show(_ → PQl _ _ _ _ (⟨_, .binOp .lss _ _ _ _, _, _, _, _⟩::_) _)); first | exact fun k => qs (fun _ U W => LR.lss U U) k) | ((with_reducible show(_ → PQl _ _ _ _ (⟨_, .binOp .eql _ _ _ _, _, _, _, _⟩::_) _)); first | exact fun k => qs (fun _ U W => eQ U U) k) | ((with_reducible show(_ → PQl _ _ _ _ (⟨_, .binOp .add _ _ _ _, _, _, _, _⟩::_) _)); first | exact fun k => qs (fun _ U W => LR.addW U U) k))
  | ((with_reducible show(_ → PQl _ _ _ _ (⟨_, _, _, _, _, some _⟩::_) _)); first | exact fun k => kF k | exact fun k => kU k | ((with_reducible show(_ → PQl _ _ _ _ (⟨_, .move _, _, _, _, _⟩::_) _)); first | exact fun k => qt (fun _ U W => mV U) k) | ((with_reducible show(_ → PQl _ _ _ _ (⟨_, .load _ _, _, _, _, _⟩::_) _)); first | exact fun k => qt (fun _ U W => lD I5 U (W rfl) rfl) k | exact fun k => qt (fun _ U W => lA (ps := [_, _]) I5 Z5 U (W rfl) rfl rfl) k | exact fun k => qt (fun _ U W => lE (ys := [_, _]) I5 Z5 U rfl rfl) k | exact fun k => qt (fun _ U W => LR.loadEp I5 U rfl) k) | ((with_reducible show(_ → PQl _ _ _ _ (⟨_, .fieldAddr _ _ _, _, _, _, _⟩::_) _)); first | exact fun k => qt (fun _ U W => fR U5 rfl Z5 (by decide) rfl U) k | exact fun k => qt (fun _ U W => fE U5 rfl Z5 (by decide) rfl U) k | exact fun k => qt (fun _ U W => LR.fieldRp U5 rfl Z5 (by decide) rfl U) k) | ((with_reducible show(_ → PQl _ _ _ _ (⟨_, .pick _ _ _, _, _, _, _⟩::_) _)); first | exact fun k => qt (fun _ U W => pT U U) k | exact fun k => qt (fun _ U W => pF U U) k) | ((with_reducible show(_ → PQl _ _ _ _ (⟨_, .binOp .geq _ _ _ _, _, _, _, _⟩::_) _)); first | exact fun k => qt (fun _ U W => LR.geq U U) k) | ((with_reducible show(_ → PQl _ _ _ _ (⟨_, .binOp .eql _ _ _ _, _, _, _, _⟩::_) _)); first | exact fun k => qt (fun _ U W => eQ U U) k) | ((with_reducible show(_ → PQl _ _ _ _ (⟨_, .binOp .sub _ _ _ _, _, _, _, _⟩::_) _)); first | exact fun k => qt (fun _ U W => LR.subW U U) k) | ((with_reducible show(_ → PQl _ _ _ _ (⟨_, .binOp .neq _ _ _ _, _, _, _, _⟩::_) _)); first | exact fun k => qt (fun _ U W => nQ U U) k | exact fun k => qt (fun _ U W => LR.neqBool U5 U U) k) | ((with_reducible show(_ → PQl _ _ _ _ (⟨_, .binOp .gtr _ _ _ _, _, _, _, _⟩::_) _)); first | exact fun k => qt (fun _ U W => LR.gtr U U) k) | ((with_reducible show(_ → PQl _ _ _ _ (⟨_, .unOp .not _ _, _, _, _, _⟩::_) _)); first | exact fun k => qt (fun _ U W => LR.not U) k) | ((with_reducible show(_ → PQl _ _ _ _ (⟨_, .binOp .add _ _ _ _, _, _, _, _⟩::_) _)); first | exact fun k => qt (fun _ U W => LR.addW U U) k) | ((with_reducible show(_ → PQl _ _ _ _ (⟨_, .binOp .leq _ _ _ _, _, _, _, _⟩::_) _)); first | exact fun k => qt (fun _ U W => LR.leq U U) k))
  | ((with_reducible show(_ → PQe _ _ _ _ (⟨_, _, _, _, _, none⟩::_) _ _)); first | ((with_reducible show(_ → PQe _ _ _ _ (⟨_, .fieldAddr _ _ _, _, _, _, _⟩::_) _ _)); first | exact fun k => kp (fun _ U W => fR U5 rfl Z5 (by decide) rfl U) k | exact fun k => kp (fun _ U W => fE U5 rfl Z5 (by decide) rfl U) k | exact fun k => kp (fun _ U W => LR.fieldRp U5 rfl Z5 (by decide) rfl U) k) | ((with_reducible show(_ → PQe _ _ _ _ (⟨_, .move _, _, _, _, _⟩::_) _ _)); first | exact fun k => km k) | ((with_reducible show(_ → PQe _ _ _ _ (⟨_, .load _ _, _, _, _, _⟩::_) _ _)); first | exact fun k => kp (fun _ U W => lD I5 U (W rfl rfl) rfl) k | exact fun k => kp (fun _ U W => LR.loadEp I5 U rfl) k | exact fun k => kp (fun _ U W => lA (ps := [_, _, _, _, _, _, _]) I5 Z5 U (W rfl rfl) rfl rfl) k | exact fun k => kp (fun _ U W => lA (ps := [_, _]) I5 Z5 U (W rfl rfl) rfl rfl) k) | ((with_reducible show(_ → PQe _ _ _ _ (⟨_, .nilCheck _, _, _, _, _⟩::_) _ _)); first | exact fun k => kp (fun _ U W => LR.nilCheckRef U) k) | ((with_reducible show(_ → PQe _ _ _ _ (⟨_, .store _ _ _, _, _, _, _⟩::_) _ _)); first | exact fun k => ks (fun _ U W => sB (ns := [_, _, _, _, _, _, _, _, _]) Z5 U U rfl rfl (W rfl rfl) rfl rfl) k | exact fun k => ks (fun _ U W => sB (ns := [_, _, _]) Z5 U U rfl rfl (W rfl rfl) rfl rfl) k | exact fun k => ks (fun _ U W => sB (ns := [_, _]) Z5 U U rfl rfl (W rfl rfl) rfl rfl) k) | ((with_reducible show(_ → PQe _ _ _ _ (⟨_, .call ⟨.builtin .max, _, _⟩, _, _, _, _⟩::_) _ _)); first | exact fun k => kp (fun _ U W => LR.maxI U U) k) | ((with_reducible show(_ → PQe _ _ _ _ (⟨_, .assign _, _, _, _, _⟩::_) _ _)); first | exact fun k => kp (fun _ U W => aS U) k) | ((with_reducible show(_ → PQe _ _ _ _ (⟨_, .call ⟨.builtin .min, _, _⟩, _, _, _, _⟩::_) _ _)); first | exact fun k => kp (fun _ U W => LR.minI U U) k) | ((with_reducible show(_ → PQe _ _ _ _ (⟨_, .binOp .add _ _ _ _, _, _, _, _⟩::_) _ _)); first | exact fun k => kp (fun _ U W => LR.addW U U) k) | ((with_reducible show(_ → PQe _ _ _ _ (⟨_, .binOp .sub _ _ _ _, _, _, _, _⟩::_) _ _)); first | exact fun k => kp (fun _ U W => LR.subW U U) k))) : p := h k
end Go.Proofs
namespace Go.Ep
def zd(x y:DT):Bool:=decide (x.dev < y.dev)||(decide (x.dev=y.dev)&&decide (x.n < y.n))
def qJ(x y:RN):Bool:=decide (x.lo < y.lo)
def qc(x y:PT):Bool:=decide (x.dev < y.dev)
end Go.Ep
