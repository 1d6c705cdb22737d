/- Side texts. -/
import Derived.WalkSpells
import Derived.Test.YtehbkmakbdlgnaaGreatADs2
import Derived.Test.YtehbkmakbdlgnaaGreatADs3
import Derived.Test.YtehbkmakbdlgnaaGreatADs4
set_option linter.unusedVariables false
set_option linter.unusedSimpArgs false
namespace Go.Ep
open Go.RowKit
section
variable{P:Program}{ctx:Ctx}{ops:Array Oper}
theorem Jx{s0 S:PState}{fs:List Ft}{es:List Ef}{Qx:Exit->Act->World->Prop}(i3:Nat)(ph:Bool)(hi3:i3 < ops.size)(hok:∀ {i:Nat} {e:Ef},es[i]?=some e->∃ f,fs[i]?=some f/\okE f e=true)(F:DrawFacts ops fs)(hS0:jV s0 fs=true)(hlen:es.length=ops.size)
  (hY:∀ (i:Nat) (o:Oper) (f:Ft),i≠i3->ops[i]?=some o->fs[i]?=some f->∃ T e,es[i]?=some e/\InvE s0 es (fun j=>decide (j < i)) T/\Does P ctx ops o T f e) (hS:InvE s0 es (fun j=>decide (j < ops.size)) S)
  (hQ:ph=true->∀ a w,Rel ctx S a w->Qx .normal a w)
  (h3:ph=false->∀ (fuel:Nat) (listed:Array Bool) (s:PState) (a:Act) (w:World),listed.size=ops.size->listed.getD i3 false=false->(listed.setIfInBounds i3 true).toList.count false<=fuel->InvE s0 es (fun j=>listed.getD j false) s->yUa ops (fun j=>listed.getD j false)->yUa ops (fun j=>(listed.setIfInBounds i3 true).getD j false)->Rel ctx s a w->wpOp P ops Qx i3 (fun a' w'=>wpAny P .any ops Qx fuel (listed.setIfInBounds i3 true) a' w') a w):∀ (fuel:Nat) (listed:Array Bool) (s:PState) (a:Act) (w:World),listed.size=ops.size->listed.getD i3 false=ph->listed.toList.count false<=fuel->InvE s0 es (fun j=>listed.getD j false) s->yUa ops (fun j=>listed.getD j false)->Rel ctx s a w ->
   wpAny P .any ops Qx fuel listed a w:=by
 have hfs:∀ i,i < ops.size->∃ f,fs[i]?=some f:=fun i hi=>⟨fs[i]'(by rw[F.len];exact hi),List.getElem?_eq_getElem _⟩
 have okU:∀ {f:Ft} {e:Ef},okE f e=true->(∀ t,t∈e.U.map (·.1)->t∈f.ws)/\(∀ t,t∈e.V.map (·.1)->t∈f.wo)/\(∀ x∈e.U,x.2.named f.nm=true)/\(∀ x∈e.V,x.2.named f.no=true):=fun {f e} h=>by
  simp only[okE,Bool.and_eq_true,List.all_eq_true] at h;exact⟨fun t ht=>zS.1 (h.1.1.1 t ht),fun t ht=>zS.1 (h.1.1.2 t ht),h.1.2,h.2⟩
 have hall:∀ listed:Array Bool,listed.size=ops.size->Region.ready .any ops listed=[]->∀ i,i < ops.size->listed.getD i false=true:=by
  intro listed hsz hr i
  induction i using Nat.strongRecOn with
  | _ i ih=>
   intro hi
   cases hb:listed.getD i false with
   | true=>rfl
   | false=>
    have hlt:i < listed.size:=by omega
    have hmem:i∈Region.ready .any ops listed:=by
     refine vU.2 ⟨hi,?_,ops[i],Array.getElem?_eq_getElem hi,fun e he hbe=>?_⟩
     ·simp[Array.getD,hlt] at hb ⊢;exact hb
     ·have:=F.edge (Array.getElem?_eq_getElem hi) e he hbe;exact ih e.on this (by omega)
    rw[hr] at hmem
    cases hmem
 have hfin:∀ (listed:Array Bool) (s:PState) (a:Act) (w:World),listed.size=ops.size->listed.getD i3 false=ph->InvE s0 es (fun j=>listed.getD j false) s->Rel ctx s a w->Region.ready .any ops listed=[]->Qx .normal a w:=by
  intro listed s a w hsz hp3 hh hr hrdy;have ha:=hall listed hsz hrdy;have hph:ph=true:=by rw[<- hp3];exact ha i3 hi3
  have hlt:∀ {β:Type} {g:Ef->Option β} {k:Nat} {x:β},(es.map g)[k]?=some (some x)->k < ops.size:=fun {β g k x} hk=>by
   have:=(List.getElem?_eq_some_iff.1 hk).1;rw[List.length_map] at this;omega
  refine hQ hph a w (Sub.drop (s:=s) (t:=S) (by rw[hh.n,hS.n]) (fun i p hp=>?_) (fun id o ho=>?_) a w hr)
  ·rw[YQ] at hp ⊢;rw[hh.n,<- hS.n,hh.sl];rw[hS.sl] at hp;rw[<- hp]
   split
   ·exact wY fun j x hj=>by have:=hlt hj;simp only[Nat.zero_add,ha j this,this,decide_true]
   ·rfl
  ·rw[hh.ob];rw[hS.ob] at ho;rw[<- ho];exact wY fun j x hj=>by have:=hlt hj;simp only[Nat.zero_add,ha j this,this,decide_true]
 intro fuel
 induction fuel with
 | zero=>
  intro listed s a w hsz hp3 hc hh _ hr;have hrdy:Region.ready .any ops listed=[]:=by
   apply List.eq_nil_iff_forall_not_mem.2;intro i hi;obtain⟨h1,h2,_⟩:=vU.1 hi;have hlt:i < listed.size:=by omega
   have hm:false∈listed.toList:=by
    simp[Array.getD,hlt] at h2;rw[<- h2];simp
   have:=List.count_pos_iff.2 hm;omega
  exact⟨hrdy,hfin listed s a w hsz hp3 hh hr hrdy⟩
 | succ fuel ih=>
  intro listed s a w hsz hp3 hc hh hdn hr;refine⟨hfin listed s a w hsz hp3 hh hr,fun i hi=>?_⟩;obtain⟨h1,h2,o,ho,he⟩:=vU.1 hi;have hlt:i < listed.size:=by omega
  have hli:listed[i]=false:=by simpa[Array.getD,hlt] using h2
  have hi0:listed.getD i false=false:=by simp[Array.getD,hlt,hli]
  have hpr:=xOa F hdn ho he;have hgt0:∀ j,j≠i->(listed.setIfInBounds i true).getD j false=listed.getD j false:=fun j hj=>by
    simp[Array.getD_eq_getD_getElem?,Ne.symm hj]
  have hgi0:(listed.setIfInBounds i true).getD i false=true:=by simp[Array.getD,hlt]
  have hcs:(listed.setIfInBounds i true).toList.count false<=fuel:=by
   have:=VF (l:=listed.toList) (i:=i) (by simp[hlt,hli]);simp only[Array.toList_setIfInBounds];omega
  have hdn0:yUa ops (fun j=>(listed.setIfInBounds i true).getD j false):=fun j hj k hk=>by
   by_cases hki:k=i
   ·subst hki;exact hgi0
   ·show(listed.setIfInBounds i true).getD k false=true;rw[hgt0 k hki]
    by_cases hji:j=i
    ·subst hji;exact hpr k hk
    ·exact hdn j (show listed.getD j false=true by rw[<- hgt0 j hji];exact hj) k hk
  by_cases he3:i=i3
  ·subst he3;exact h3 (by rw[<- hp3,hi0]) fuel listed s a w hsz hi0 hcs hh hdn hdn0 hr
  obtain⟨f,hf⟩:=hfs i h1;obtain⟨T,e,hee,hT,y⟩:=hY i o f he3 ho hf;have hre:yb ops i=o.looksAt ops:=by simp[yb,ho]
  -- how another operation stands to this one
  have hbef:∀ {j:Nat} {g:Ft},j < i->fs[j]?=some g->wb g f (yb ops j) (yb ops i)=true->listed.getD j false=true:=fun {j g} hji hg hcl=>hpr j ((F.pair hji hg hf).2 hcl)
  have haft:∀ {j:Nat} {g:Ft},i < j->fs[j]?=some g->wb f g (yb ops i) (yb ops j)=true->listed.getD j false=false:=fun {j g} hij hg hcl=>by
   cases hb:listed.getD j false with
   | false=>rfl
   | true=>have:=F.ahead hdn hij hf hg hcl hb;rw[hi0] at this;cases this
  have same:∀ {β:Type} (wr:Ef->Option β) (c:Option β),(∀ j e' g,j < i->es[j]?=some e'->(wr e').isSome=true->fs[j]?=some g->okE g e'=true->wb g f (yb ops j) (yb ops i)=true) ->
    (∀ j e' g,i < j->es[j]?=some e'->(wr e').isSome=true->fs[j]?=some g->okE g e'=true->wb f g (yb ops i) (yb ops j)=true) ->
    jU (es.map wr) (fun j=>listed.getD j false) 0 c=jU (es.map wr) (fun j=>decide (j < i)) 0 c:=fun {β} wr c hb ha=>by
   refine wY fun j x hj=>?_
   rw[List.getElem?_map] at hj
   cases hej:es[j]? with
   | none=>rw[hej] at hj;cases hj
   | some e'=>
    rw[hej] at hj;simp only[Option.map_some,Option.some.injEq] at hj;obtain⟨g,hg,hk⟩:=hok hej;simp only[Nat.zero_add];rcases Nat.lt_trichotomy j i with hji | hji | hji
    ·rw[hbef hji hg (hb j e' g hji hej (by rw[hj];rfl) hg hk)];simp[hji]
    ·subst hji;rw[hi0];simp
    ·rw[haft hji hg (ha j e' g hji hej (by rw[hj];rfl) hg hk)];simp;omega
  have nm1:∀ {id j:Nat} {e':Ef} {g:Ft} {x:Nat×PV},fs[j]?=some g->okE g e'=true->x∈e'.U->x.2.has id=true->id∈g.nm:=fun {id j e' g x} _ hk hx hh=>PV.named_has ((okU hk).2.2.1 x hx) hh
  have nm2:∀ {id j:Nat} {e':Ef} {g:Ft} {x:Nat×Ob},fs[j]?=some g->okE g e'=true->x∈e'.V->x.2.has id=true->id∈g.no:=fun {id j e' g x} _ hk hx hh=>Ob.named_has ((okU hk).2.2.2 x hx) hh
  simp only[jV,List.all_eq_true,Bool.and_eq_true,Bool.or_eq_true,Bool.not_eq_true',bne_iff_ne,ne_eq,zS] at hS0;have hSf:=hS0 f (List.mem_of_getElem? hf);refine y.run (hh.n.trans hT.n.symm) (fun t ht=>?_) (fun id hid=>?_) (fun id hid=>?_) (fun al hal=>?_) ho hr fun a' w' hr'=>?_
  ·rw[hh.sl,hT.sl];rw[<- hre] at ht;exact same (fun e=>xt e.U t) _ (fun j e' g _ _ hw _ hk=>by
    have:=yG.2 ⟨t,(okU hk).1 t (Zx.1 hw),ht⟩;simp[wb,this]) (fun j e' g _ _ hw _ hk=>by
    have:=yG.2 ⟨t,ht,(okU hk).1 t (Zx.1 hw)⟩;simp[wb,this])
  ·rw[hh.ob,hT.ob];exact same (fun e=>look e.V id) _ (fun j e' g _ _ hw _ hk=>by
    have:=yG.2 ⟨id,(okU hk).2.1 id (Zy.1 hw),hid⟩;simp[wb,this]) (fun j e' g _ _ hw _ hk=>by
    have:=yG.2 ⟨id,hid,(okU hk).2.1 id (Zy.1 hw)⟩;simp[wb,this])
  ·refine xQa (fun x hx=>?_) (fun x hx=>?_)
   ·rcases hh.ms x hx with h3 | ⟨j,e',hEj,hej,hxe⟩
    ·exact(hSf.1 id hid).1 x h3
    ·cases hb:x.2.has id with
     | false=>rfl
     | true=>
      exfalso;obtain⟨g,hg,hk⟩:=hok hej;have hn:=nm1 hg hk hxe hb;rcases Nat.lt_trichotomy j i with hji | hji | hji
      ·have:=(F.pair hji hg hf).1;simp[UC,yG.2 ⟨id,hid,hn⟩] at this
      ·subst hji;rw[hi0] at hEj;cases hEj
      ·rw[haft hji hg (by simp[wb,yG.2 ⟨id,hid,hn⟩])] at hEj;cases hEj
   ·rcases hh.mo x hx with h3 | ⟨j,e',hEj,hej,hxe⟩
    ·exact(hSf.1 id hid).2 x h3
    ·obtain⟨g,hg,hk⟩:=hok hej
     constructor
     ·intro hid2;have hn:id∈g.wo:=(okU hk).2.1 id (List.mem_map.2 ⟨x,hxe,hid2⟩);rcases Nat.lt_trichotomy j i with hji | hji | hji
      ·have:=(F.pair hji hg hf).1;simp[UC,yG.2 ⟨id,hid,hn⟩] at this
      ·subst hji;rw[hi0] at hEj;cases hEj
      ·rw[haft hji hg (by simp[wb,yG.2 ⟨id,hid,hn⟩])] at hEj;cases hEj
     ·cases hb:x.2.has id with
      | false=>rfl
      | true=>
       exfalso;have hn:=nm2 hg hk hxe hb;rcases Nat.lt_trichotomy j i with hji | hji | hji
       ·have:=(F.pair hji hg hf).1;simp[UC,yG.2 ⟨id,hid,hn⟩] at this
       ·subst hji;rw[hi0] at hEj;cases hEj
       ·rw[haft hji hg (by simp[wb,yG.2 ⟨id,hid,hn⟩])] at hEj;cases hEj
  ·refine xPa (fun x hx hb=>?_) (fun x hx=>?_)
   ·rcases hh.ms x hx with h3 | ⟨j,e',hEj,hej,hxe⟩
    ·rcases(hSf.2 al hal).1 x h3 with h4 | h4
     ·rw[hb] at h4;cases h4
     ·exact h4
    ·obtain⟨g,hg,hk⟩:=hok hej;have hn:=nm1 hg hk hxe hb;rcases Nat.lt_trichotomy j i with hji | hji | hji
     ·have:=(F.pair hji hg hf).1;simp only[UC,Bool.or_eq_false_iff,List.any_eq_false] at this;have h5:=this.2 al hal;simp only[Bool.or_eq_true,Bool.and_eq_true,zS,Bool.not_eq_true',not_or,not_and,Bool.not_eq_false,List.all_eq_true] at h5;exact h5.2 hn _ ((okU hk).1 _ (List.mem_map.2 ⟨x,hxe,rfl⟩))
     ·subst hji;rw[hi0] at hEj;cases hEj
     ·have h6:(f.al.any fun a=>inL g.nm a.1)=true:=List.any_eq_true.2 ⟨al,hal,zS.2 hn⟩;rw[haft hji hg (by simp only[wb,h6,Bool.or_true,Bool.true_or])] at hEj;cases hEj
   ·rcases hh.mo x hx with h3 | ⟨j,e',hEj,hej,hxe⟩
    ·rcases(hSf.2 al hal).2 x h3 with h4 | h4
     ·exact .inl (zS.2 h4)
     ·exact .inr h4
    ·right
     cases hb:x.2.has al.1 with
     | false=>rfl
     | true=>
      exfalso;obtain⟨g,hg,hk⟩:=hok hej;have hn:=nm2 hg hk hxe hb;rcases Nat.lt_trichotomy j i with hji | hji | hji
      ·have:=(F.pair hji hg hf).1;simp only[UC,Bool.or_eq_false_iff,List.any_eq_false] at this;have h5:=this.2 al hal;simp only[Bool.or_eq_true,zS,not_or] at h5;exact h5.1 hn
      ·subst hji;rw[hi0] at hEj;cases hEj
      ·have h6:(f.al.any fun a=>inL g.no a.1)=true:=List.any_eq_true.2 ⟨al,hal,zS.2 hn⟩;rw[haft hji hg (by simp only[wb,h6,Bool.or_true])] at hEj;cases hEj
  ·have hgt:∀ j,j≠i->(listed.setIfInBounds i true).getD j false=listed.getD j false:=fun j hj=>by
    simp[Array.getD_eq_getD_getElem?,Ne.symm hj]
   have hgi:(listed.setIfInBounds i true).getD i false=true:=by simp[Array.getD,hlt]
   refine ih _ _ a' w' (by simpa using hsz) (by rw[hgt i3 (Ne.symm he3)];exact hp3) ?_ (hh.step hee hi0 hgi hgt (fun j e' hij hej hEj t ht ht2=>?_) (fun j e' hij hej hEj t ht ht2=>?_)) (fun j hj k hk=>?_) hr'
   ·have:=VF (l:=listed.toList) (i:=i) (by simp[hlt,hli]);simp only[Array.toList_setIfInBounds];omega
   ·obtain⟨g,hg,hk⟩:=hok hej;rw[haft hij hg (by simp[wb,yG.2 ⟨t,(okU y.1).1 t ht,(okU hk).1 t ht2⟩])] at hEj;cases hEj
   ·obtain⟨g,hg,hk⟩:=hok hej;rw[haft hij hg (by simp[wb,yG.2 ⟨t,(okU y.1).2.1 t ht,(okU hk).2.1 t ht2⟩])] at hEj;cases hEj
   ·by_cases hki:k=i
    ·subst hki;exact hgi
    ·show(listed.setIfInBounds i true).getD k false=true;rw[hgt k hki]
     by_cases hji:j=i
     ·subst hji;exact hpr k hk
     ·exact hdn j (show listed.getD j false=true by rw[<- hgt j hji];exact hj) k hk
theorem qp{β:Type}:∀ {l l':List (Option β)} {E:Nat->Bool} {b:Nat} {c:Option β},l.length=l'.length->(∀ j,E (b+j)=true->l[j]?=l'[j]?)->jU l E b c=jU l' E b c
 | [],[],_,_,_,_,_=>rfl
 | [],_::_,_,_,_,hl,_=>by cases hl
 | _::_,[],_,_,_,hl,_=>by cases hl
 | x::r,x'::r',E,b,c,hl,h=>by
  unfold jU;have h1:(bif E b then x.or c else c)=(bif E b then x'.or c else c):=by
   cases hb:E b with
   | false=>rfl
   | true=>have:=h 0 (by simpa using hb);simp at this;rw[this]
  rw[h1];exact qp (by simpa using hl) fun j hj=>by have:=h (j+1) (by rw[<- hj];congr 1;omega);simpa using this
theorem InvE.congr{s0 s:PState}{es es':List Ef}{E:Nat->Bool}(hl:es.length=es'.length)(he:∀ j,E j=true->es[j]?=es'[j]?)(h:InvE s0 es E s):InvE s0 es' E s:=by
 refine⟨h.n,fun t=>?_,fun id=>?_,fun x hx=>?_,fun x hx=>?_⟩
 ·rw[h.sl];exact qp (by simp[hl]) fun j hj=>by rw[Nat.zero_add] at hj;simp[he j hj]
 ·rw[h.ob];exact qp (by simp[hl]) fun j hj=>by rw[Nat.zero_add] at hj;simp[he j hj]
 ·rcases h.ms x hx with h1 | ⟨j,e,h1,h2,h3⟩
  ·exact .inl h1
  ·exact .inr ⟨j,e,h1,by rw[<- he j h1];exact h2,h3⟩
 ·rcases h.mo x hx with h1 | ⟨j,e,h1,h2,h3⟩
  ·exact .inl h1
  ·exact .inr ⟨j,e,h1,by rw[<- he j h1];exact h2,h3⟩
variable(P ctx ops) in
inductive RunH (i3:Nat):Nat->List Oper->List Ft->PState->List Ef->PState->Prop
 | nil {b:Nat} {s:PState}:RunH i3 b [] [] s [] s
 | cons {b:Nat} {o:Oper} {rest:List Oper} {f:Ft} {fs:List Ft} {s t:PState} {e:Ef} {es:List Ef} (y:b=i3\/Does P ctx ops o s f e) (hk:okE f e=true) (h:RunH i3 (b+1) rest fs (s.app e) es t):RunH i3 b (o::rest) (f::fs) s (e::es) t
theorem RunH.lens{i3 b:Nat}{l:List Oper}{fs:List Ft}{s t:PState}{es:List Ef}(h:RunH P ctx ops i3 b l fs s es t):es.length=l.length/\∀ (i:Nat) (e:Ef),es[i]?=some e->∃ f,fs[i]?=some f/\okE f e=true:=by
 induction h with
 | nil=>exact⟨rfl,fun i e h=>by simp at h⟩
 | cons _ hk _ ih=>
  refine⟨by simp[ih.1],fun i e h=>?_⟩
  cases i with
  | zero=>simp at h;subst h;exact⟨_,by simp,hk⟩
  | succ i=>obtain⟨f,h1,h2⟩:=ih.2 i e (by simpa using h);exact⟨f,by simpa using h1,h2⟩
theorem RunH.at_{i3:Nat}:∀ {rest:List Oper} {fs:List Ft} {s t s0:PState} {es pre all:List Ef} {b:Nat},RunH P ctx ops i3 b rest fs s es t->all=pre++es->pre.length=b->InvE s0 all (fun j=>decide (j < b)) s ->
  (∀ (i:Nat) (o:Oper) (f:Ft),b+i≠i3->rest[i]?=some o->fs[i]?=some f->∃ S e,all[b+i]?=some e/\InvE s0 all (fun j=>decide (j < b+i)) S/\Does P ctx ops o S f e)/\InvE s0 all (fun j=>decide (j < b+rest.length)) t:=by
 intro rest
 induction rest with
 | nil=>
  intro fs s t s0 es pre all b h _ _ hh
  cases h
  exact⟨by simp,by simpa using hh⟩
 | cons o rest ih=>
  intro fs s t s0 es pre all b h hall hb hh
  cases h with
  | @cons _ _ _ f fs _ _ e es y _ h=>
   have he:all[b]?=some e:=by subst hall;subst hb;simp
   have hst:InvE s0 all (fun j=>decide (j < b+1)) (s.app e):=hh.step he (by simp) (by simp) (fun j hj=>by
    have:(j < b+1)=(j < b):=by apply propext;omega
    simp only[this]) (fun j _ hj _ hE=>by simp at hE;omega) (fun j _ hj _ hE=>by simp at hE;omega)
   obtain⟨h1,h2⟩:=ih (b:=b+1) (pre:=pre++[e]) h (by simp[hall]) (by simp[hb]) hst;refine⟨fun i o' f' hne ho hf=>?_,by rw[List.length_cons,show b+(rest.length+1)=b+1+rest.length by omega];exact h2⟩
   cases i with
   | zero=>
    simp at ho hf;subst ho;subst hf;rcases y with y | y
    ·exact(hne (by simpa using y)).elim
    ·exact⟨s,e,he,hh,y⟩
   | succ i=>
    simp at ho hf;obtain⟨S,q,e1,e2,e3⟩:=h1 i o' f' (by omega) ho hf;exact⟨S,q,by rw[<- e1];congr 1;omega,by rw[show b+(i+1)=b+1+i by omega];exact e2,e3⟩
section
variable{s:PState}{o:Oper}{f:Ft}
theorem Does.stepP{p:PV}(hl:∀ s':PState,(∀ {x q},xC o x=true->s.ev x=some q->s'.ev x=some q)->(∀ {id ob},inL f.ro id=true->look s.objs id=some ob->look s'.objs id=some ob)->Local P ctx o s' (s'.putD o.dst p))
  (hg:Wd ops o s) (hk:okE f ⟨VM o.dst p,[]⟩=true):Does P ctx ops o s f ⟨VM o.dst p,[]⟩:=
 ⟨hk,.inl ⟨fun s' _ he ho _ _=>by rw[app_P];exact hl s' he fun hi=>ho (zS.1 hi),hg⟩⟩
theorem Does.stepN{p:PV}{id:Nat}{ob:Ob}(hl:∀ s':PState,(∀ {x q},xC o x=true->s.ev x=some q->s'.ev x=some q)->(∀ {id ob},inL f.ro id=true->look s.objs id=some ob->look s'.objs id=some ob)->s'.fresh id=true->Local P ctx o s' (s'.newO id ob p))
  (hfr:inL f.fr id=true) (hg:Wd ops o s) (hk:okE f ⟨[(id,p)],[(id,ob)]⟩=true):Does P ctx ops o s f ⟨[(id,p)],[(id,ob)]⟩:=
 ⟨hk,.inl ⟨fun s' _ he ho hf _=>hl s' he (fun hi=>ho (zS.1 hi)) (hf id (zS.1 hfr)),hg⟩⟩
theorem Does.stepS{id:Nat}{ob:Ob}(hl:∀ s':PState,(∀ {x q},xC o x=true->s.ev x=some q->s'.ev x=some q)->(∀ {id ob},inL f.ro id=true->look s.objs id=some ob->look s'.objs id=some ob)->Local P ctx o s' (s'.setO id ob))
  (hg:Wd ops o s) (hk:okE f ⟨[],[(id,ob)]⟩=true):Does P ctx ops o s f ⟨[],[(id,ob)]⟩:=
 ⟨hk,.inl ⟨fun s' _ he ho _ _=>hl s' he fun hi=>ho (zS.1 hi),hg⟩⟩
end
theorem PWc.regionX{Q:PQ}{s:PState}{id:Nat}{l:List Oper}(i3:Nat)(fs:List Ft)(es:Nat->List Ef)(t:Nat->PState)(e3:Nat->Ef)(hm:P.follows .mixedOrders=true)(hB:wIa l.toArray fs=true)(hS:jV s fs=true)(hi3:i3 < l.length)
  (hrun:∀ B,RunH P ctx l.toArray i3 0 l fs s (es B) (t B)) (hag:∀ j,j=i3\/i3∈((uy l)[j]?).getD []\/∀ B B',(es B)[j]?=(es B')[j]?) (he3:∀ B,(es B)[i3]?=some (e3 B))
  (hkey:∀ B j e',i3 < j->i3∉((uy l)[j]?).getD []->(es B)[j]?=some e'->(∀ t,t∈(e3 B).U.map (·.1)->t∉e'.U.map (·.1))/\(∀ t,t∈(e3 B).V.map (·.1)->t∉e'.V.map (·.1)))
  (h3:∀ (E:Nat->Bool) (s':PState) (a:Act) (w:World),InvE s (es 0) E s'->E i3=false->(∀ j,i3∈((uy l)[j]?).getD []->E j=false)->(∀ k∈((uy l)[i3]?).getD [],k=i3\/E k=true)->Rel ctx s' a w->∀ (K:Act->World->Prop) (Qx:Exit->Act->World->Prop),(∀ B a' w',Rel ctx (s'.app (e3 B)) a' w'->K a' w')->wpOp P l.toArray Qx i3 K a w)
  (hQ:∀ B,Q .normal (t B)):PWc P ctx (.region id l.toArray true) Q s:=by
 intro a w ⟨g,hr⟩;have F:=jW hB;have hat:=fun B=>(hrun B).at_ (all:=es B) (pre:=[]) (b:=0) (s0:=s) rfl rfl (InvE.zero fun j=>by simp)
 have hlen:∀ B,(es B).length=l.toArray.size:=fun B=>by simpa using (hrun B).lens.1
 have hY:∀ B (i:Nat) (o:Oper) (f:Ft),i≠i3->l.toArray[i]?=some o->fs[i]?=some f->∃ T e,(es B)[i]?=some e/\InvE s (es B) (fun j=>decide (j < i)) T/\Does P ctx l.toArray o T f e:=fun B i o f hne ho hf=>by
  obtain⟨S,e,e1,e2,e3⟩:=(hat B).1 i o f (by simpa using hne) (by simpa using ho) hf;exact⟨S,e,by simpa using e1,by simpa using e2,e3⟩
 refine wp_region_any hm ?_;refine Jx (es:=es 0) (s0:=s) (S:=t 0) i3 false (by simpa using hi3) (fun {i e} he=>(hrun 0).lens.2 i e he) F hS (hlen 0) (hY 0) (by simpa using (hat 0).2) (fun h=>by cases h) (fun _ fuel listed s' a' w' hsz hl3 hcnt hh hdn hdn' hr'=>?_) _ _ s a _ (by simp) (by simp[Array.getD]) ?_ ?_ ?_ ⟨g,hr.below (Below.refl _ w).drew⟩
 ·have hlt:i3 < listed.size:=by rw[hsz];simpa using hi3
  have hgt:∀ j,j≠i3->(listed.setIfInBounds i3 true).getD j false=listed.getD j false:=fun j hj=>by
   simp[Array.getD_eq_getD_getElem?,Ne.symm hj]
  have hgi:(listed.setIfInBounds i3 true).getD i3 false=true:=by simp[Array.getD,hlt]
  have hno:∀ j,i3∈((uy l)[j]?).getD []->listed.getD j false=false:=fun j hj=>by
   cases hb:listed.getD j false with
   | false=>rfl
   | true=>
    have h9:listed.getD i3 false=true:=hdn j hb i3 (by simpa using hj);rw[hl3] at h9;cases h9
  refine h3 (fun j=>listed.getD j false) s' a' w' hh hl3 hno (fun k hk=>?_) hr' _ _ fun B a'' w'' hr''=>?_
  ·by_cases hki:k=i3
   ·exact .inl hki
   ·right
    have:=hdn' i3 hgi k (by simpa using hk);show listed.getD k false=true;rw[<- hgt k hki];exact this
  ·have hhB:InvE s (es B) (fun j=>listed.getD j false) s':=hh.congr ((hlen 0).trans (hlen B).symm) fun j hj=>by
    have hj':listed.getD j false=true:=hj;rcases hag j with h | h | h
    ·subst h;rw[hl3] at hj';cases hj'
    ·rw[hno j h] at hj';cases hj'
    ·exact h 0 B
   refine Jx (es:=es B) (s0:=s) (S:=t B) i3 true (by simpa using hi3) (fun {i e} he=>(hrun B).lens.2 i e he) F hS (hlen B) (hY B) (by simpa using (hat B).2) (fun _ a w hr=>⟨_,hQ B,hr⟩) (fun h=>by cases h) fuel _ _ a'' w'' (by simpa using hsz) hgi hcnt ?_ hdn' hr'';refine hhB.step (he3 B) hl3 hgi hgt (fun j e' hij hej hEj=>?_) (fun j e' hij hej hEj=>?_)
   ·exact(hkey B j e' hij (fun hc=>by have h9:listed.getD j false=true:=hEj;rw[hno j hc] at h9;cases h9) hej).1
   ·exact(hkey B j e' hij (fun hc=>by have h9:listed.getD j false=true:=hEj;rw[hno j hc] at h9;cases h9) hej).2
 ·simp
 ·exact InvE.zero fun j=>by simp[Array.getD]
 ·intro j hj;simp[Array.getD] at hj
end
end Go.Ep
namespace Go.Ep
open Go.RowKit
theorem Shp.trans{x y z:DV}(h:Shp x y):Shp y z->Shp x z:=by
 induction h generalizing z with
 | eq x=>exact id
 | int k a b=>intro h2;cases h2 with
  | eq=>exact .int k a b
  | int _ _ c=>exact .int k a c
 | str a b=>intro h2;cases h2 with
  | eq=>exact .str a b
  | str _ c=>exact .str a c
 | sl l l' hl hk h ih=>
  intro h2
  cases h2 with
  | eq=>exact .sl l l' hl hk h
  | sl _ l2 hl2 hk2 h2=>
   refine .sl l l2 (hl.trans hl2) (fun i cs cs2 h1 h3=>?_) (fun i j cs cs2 x x2 h1 h3 h4 h5=>?_)
   ·have hi:i < l'.length:=by have:=(List.getElem?_eq_some_iff.1 h1).1;omega
    exact(hk i cs _ h1 (List.getElem?_eq_getElem hi)).trans (hk2 i _ cs2 (List.getElem?_eq_getElem hi) h3)
   ·have hi:i < l'.length:=by have:=(List.getElem?_eq_some_iff.1 h1).1;omega
    have hj:j < l'[i].length:=by rw[<- hk i cs _ h1 (List.getElem?_eq_getElem hi)];exact(List.getElem?_eq_some_iff.1 h4).1
    exact ih i j cs _ x _ h1 (List.getElem?_eq_getElem hi) h4 (List.getElem?_eq_getElem hj) (h2 i j _ cs2 _ x2 (List.getElem?_eq_getElem hi) h3 (List.getElem?_eq_getElem hj) h5)
structure Spoils(w w':World)(b o:Nat)(v v':Value):Prop where
 size:w'.heap.size=w.heap.size
 other:∀ k,k≠b->w'.heap[k]?=w.heap[k]?
 kept:∀ cur T,w.heap[b]?=some (.cells cur T (0,0))->∃ cur',w'.heap[b]?=some (.cells cur' T (0,0))
 cell:w.cell? ⟨b,o,none⟩=some v
 cell':w'.cell? ⟨b,o,none⟩=some v'
 rest:∀ o',o'≠o->w'.cell? ⟨b,o',none⟩=w.cell? ⟨b,o',none⟩
 kind:(∃ k m n,v=.int k m/\v'=.int k n)\/∃ m n,v=.string m/\v'=.string n
theorem Spoils.at_{w w':World}{b o:Nat}{v v':Value}(h:Spoils w w' b o v v')(b' o':Nat):w'.cell? ⟨b',o',none⟩=if b'=b/\o'=o then some v' else w.cell? ⟨b',o',none⟩:=by
 by_cases hb:b'=b
 ·subst hb
  by_cases ho:o'=o
  ·subst ho;rw[if_pos ⟨rfl,rfl⟩];exact h.cell'
  ·rw[if_neg (fun hh=>ho hh.2)];exact h.rest o' ho
 ·rw[if_neg (fun hh=>hb hh.1)];exact World.cell?_of_block (h.other b' hb)
theorem Spoils.one{w w':World}{b o:Nat}{v v':Value}(h:Spoils w w' b o v v'){S:Nat->Prop}{x:DV}(hd:DRd0 w true S x v):∃ x',Shp x x'/\DRd0 w' true S x' v':=by
 rcases h.kind with⟨k,m,n,rfl,rfl⟩ | ⟨m,n,rfl,rfl⟩
 ·cases hd with
  | v _ _=>exact⟨_,.int k m n,.v _ rfl⟩
 ·cases hd with
  | v _ _=>exact⟨_,.str m n,.v _ rfl⟩
theorem Spoils.data{w w':World}{b o:Nat}{v v':Value}(h:Spoils w w' b o v v'){S:Nat->Prop}{x:DV}{u:Value}(hd:DRd0 w true S x u):∃ x',Shp x x'/\DRd0 w' true S x' u:=by
 induction hd with
 | v x hx=>exact⟨_,.eq _,.v x hx⟩
 | nil a cap hc hn=>exact⟨_,.eq _,.nil a cap hc hn⟩
 | sl l b' off cap k c hl hcap hs hb hz hkk hc hr ih=>
  let c':Nat->Nat->Value:=fun i j=>if b'=b/\off+(i*k+j)=o then v' else c i j
  have key:∀ (i:Nat) (cs:List DV) (j:Nat) (x:DV),l[i]?=some cs->cs[j]?=some x->∃ x',Shp x x'/\DRd0 w' true S x' (c' i j):=by
   intro i cs j x hi hj;show ∃ x',Shp x x'/\DRd0 w' true S x' (if b'=b/\off+(i*k+j)=o then v' else c i j)
   by_cases e:b'=b/\off+(i*k+j)=o
   ·rw[if_pos e];have hlt:i < l.length:=(List.getElem?_eq_some_iff.1 hi).1;have hjk:j < k:=by rw[<- hkk i cs hi];exact(List.getElem?_eq_some_iff.1 hj).1
    have h1:=hc i j hlt hjk;obtain⟨e1,e2⟩:=e;subst e1;rw[e2,h.cell] at h1
    cases h1
    exact h.one (hr i cs j x hi hj)
   ·rw[if_neg e];exact ih i cs j x hi hj
  let F:Nat->Nat->DV->DV:=fun i j x=>Classical.epsilon fun x'=>Shp x x'/\DRd0 w' true S x' (c' i j)
  let l':List (List DV):=l.mapIdx fun i cs=>cs.mapIdx fun j x=>F i j x
  have hg:∀ (i:Nat) (cs':List DV),l'[i]?=some cs'->∃ cs,l[i]?=some cs/\cs'=cs.mapIdx fun j x=>F i j x:=by
   intro i cs' hi;simp only[l',List.getElem?_mapIdx] at hi
   cases hh:l[i]? with
   | none=>rw[hh] at hi;cases hi
   | some cs=>rw[hh] at hi;simp at hi;exact⟨cs,rfl,hi.symm⟩
  have hF:∀ (i:Nat) (cs:List DV) (j:Nat) (x x':DV),l[i]?=some cs->cs[j]?=some x->(cs.mapIdx fun j x=>F i j x)[j]?=some x'->Shp x x'/\DRd0 w' true S x' (c' i j):=by
   intro i cs j x x' hi hj hx;rw[List.getElem?_mapIdx,hj] at hx;simp only[Option.map_some,Option.some.injEq] at hx;subst hx;have hk:=key i cs j x hi hj;exact Classical.epsilon_spec (p:=fun x'=>Shp x x'/\DRd0 w' true S x' (c' i j)) hk
  have hll:l'.length=l.length:=by simp[l']
  refine⟨.sl l',.sl l l' hll.symm (fun i cs cs' h1 h2=>?_) (fun i j cs cs' x x' h1 h2 h3 h4=>?_),?_⟩
  ·obtain⟨cs0,h3,rfl⟩:=hg i cs' h2;rw[h1] at h3;cases h3;simp
  ·obtain⟨cs0,h5,rfl⟩:=hg i cs' h2;rw[h1] at h5;cases h5;exact(hF i cs j x x' h1 h3 h4).1
  ·rw[<- hll];refine .sl l' b' off cap k c' (by omega) hcap hs (by rw[h.size];exact hb) (fun _=>?_) (fun i cs' hi=>?_) (fun i j hi hj=>?_) (fun i cs' j x' hi hx=>?_)
   ·obtain⟨cur,T,hh⟩:=hz rfl
    by_cases e:b'=b
    ·subst e;obtain⟨cur',hh'⟩:=h.kept cur T hh;exact⟨cur',T,hh'⟩
    ·exact⟨cur,T,by rw[h.other b' e];exact hh⟩
   ·obtain⟨cs0,h3,rfl⟩:=hg i cs' hi;simp[hkk i cs0 h3]
   ·rw[h.at_];show _=some (if b'=b/\off+(i*k+j)=o then v' else c i j)
    by_cases e:b'=b/\off+(i*k+j)=o
    ·rw[if_pos e,if_pos e]
    ·rw[if_neg e,if_neg e];exact hc i j (by omega) hj
   ·obtain⟨cs0,h3,rfl⟩:=hg i cs' hi;rw[List.getElem?_mapIdx] at hx
    cases hx0:cs0[j]? with
    | none=>rw[hx0] at hx;cases hx
    | some x0=>
     exact(hF i cs0 j x0 x' h3 hx0 (by rw[List.getElem?_mapIdx];exact hx)).2
def DV.spSl : DV->Bool
 | .sp _ (.sl _)=>true
 | _=>false
def DV.spOK : DV->Bool
 | .v _=>true
 | .sp _ _=>true
 | .sl l=>l.all fun cs=>cs.all DV.spSl
 | _=>false
def PV.spOK : PV->Bool
 | .d x=>x.spOK
 | .sq _ _=>true
 | .ref _ _=>true
 | .row _ _=>true
 | .rp _ _ _ _=>true
 | .junk=>true
 | .und=>true
 | _=>false
def Ob.spOK : Ob->Bool
 | .cells _ cs=>cs.all PV.spOK
 | .row _ _ l=>l.all fun cs=>cs.all DV.spOK
 | _=>false
theorem Spoils.dv{w w':World}{b o:Nat}{v v':Value}(h:Spoils w w' b o v v'){S:Nat->Prop}{x:DV}{u:Value}(hx:x.spOK=true)(hd:DRd w S x u):DRd w' S x u:=by
 cases hd with
 | v _ h1=>exact .v _ h1
 | sp N x x' u hs h0=>obtain⟨x2,h2,h3⟩:=h.data h0;exact .sp N x x2 u (hs.trans h2) h3
 | nil a cap hc hn=>exact .nil a cap hc hn
 | sl l b' off cap k c hl hcap hS hb hkk hc hr=>
  have hsp:∀ (i:Nat) (cs:List DV) (j:Nat) (y:DV),l[i]?=some cs->cs[j]?=some y->∃ N l2,y=.sp N (.sl l2):=fun i cs j y hi hj=>by
   have h1:=List.all_eq_true.1 hx cs (List.mem_of_getElem? hi);have h2:=List.all_eq_true.1 h1 y (List.mem_of_getElem? hj);unfold DV.spSl at h2
   split at h2
   ·exact⟨_,_,rfl⟩
   ·cases h2
  have hsl:∀ (i:Nat) (cs:List DV) (j:Nat) (y:DV),l[i]?=some cs->cs[j]?=some y->∃ a n q,c i j=.slice a n q:=fun i cs j y hi hj=>by
   obtain⟨N,l2,rfl⟩:=hsp i cs j y hi hj;have:=hr i cs j _ hi hj
   generalize c i j=z at this
   cases this with
   | sp _ _ x' _ hs h0=>
    have:∃ l3,x'=.sl l3:=by
     cases hs with
     | eq=>exact⟨_,rfl⟩
     | sl _ l3=>exact⟨l3,rfl⟩
    obtain⟨l3,rfl⟩:=this
    cases h0 with
    | nil a cap=>exact⟨_,_,_,rfl⟩
    | sl=>exact⟨_,_,_,rfl⟩
  refine .sl l b' off cap k c hl hcap hS (by rw[h.size];exact hb) hkk (fun i j hi hj=>?_) (fun i cs j y hi hj=>?_)
  ·rw[h.at_]
   by_cases e:b'=b/\off+(i*k+j)=o
   ·exfalso;have hi':=List.getElem?_eq_getElem hi;have hj':j < l[i].length:=by rw[hkk i _ hi'];exact hj
    obtain⟨a,n,q,h5⟩:=hsl i _ j _ hi' (List.getElem?_eq_getElem hj');have h6:=hc i j hi hj;obtain⟨e1,e2⟩:=e;subst e1;rw[e2,h.cell,h5] at h6
    cases h6
    rcases h.kind with⟨_,_,_,h7,_⟩ | ⟨_,_,h7,_⟩ <;> cases h7
   ·rw[if_neg e];exact hc i j hi hj
  ·obtain⟨N,l2,rfl⟩:=hsp i cs j y hi hj;have:=hr i cs j _ hi hj
   generalize c i j=z at this
   cases this with
   | sp _ _ x' _ hs h0=>obtain⟨x2,h2,h3⟩:=h.data h0;exact .sp N _ x2 _ (hs.trans h2) h3
 | _=>cases hx
theorem Spoils.pv{w w':World}{b o:Nat}{v v':Value}(h:Spoils w w' b o v v'){g:zb}{S:Nat->Prop}{p:PV}{u:Value}(hp:p.spOK=true)(hd:Rd w g S p u):Rd w' g S p u:=by
 cases hd with
 | junk=>exact .junk _
 | und=>exact .und
 | d hd=>exact .d (h.dv hp hd)
 | ref id off blk n h=>exact .ref id off blk n h
 | row id n blk cap h=>exact .row id n blk cap h
 | rowNil id h=>exact .rowNil id h
 | rp id i off k blk cap h=>exact .rp id i off k blk cap h
 | sq cs b1 off o1 c hS hb hz hc hr=>
  refine .sq cs b1 off o1 (fun j=>if b1=b/\off+j=o then v' else c j) hS (by rw[h.size];exact hb) ?_ (fun j hj=>?_) (fun j x hx=>?_)
  ·obtain⟨cur,T,hh⟩:=hz
   by_cases e:b1=b
   ·subst e;obtain⟨cur',hh'⟩:=h.kept cur T hh;exact⟨cur',T,hh'⟩
   ·exact⟨cur,T,by rw[h.other b1 e];exact hh⟩
  ·rw[h.at_]
   by_cases e:b1=b/\off+j=o
   ·rw[if_pos e];simp only[if_pos e]
   ·rw[if_neg e];simp only[if_neg e];exact hc j hj
  ·obtain⟨x',h1,h2⟩:=hr j x hx
   by_cases e:b1=b/\off+j=o
   ·simp only[if_pos e];have hcj:=hc j (List.getElem?_eq_some_iff.1 hx).1;obtain⟨e1,e2⟩:=e;subst e1;rw[e2,h.cell] at hcj
    cases hcj
    obtain⟨x2,h3,h4⟩:=h.one h2;exact⟨x2,h1.trans h3,h4⟩
   ·simp only[if_neg e];obtain⟨x2,h3,h4⟩:=h.data h2;exact⟨x2,h1.trans h3,h4⟩
 | _=>cases hp
def PState.spOK(s:PState):Bool:=s.sl.all (fun x=>x.2.spOK)&&s.objs.all (fun x=>x.2.spOK)
theorem Shp.slE{l:List (List DV)}{x':DV}(h:Shp (.sl l) x'):∃ l',x'=.sl l'/\l.length=l'.length/\(∀ (i:Nat) (cs cs':List DV),l[i]?=some cs->l'[i]?=some cs'->cs.length=cs'.length) /\
  ∀ (i j:Nat) (cs cs':List DV) (x x':DV),l[i]?=some cs->l'[i]?=some cs'->cs[j]?=some x->cs'[j]?=some x'->Shp x x':=by
 cases h with
 | eq=>exact⟨l,rfl,rfl,fun i cs cs' h1 h2=>by rw[h1] at h2;cases h2;rfl,fun i j cs cs' x x' h1 h2 h3 h4=>by rw[h1] at h2;cases h2;rw[h3] at h4;cases h4;exact .eq _⟩
 | sl _ l' hl hk h=>exact⟨l',rfl,hl,hk,h⟩
section
variable{P:Program}{ctx:Ctx}{Q:PQ}{s:PState}
variable{dst:Option Tmp}{ty:TypeId}{pos:String}{after:Array Edge}{gd:Option (Nat×Bool)}
theorem LR.idxSp{x ix:Operand}{N:Nat->Prop}{l:List (List DV)}{ki:IntKind}{i:Int}{n k:Nat}{cs:List DV}{t e:TypeId}(hu:P.underlying t=some (.slice e))(hs:∀ w,(sizeOf e).run P w=.ok k w)
  (hx:s.ev x=some (.d (.sp N (.sl l)))) (hix:s.ev ix=some (.d (.v (.int ki i)))) (hi:i=n) (hn:l[n]?=some cs) (hk:cs.length=k) :
  Local P ctx ⟨dst,.indexAddr t x ix,ty,pos,after,gd⟩ s (s.putD dst (.sq cs 0)):=
 zG (o:=⟨dst,.indexAddr t x ix,ty,pos,after,gd⟩) fun a w g hg=>by
  have h:=hg.ev hx
  generalize hv:a.eval x=v at h
  cases h with
  | d h=>
   cases h with
   | sp _ _ x' _ hsh h0=>
    obtain⟨l',rfl,hll,hlk,hle⟩:=hsh.slE;have hlt:n < l.length:=(List.getElem?_eq_some_iff.1 hn).1
    cases h0 with
    | nil=>have h9:l.length=0:=hll;omega
    | sl _ b off cap k' c hl hcap hS hb hz hkk hc hr=>
     have hlt':n < l'.length:=by omega
     have hcs':=List.getElem?_eq_getElem hlt';have hk':k'=k:=by rw[<- hkk n _ hcs',<- hlk n cs _ hn hcs',hk]
     subst hk';refine⟨.pointer (some ⟨b,off+n*k'+0,none⟩),?_,.sq cs b (off+n*k') 0 (c n) hS.1 hb (hz rfl) ?_ ?_⟩
     ·simp[execOp,hv,wq hg hix,uu hu hs b off l'.length cap ki i n hi hlt',Result.andThen]
     ·intro j hj;rw[Nat.add_assoc];exact hc n j hlt' (by omega)
     ·intro j x hx;have hj:j < l'[n].length:=by rw[<- hlk n cs _ hn hcs'];exact(List.getElem?_eq_some_iff.1 hx).1
      exact⟨_,hle n j cs _ x _ hn hcs' hx (List.getElem?_eq_getElem hj),(hr n _ j _ hcs' (List.getElem?_eq_getElem hj)).mono fun b hb=>hb.1⟩
theorem LR.fieldSq{x:Operand}{st:TypeId}{fs:Array Field}{fi off m:Nat}{f:Field}(hu:P.underlying st=some (.struct fs))(hf:fs[fi]?=some f)(hs:∀ w,(sizeOf f.type).run P w=.ok m w)(hm:m≠0)(ho:f.offset=off)
  {cs:List DV} {o:Nat} (hx:s.ev x=some (.sq cs o)):Local P ctx ⟨dst,.fieldAddr st x fi,ty,pos,after,gd⟩ s (s.putD dst (.sq cs (o+off))):=
 zG (o:=⟨dst,.fieldAddr st x fi,ty,pos,after,gd⟩) fun a w g hg=>by
  have h:=hg.ev hx
  generalize hv:a.eval x=v at h
  cases h with
  | sq _ b ofs _ c hS hb hz hc hr=>
   refine⟨.pointer (some ⟨b,ofs+(o+off),none⟩),?_,.sq cs b ofs _ c hS hb hz hc hr⟩;simp[execOp,hv,YN hu hf hs hm,Addr.add_lit,ho,Result.andThen,Nat.add_assoc]
theorem LR.loadSq{x:Operand}{o:Nat}{T:TypeId}{cs:List DV}{y:DV}(ha:∀ w,(isAgg T).run P w=.ok false w)(hx:s.ev x=some (.sq cs o))(hy:cs[o]?=some y) :
  Local P ctx ⟨dst,.load T x,ty,pos,after,gd⟩ s (s.putD dst (.d (.sp (fun _=>True) y))):=
 zG (o:=⟨dst,.load T x,ty,pos,after,gd⟩) fun a w g hg=>by
  have h:=hg.ev hx
  generalize hv:a.eval x=v at h
  cases h with
  | sq _ b off _ c hS hb hz hc hr=>
   have hlt:o < cs.length:=(List.getElem?_eq_some_iff.1 hy).1;obtain⟨x',h1,h2⟩:=hr o y hy;refine⟨c o,?_,.d (.sp _ y x' _ h1 (h2.mono fun b hb=>⟨hb,trivial⟩))⟩;have:=vr (P:=P) ha (w:=w) (ad:=⟨b,off+o,none⟩) (u:=c o) (hc o hlt);simp[execOp,hv,Instr.loadAt,Instr.sureAddr,this,Result.andThen]
theorem LR.lenSp{x:Operand}{N:Nat->Prop}{l:List (List DV)}{t e:TypeId}(hu:P.underlying t=some (.slice e))(hx:s.ev x=some (.d (.sp N (.sl l)))) :
  Local P ctx ⟨dst,.call ⟨.builtin .len,#[x],#[t]⟩,ty,pos,after,gd⟩ s (s.putD dst (.d (.v (.int .i64 l.length)))):=
 zG (o:=⟨dst,.call ⟨.builtin .len,#[x],#[t]⟩,ty,pos,after,gd⟩) fun a w g hg=>by
  have h:=hg.ev hx;have hE:P.underlying t=some (.slice (P.elem t)):=by simp[Program.elem,hu]
  refine⟨.int .i64 l.length,?_,.d (.v _ rfl)⟩
  cases h with
  | d h=>
   generalize hv:a.eval x=v at h
   cases h with
   | sp _ _ x' _ hsh h0=>
    obtain⟨l',rfl,hll,_,_⟩:=hsh.slE;rw[hll]
    cases h0 <;> simp[execOp,resolve,invoke,builtin,hv,run_len_slice,hE,Result.andThen,goInt]
theorem LR.addSp{x y:Operand}{N:Nat->Prop}{k:IntKind}{m n:Int}{t t':TypeId}(hx:s.ev x=some (.d (.sp N (.v (.int k m)))))(hy:s.ev y=some (.d (.v (.int k n)))) :
  Local P ctx ⟨dst,.binOp .add t x y t',ty,pos,after,gd⟩ s (s.putD dst (.d (.sp N (.v (.int k m))))):=
 zG (o:=⟨dst,.binOp .add t x y t',ty,pos,after,gd⟩) fun a w g hg=>by
  have h:=hg.ev hx
  generalize hv:a.eval x=v at h
  cases h with
  | d h=>
   cases h with
   | sp _ _ x' _ hsh h0=>
    have:∃ z,x'=.v (.int k z):=by cases hsh with | eq=>exact⟨_,rfl⟩ | int _ _ z=>exact⟨z,rfl⟩
    obtain⟨z,rfl⟩:=this
    cases h0 with
    | v _ _=>
     refine⟨.int k (k.wrap (z+n)),by simp[execOp,hv,wq hg hy,eqGuard_at_int,binOp_add,Op.intArith,Result.andThen],.d (.sp _ _ (.v (.int k (k.wrap (z+n)))) _ (.int k m _) (.v _ rfl))⟩
theorem jZ{x y:Operand}{T:TypeId}{cs:List DV}{o:Nat}(hSK:∀ b,ctx.S b->ctx.K b)(hok:s.spOK=true)(hs:∀ w,(sizeOf T).run P w=.ok 1 w)(hx:s.ev x=some (.sq cs o)){z:DV}(hz0:cs[o]?=some z)
  (hy:∀ a w g,RelG ctx g s a w->∀ z' u,Shp z z'->DRd0 w true (zk ctx g s.objs) z' u->(a.eval y).cells=[a.eval y].toArray/\(a.eval y).oneCell'=true/\((∃ k m n,u=.int k m/\a.eval y=.int k n)\/∃ m n,u=.string m/\a.eval y=.string n)) :
  Local P ctx ⟨none,.store T x y,ty,pos,after,gd⟩ s s:=by
 refine Zv (o:=⟨none,.store T x y,ty,pos,after,gd⟩) fun a w g hg=>?_
 have h:=hg.ev hx
 generalize hv:a.eval x=v at h
 cases h with
 | sq _ b off _ c hS hb hz hc hr=>
  obtain⟨cur,T0,hh⟩:=hz;have hlt:o < cs.length:=(List.getElem?_eq_some_iff.1 hz0).1;obtain⟨z',hz1,hz2⟩:=hr o z hz0;obtain⟨hcell,hone,hkind⟩:=hy a w g hg z' _ hz1 hz2;have hcur:cur.toList[off+o]?=some (c o):=by
   have:=hc o hlt;rw[zU (us:=cur.toList) (T:=T0) (by simpa using hh)] at this;exact this
  have hl2:off+o < cur.toList.length:=(List.getElem?_eq_some_iff.1 hcur).1;have hst:=XA (P:=P) (T:=T) (o:=off+o) (vs:=[a.eval y]) (cur:=cur.toList) (T0:=T0) (blk:=b) (w:=w) (by simpa using hh) hcell hs (by simp;simp at hl2;omega) (by simpa using hone)
  let new:Array Value:=(cur.toList.take (off+o)++[a.eval y]++cur.toList.drop (off+o+1)).toArray
  have hnew:(w.setRow b new).heap[b]?=some (.cells new T0 (0,0)):=vC hh;have hother:∀ k,k≠b->(w.setRow b new).heap[k]?=w.heap[k]?:=fun k hne=>setRow_other w b k _ hne
  have hget:∀ t,new.toList[t]?=if t=off+o then some (a.eval y) else cur.toList[t]?:=fun t=>by
   have l1:(cur.toList.take (off+o)).length=off+o:=by simp;simp at hl2;omega
   simp only[new,List.append_assoc,List.getElem?_append,l1]
   by_cases h1:t < off+o
   ·rw[if_pos h1,if_neg (by omega),List.getElem?_take,if_pos h1]
   ·rw[if_neg h1]
    by_cases h2:t=off+o
    ·subst h2;simp
    ·rw[if_neg h2,if_neg (by simp;omega),List.getElem?_drop]
     congr 1
     simp;omega
  have sp:Spoils w (w.setRow b new) b (off+o) (c o) (a.eval y):=by
   refine⟨by simp,hother,fun cur1 T1 h1=>?_,hc o hlt,?_,fun o' ho'=>?_,hkind⟩
   ·rw[hh] at h1;cases h1;exact⟨new,hnew⟩
   ·rw[zU (us:=new.toList) (T:=T0) (by simpa using hnew),hget,if_pos rfl]
   ·rw[zU (us:=new.toList) (T:=T0) (by simpa using hnew),zU (us:=cur.toList) (T:=T0) (by simpa using hh),hget,if_neg ho']
  have hok':(∀ x∈s.sl,x.2.spOK=true)/\∀ x∈s.objs,x.2.spOK=true:=by
   simpa[PState.spOK,List.all_eq_true] using hok
  refine⟨w.setRow b new,by simp[execOp,hv,Instr.storeAt,Instr.sureAddr,hst,Result.andThen,new],g,?_⟩;refine⟨hg.defers,hg.size,fun i p hp=>sp.pv (hok'.1 _ (Wy (xL hp))) (hg.slots i p hp),fun id ob hob=>?_,hg.inj,fun id ob b' n hob hgi=>?_,hg.os,hg.tape,hg.output,by rw[sp.size];exact hg.grows,fun k hk hnk=>?_⟩
  ·have hobs:=hok'.2 _ (xi hob);have hrd:=hg.objs id ob hob
   cases hrd with
   | cells T1 cs1 blk n us hgi hh1 hl1 hr1 h11=>
    have hne:blk≠b:=fun e=>by subst e;exact hS.2 id _ n hob hgi
    refine .cells T1 cs1 blk n us hgi (by rw[hother blk hne];exact hh1) hl1 (fun i p u hp hu=>?_) h11;simp only[Ob.spOK,List.all_eq_true] at hobs;exact sp.pv (hobs p (List.mem_of_getElem? hp)) (hr1 i p u hp hu)
   | rowNil T1 k1 h=>exact .rowNil T1 k1 h
   | row T1 k1 l1 blk cap cur1 hgi hh1 hlc1 hcap1 hcs1 hk1 hr1=>
    have hne:blk≠b:=fun e=>by subst e;exact hS.2 id _ cap hob hgi
    refine .row T1 k1 l1 blk cap cur1 hgi (by rw[hother blk hne];exact hh1) hlc1 hcap1 hcs1 hk1 fun i cs j x hi hx=>?_
    obtain⟨u,hu,hd⟩:=hr1 i cs j x hi hx;simp only[Ob.spOK,List.all_eq_true] at hobs;exact⟨u,hu,sp.dv (hobs cs (List.mem_of_getElem? hi) x (List.mem_of_getElem? hx)) hd⟩
   | _=>simp[Ob.spOK] at hobs
  ·have:=hg.own id ob b' n hob hgi;exact⟨by rw[sp.size];exact this.1,this.2⟩
  ·by_cases e:k=b
   ·subst e;rcases hS.1 with h1 | h1
    ·exact(hnk (hSK _ h1)).elim
    ·omega
   ·rw[hother k e];exact hg.keep k hk hnk
theorem LR.storeSpI{x y:Operand}{T:TypeId}{cs:List DV}{o:Nat}{N:Nat->Prop}{k:IntKind}{m n:Int}(hSK:∀ b,ctx.S b->ctx.K b)(hok:s.spOK=true)(hs:∀ w,(sizeOf T).run P w=.ok 1 w)(hx:s.ev x=some (.sq cs o))(hz0:cs[o]?=some (.v (.int k m)))
  (hy:s.ev y=some (.d (.sp N (.v (.int k n))))):Local P ctx ⟨none,.store T x y,ty,pos,after,gd⟩ s s:=
 jZ hSK hok hs hx hz0 fun a w g hg z' u h1 h2=>by
  have hu:∃ m',u=.int k m':=by
   cases h1 with
   | eq=>cases h2 with | v _ _=>exact⟨_,rfl⟩
   | int _ _ b=>cases h2 with | v _ _=>exact⟨_,rfl⟩
  obtain⟨m',rfl⟩:=hu;have h:=hg.ev hy
  generalize a.eval y=v at h
  cases h with
  | d h=>
   cases h with
   | sp _ _ x' _ hsh h0=>
    have hv:∃ n',v=.int k n':=by
     cases hsh with
     | eq=>cases h0 with | v _ _=>exact⟨_,rfl⟩
     | int _ _ b=>cases h0 with | v _ _=>exact⟨_,rfl⟩
    obtain⟨n',rfl⟩:=hv;exact⟨rfl,rfl,.inl ⟨k,m',n',rfl,rfl⟩⟩
theorem LR.storeSpS{x y:Operand}{T:TypeId}{cs:List DV}{o:Nat}{m n:ByteArray}(hSK:∀ b,ctx.S b->ctx.K b)(hok:s.spOK=true)(hs:∀ w,(sizeOf T).run P w=.ok 1 w)(hx:s.ev x=some (.sq cs o))(hz0:cs[o]?=some (.v (.string m)))
  (hy:s.ev y=some (.d (.v (.string n)))):Local P ctx ⟨none,.store T x y,ty,pos,after,gd⟩ s s:=
 jZ hSK hok hs hx hz0 fun a w g hg z' u h1 h2=>by
  have hu:∃ m',u=.string m':=by
   cases h1 with
   | eq=>cases h2 with | v _ _=>exact⟨_,rfl⟩
   | str _ b=>cases h2 with | v _ _=>exact⟨_,rfl⟩
  obtain⟨m',rfl⟩:=hu;have h:a.eval y=.string n:=Vz hg hy;rw[h];exact⟨rfl,rfl,.inr ⟨m',n,rfl,rfl⟩⟩
end
inductive FL : ((DV->DV)->List DV)->Prop
 | nil:FL fun _=>[]
 | v {F:(DV->DV)->List DV} (x:Value) (t:FL F):FL fun f=>.v x::F f
 | f {F:(DV->DV)->List DV} (y:DV) (t:FL F):FL fun f=>f y::F f
theorem FL.get{F:(DV->DV)->List DV}(h:FL F):(∀ f f',(F f).length=(F f').length)/\∀ i:Nat,(∀ f,(F f)[i]?=none)\/(∃ x,∀ f,(F f)[i]?=some (.v x))\/∃ y,∀ f,(F f)[i]?=some (f y):=by
 induction h with
 | nil=>exact⟨fun _ _=>rfl,fun i=>.inl fun _=>by simp⟩
 | v x t ih=>
  refine⟨fun f f'=>by simp[ih.1 f f'],fun i=>?_⟩
  cases i with
  | zero=>exact .inr (.inl ⟨x,fun _=>by simp⟩)
  | succ i=>
   rcases ih.2 i with h | ⟨y,h⟩ | ⟨y,h⟩
   ·exact .inl fun f=>by simpa using h f
   ·exact .inr (.inl ⟨y,fun f=>by simpa using h f⟩)
   ·exact .inr (.inr ⟨y,fun f=>by simpa using h f⟩)
 | f y t ih=>
  refine⟨fun f f'=>by simp[ih.1 f f'],fun i=>?_⟩
  cases i with
  | zero=>exact .inr (.inr ⟨y,fun _=>by simp⟩)
  | succ i=>
   rcases ih.2 i with h | ⟨z,h⟩ | ⟨z,h⟩
   ·exact .inl fun f=>by simpa using h f
   ·exact .inr (.inl ⟨z,fun f=>by simpa using h f⟩)
   ·exact .inr (.inr ⟨z,fun f=>by simpa using h f⟩)
def vD(B:Nat):Nat->Prop:=fun b=>b < B
def Jd(ctx:Ctx)(B:Nat):Nat->Prop:=fun b=>B<=b/\ctx.w0.heap.size<=b
def qq : Nat->Prop:=fun _=>True
theorem cells_g{w:World}{g:zb}{S:Nat->Prop}{id:Nat}{T:TypeId}{cs:List PV}(h:ObRd w g S id (.cells T cs)):∃ blk n,g id=some (blk,n):=by
 cases h with
 | cells _ _ blk n _ h=>exact⟨blk,n,h⟩
end Go.Ep
namespace Go.Ep
open Go.RowKit
theorem DRd0.lower{w:World}{z:Bool}{S:Nat->Prop}{x:DV}{u:Value}(h:DRd0 w z S x u):DRd0 w false S x u:=by
 induction h with
 | v x h=>exact .v x h
 | nil a cap hc hn=>exact .nil a cap hc hn
 | sl l b off cap k c hl hcap hs hb hz hkk hc hr ih=>exact .sl l b off cap k c hl hcap hs hb (fun h=>by cases h) hkk hc ih
theorem xVa{w:World}{S:Nat->Prop}{y:DV}(hp:Plain y){u:Value}(h:DRd w S y u):DRd w S (.od (vD w.heap.size) y) u:=
 .od _ _ _ ((hp w S u h).bound.mono fun b hb=>⟨hb.1,hb.2⟩)
theorem DRd.unod{w:World}{S N:Nat->Prop}{x:DV}{u:Value}(h:DRd w S (.od N x) u):DRd w S x u:=by
 cases h with
 | od _ _ _ h=>exact(h.mono fun _ hb=>hb.1).up
theorem FL.agg{F:(DV->DV)->List DV}(hF:FL F){w w':World}{g g':zb}{S S':Nat->Prop}{f f':DV->DV}{v:Value}(h:Rd w g S (.agg ((F f).map .d)) v)(hf:∀ y u,y∈F (fun x=>x)->DRd w S (f y) u->DRd w' S' (f' y) u):Rd w' g' S' (.agg ((F f').map .d)) v:=by
 cases h with
 | agg _ us hl hh h1=>
  refine .agg _ us (by rw[<- hl];simp[hF.get.1 f' f]) (fun i p u hp hu=>?_) h1;rw[List.getElem?_map] at hp;rcases hF.get.2 i with h | ⟨x,h⟩ | ⟨y,h⟩
  ·rw[h] at hp;cases hp
  ·rw[h] at hp;cases hp;have:=hh i (.d (.v x)) u (by rw[List.getElem?_map,h];rfl) hu
   cases this with
   | d hd=>cases hd with | v _ h6=>exact .d (.v _ h6)
  ·rw[h] at hp;cases hp;have:=hh i (.d (f y)) u (by rw[List.getElem?_map,h];rfl) hu
   cases this with
   | d hd=>exact .d (hf y u (List.mem_of_getElem? (h (fun x=>x))) hd)
theorem FL.obj'{F:(DV->DV)->List DV}(hF:FL F){w w':World}{g g':zb}{S S':Nat->Prop}{id blk n:Nat}{T:TypeId}{f f':DV->DV}(h:ObRd w g S id (.cells T ((F f).map .d)))(hg:g id=some (blk,n))(hg':g' id=some (blk,n))(hh:w'.heap[blk]?=w.heap[blk]?)
  (hf:∀ y u,y∈F (fun x=>x)->DRd w S (f y) u->DRd w' S' (f' y) u):ObRd w' g' S' id (.cells T ((F f').map .d)):=by
 cases h with
 | cells _ _ blk' n' us h1 h2 h3 h4 h5=>
  rw[hg] at h1
  cases h1
  refine .cells T _ blk n us hg' (by rw[hh];exact h2) (by rw[<- h3];simp[hF.get.1 f' f]) (fun i p u hp hu=>?_) h5;rw[List.getElem?_map] at hp;rcases hF.get.2 i with h | ⟨x,h⟩ | ⟨y,h⟩
  ·rw[h] at hp;cases hp
  ·rw[h] at hp;cases hp;have:=h4 i (.d (.v x)) u (by rw[List.getElem?_map,h];rfl) hu
   cases this with
   | d hd=>cases hd with | v _ h6=>exact .d (.v _ h6)
  ·rw[h] at hp;cases hp;have:=h4 i (.d (f y)) u (by rw[List.getElem?_map,h];rfl) hu
   cases this with
   | d hd=>exact .d (hf y u (List.mem_of_getElem? (h (fun x=>x))) hd)
section
variable{P:Program}{ctx:Ctx}
theorem vRa{g:zb}{objs:List (Nat×Ob)}{id:Nat}{o o':Ob}(h:look objs id=some o){b:Nat}:zk ctx g (yD id o' objs) b↔zk ctx g objs b:=by
 have key:∀ j,(∃ q,look (yD id o' objs) j=some q)↔∃ q,look objs j=some q:=fun j=>by
  rw[zD]
  by_cases e:j=id
  ·subst e;rw[if_pos rfl,h];simp
  ·rw[if_neg e]
 unfold zk
 constructor
 ·rintro⟨h1,h2⟩;exact⟨h1,fun j q m hq hg=>let ⟨q',hq'⟩:=(key j).2 ⟨q,hq⟩;h2 j q' m hq' hg⟩
 ·rintro⟨h1,h2⟩;exact⟨h1,fun j q m hq hg=>let ⟨q',hq'⟩:=(key j).1 ⟨q,hq⟩;h2 j q' m hq' hg⟩
theorem callAtW{s:PState}{dst:Option Tmp}{ty:TypeId}{pos:String}{after:Array Edge}{gd:Option (Nat×Bool)}{x:Operand}{xs:List Operand}{ats:Array TypeId}{f:FuncId}{ps:List PV}{r:PV}{a:Act}{w:World}(hr:Rel ctx s a w)
  (hc:∀ g,RelG ctx g s a w->FunAt P f ps r w (zk ctx g s.objs)) (hx:s.ev x=some (.d (.v (.func (.func f) #[] #[])))) (he:∀ args w,(callFunc f args).run P w=.ok (.enter f args) w)
  (hps:s.evs xs=some ps) (hd:PV.isData.isDataL ps=true) (hrd:r.isData=true) {K:Act->World->Prop} {Qx:Exit->Act->World->Prop} (hK:∀ a' w',Rel ctx (s.putD dst r) a' w'->K a' w') :
  (⟨dst,.call ⟨.value x,xs.toArray,ats⟩,ty,pos,after,gd⟩:Oper).wp P a w K Qx:=by
 obtain⟨g,hg⟩:=hr;obtain⟨hlen,hreal⟩:=VC hps hd hg;unfold Oper.wp;rw[wv (o:=⟨dst,.call ⟨.value x,xs.toArray,ats⟩,ty,pos,after,gd⟩) rfl (Vz hg hx) he w,List.map_toArray];refine(hc g hg _ hlen hreal).mono fun e w' ⟨u,he,hb,hru⟩=>?_
 subst he;exact hK _ _ ⟨g,(hg.below hb).put dst ((hru.data hrd g).keep ⟨Nat.le_refl _,fun _ _ _=>rfl⟩ (fun b hb' _=>Xb hg hb') (fun _ _=>rfl))⟩
end
end Go.Ep
namespace Go.Ep
open Go.RowKit
def yWa(l:List (List Value)):List (List DV):=l.map fun cs=>cs.map DV.v
theorem zWa{l:List (List Value)}{i:Nat}{cs:List DV}(h:(yWa l)[i]?=some cs):∃ vs,l[i]?=some vs/\cs=vs.map .v:=by
 unfold yWa at h;rw[List.getElem?_map] at h
 cases hi:l[i]? with
 | none=>rw[hi] at h;cases h
 | some vs=>rw[hi] at h;exact⟨vs,rfl,by simpa using h.symm⟩
theorem DRd.unrw{w:World}{S M:Nat->Prop}{e:TypeId}{k:Nat}{l:List (List Value)}{u:Value}(h:DRd w S (.rw M e k l) u):DRd w S (.sl (yWa l)) u:=by
 cases h with
 | rwNil=>exact .nil none 0 (Nat.zero_le _) (fun _=>rfl)
 | rw _ _ _ _ blk cap cur hS hM hb hh hlc hcap hcs hk hr=>
  have hl:(yWa l).length=l.length:=by simp[yWa]
  have:=DRd.sl (w:=w) (S:=S) (yWa l) blk 0 cap k (fun i j=>cur.getD (i*k+j) undef) (by rw[hl];exact hlc) hcap hS hb (fun i cs hi=>by
   obtain⟨vs,h1,rfl⟩:=zWa hi;rw[List.length_map];exact hk i vs h1) (fun i j hi hj=>by
   rw[hl] at hi;have hlt:i*k+j < cur.length:=by rw[hcs];exact vl (by omega) hj
   rw[zU hh];simp[hlt]) (fun i cs j x hi hx=>by
   obtain⟨vs,h1,rfl⟩:=zWa hi;rw[List.getElem?_map] at hx
   cases hv:vs[j]? with
   | none=>rw[hv] at hx;cases hx
   | some y=>
    rw[hv] at hx
    cases hx
    obtain⟨h2,h3⟩:=hr i vs j y h1 hv;have e:cur.getD (i*k+j) undef=y:=by simp[List.getD,h2]
    show DRd w S (.v y) (cur.getD (i*k+j) undef);rw[e];exact .v y h3)
  rw[hl] at this;exact this
def InjB(B:Nat)(β:Nat->Option Nat):Prop:=(∀ i j b,i≠j->β i=some b->β j≠some b)/\∀ i b,β i=some b->B<=b
theorem InjB.none{B:Nat}:InjB B fun _=>none:=⟨fun _ _ _ _ h=>(by cases h),fun _ _ h=>(by cases h)⟩
def updB(β:Nat->Option Nat)(i:Nat)(x:Option Nat):Nat->Option Nat:=fun j=>if j < i then β j else if j=i then x else none
theorem InjB.upd{B:Nat}{β:Nat->Option Nat}(h:InjB B β){i:Nat}{x:Option Nat}(hB:∀ b,x=some b->B<=b)(hx:∀ j b,j < i->x=some b->β j≠some b):InjB B (updB β i x):=by
 refine⟨fun p q b hpq hp=>?_,fun p b hp=>?_⟩
 ·unfold updB at hp ⊢
  by_cases p1:p < i
  ·rw[if_pos p1] at hp
   by_cases q1:q < i
   ·rw[if_pos q1];exact h.1 p q b hpq hp
   ·rw[if_neg q1]
    by_cases q2:q=i
    ·rw[if_pos q2];exact fun e=>hx p b p1 e hp
    ·rw[if_neg q2];simp
  ·rw[if_neg p1] at hp
   by_cases p2:p=i
   ·rw[if_pos p2] at hp
    by_cases q1:q < i
    ·rw[if_pos q1];exact hx q b q1 hp
    ·rw[if_neg q1,if_neg (by omega)];simp
   ·rw[if_neg p2] at hp;cases hp
 ·unfold updB at hp
  by_cases p1:p < i
  ·rw[if_pos p1] at hp;exact h.2 p b hp
  ·rw[if_neg p1] at hp
   by_cases p2:p=i
   ·rw[if_pos p2] at hp;exact hB b hp
   ·rw[if_neg p2] at hp;cases hp
def PRowB(P:Program)(f:FuncId)(ps:List PV)(e:TypeId)(k:Nat)(l:(Nat->Option Nat)->List (List DV)):Prop:=
 ∀ (w:World) (S:Nat->Prop) (vs:List Value),ps.length=vs.length->(∀ (i:Nat) (p:PV) (v:Value),ps[i]?=some p->vs[i]?=some v->Rd w g0 S p v) ->
  Calls P f vs.toArray w (fun en w'=>∃ u β,InjB w.heap.size β/\en=.returned u/\Below w.heap.size w w'/\RowRd w' S w.heap.size e k (l β) u)
theorem PRowB.intro{P:Program}{f:FuncId}{fn:Func}{c:Code}{ps:List PV}{e:TypeId}{k:Nat}{l:(Nat->Option Nat)->List (List DV)}{n:Nat}{sl:List (Nat×PV)}(hf:P.funcs[f]?=some fn)(hb:fn.body=some c)(hn:fn.ntmps=n)(hsl:args 0 ps=sl)(hpn:Nat.ble ps.length n=true)
  (body:∀ ctx:Ctx,(∀ b,ctx.K b->ctx.S b)->(∀ b,¬ ctx.K b)->PWc P ctx c (fun en s=>∃ β,InjB ctx.w0.heap.size β/\yQa fn e k (l β) en s) ⟨n,sl,[]⟩):PRowB P f ps e k l:=by
 intro w S vs hlen hreal
 let ctx:Ctx:=⟨w,S,fun _=>False⟩
 have hK:∀ b,¬ ctx.K b:=fun _ h=>h
 refine calls_of_wp hf hb ?_;subst hsl;have hrel:RelG ctx g0 ⟨n,args 0 ps,[]⟩ { tmps:=vs.toArray++Array.replicate (fn.ntmps - vs.toArray.size) undef,defers:=[] } w:=by
  rw[hn];exact VD hlen hreal (by rw[<- hlen];exact Nat.le_of_ble_eq_true hpn)
 refine wp_mono (body ctx (fun _ h=>h.elim) hK _ w ⟨g0,hrel⟩) fun en a' w' ⟨s,⟨β,hβ,he,t,hres,hcase⟩,g,hg⟩=>?_
 have hbel:Below w.heap.size w w':=⟨hg.os,hg.tape,hg.output,hg.grows,fun k hk=>hg.keep k hk (hK k)⟩
 have main:a'.defers=[]/\∃ v,(results fn a'.tmps).run P w'=.ok v w'/\(∃ u β,InjB w.heap.size β/\Ending.returned v=.returned u/\Below w.heap.size w w'/\RowRd w' S w.heap.size e k (l β) u):=by
  refine⟨hg.defers,_,results_tmp hres _ _ _,_,β,hβ,rfl,hbel,?_⟩
  generalize l β=l0 at hcase
  rcases hcase with⟨rfl,hs⟩ | ⟨id,m,hs,hlm,hl⟩
  ·have:=(hg.slots t _ hs).of_v;rw[this];exact .nil
  ·have hr:=hg.slots t _ hs
   generalize hv:a'.tmps.getD t undef=v at hr
   cases hg.objs id _ hl with
   | rowNil _ _ hgn=>
    cases hr with
    | row _ _ blk cap hgi=>rw[hgn] at hgi;cases hgi
    | rowNil=>exact .nil
   | row _ _ _ blk' cap' cur hgi hh hlc hcap hcs hkk hr'=>
    cases hr with
    | rowNil _ hgn=>rw[hgn] at hgi;cases hgi
    | row _ _ blk cap hgi'=>
     rw[hgi] at hgi'
     cases hgi'
     subst hlm;have hown:=hg.own id _ blk' cap' hl hgi;refine .row l0 blk' cap' cur (hown.2.resolve_right (hK _)) hh hlc hcap hcs hkk fun i cs j x hi hx=>?_
     obtain⟨u,hu,hd⟩:=hr' i cs j x hi hx;exact⟨u,hu,hd.keep ⟨Nat.le_refl _,fun _ _ _=>rfl⟩ fun b ⟨h1,h2⟩ _=>⟨h1,fun eb=>by subst eb;exact h2 id _ cap' hl hgi⟩⟩
 rcases he with rfl | rfl
 ·exact main
 ·exact main
section
variable{P:Program}{ctx:Ctx}{Q:PQ}{s:PState}
inductive AvD (M:Nat->Prop):DV->Prop
 | v (x:Value):AvD M (.v x)
 | od (N:Nat->Prop) (x:DV) (h:∀ b,M b->¬ N b):AvD M (.od N x)
 | nw (N:Nat->Prop) (x:DV) (h:∀ b,M b->¬ N b):AvD M (.nw N x)
 | rw(N:Nat->Prop) (e:TypeId) (k:Nat) (l:List (List Value)) (h:∀ b,M b->¬ N b):AvD M (.rw N e k l)
inductive AvP (M:Nat->Prop):PV->Prop
 | junk:AvP M .junk
 | d {x:DV} (h:AvD M x):AvP M (.d x)
 | ref (id o:Nat):AvP M (.ref id o)
 | row (id n:Nat):AvP M (.row id n)
 | mp (id:Nat):AvP M (.mp id)
inductive AvO (M:Nat->Prop):Ob->Prop
 | cells (T:TypeId) (cs:List PV) (h:∀ p∈cs,AvP M p):AvO M (.cells T cs)
 | row (T:TypeId) (k:Nat) (l:List (List DV)) (h:∀ cs∈l,∀ x∈cs,AvD M x):AvO M (.row T k l)
 | mapH (nl:Bool) (ks:List IntKind) (ag:Bool) (m:List (List Int×List DV)) (h:∀ e∈m,∀ x∈e.2,AvD M x):AvO M (.mapH nl ks ag m)
theorem MapRd.conv{w:World}{S S':Nat->Prop}{ks:List IntKind}{ag:Bool}{m m':List (List Int×List DV)}{bs:List Nat}{ck:Nat}{es:Array MapEntry}(h:MapRd w S ks ag m bs ck es)(hl:m.length=m'.length)
  (hc:∀ (i:Nat) (ns:List Int) (cs':List DV),m'[i]?=some (ns,cs')->∃ cs,m[i]?=some (ns,cs)/\cs.length=cs'.length/\∀ (j:Nat) (x':DV) (u:Value),cs'[j]?=some x'->∃ x,cs[j]?=some x/\(DRd w S x u->DRd w S' x' u)):MapRd w S' ks ag m' bs ck es:=
 ⟨h.size.trans hl,h.stamps,h.below,h.nodup,fun i ns cs' hi=>by
  obtain⟨cs,h1,h2,h3⟩:=hc i ns cs' hi;obtain⟨e,us,e1,e2,e3,e4,e5,e6,e7,e8⟩:=h.ent i ns cs h1;refine⟨e,us,e1,e2,e3,e4.trans h2,fun ha=>by rw[<- h2];exact e5 ha,e6,e7,fun j x' u hx hu=>?_⟩;obtain⟨x,h4,h5⟩:=h3 j x' u hx;exact h5 (e8 j x u h4 hu)⟩
theorem AvD.keep{M:Nat->Prop}{w:World}{S:Nat->Prop}{blk:Nat}(hM:M blk){x:DV}{u:Value}(h:AvD M x)(hd:DRd w S x u):DRd w (fun b=>S b/\b≠blk) x u:=by
 cases h with
 | v=>cases hd with | v _ h=>exact .v _ h
 | od N x h=>cases hd with | od _ _ _ h0=>exact .od N x u (h0.mono fun b hb=>⟨⟨hb.1,fun e=>h blk hM (e▸hb.2)⟩,hb.2⟩)
 | nw N x h=>cases hd with | nw _ _ _ h0=>exact .nw N x u (h0.mono fun b hb=>⟨⟨hb.1,fun e=>h blk hM (e▸hb.2)⟩,hb.2⟩)
 | rw N e k l h=>
  cases hd with
  | rwNil _ _ _ h1=>exact .rwNil _ _ _ h1
  | rw _ _ _ _ b cap cur hS hN hb hh hlc hcap hcs hk hr=>exact .rw _ _ _ _ b cap cur ⟨hS,fun e=>h blk hM (e▸hN)⟩ hN hb hh hlc hcap hcs hk hr
theorem AvP.keep{M:Nat->Prop}{w:World}{g:zb}{S:Nat->Prop}{blk:Nat}(hM:M blk){x:PV}{u:Value}(h:AvP M x)(hd:Rd w g S x u):Rd w g (fun b=>S b/\b≠blk) x u:=by
 cases h with
 | junk=>exact .junk _
 | d h=>cases hd with | d hd=>exact .d (h.keep hM hd)
 | ref=>cases hd with | ref _ _ b n h=>exact .ref _ _ b n h
 | row=>
  cases hd with
  | row _ _ b c h=>exact .row _ _ b c h
  | rowNil _ h=>exact .rowNil _ h
 | mp=>cases hd <;> constructor <;> assumption
theorem AvO.keep{M:Nat->Prop}{w:World}{g:zb}{S:Nat->Prop}{blk id:Nat}(hM:M blk){o:Ob}(h:AvO M o)(hd:ObRd w g S id o):ObRd w g (fun b=>S b/\b≠blk) id o:=by
 cases h with
 | cells T cs h=>cases hd with | cells _ _ b n us h1 h2 h3 h4 h5=>exact .cells T cs b n us h1 h2 h3 (fun i p u hp hu=>(h p (List.mem_of_getElem? hp)).keep hM (h4 i p u hp hu)) h5
 | row T k l h=>
  cases hd with
  | rowNil _ _ hgn=>exact .rowNil _ _ hgn
  | row _ _ _ b cap cur h1 h2 h3 h4 h5 h6 h7=>exact .row T k l b cap cur h1 h2 h3 h4 h5 h6 fun i cs j x hi hx=>let ⟨u,hu,hd⟩:=h7 i cs j x hi hx;⟨u,hu,(h cs (List.mem_of_getElem? hi) x (List.mem_of_getElem? hx)).keep hM hd⟩
 | mapH nl ks ag m h=>
  cases hd with
  | mapHNil _ _ hgn=>exact .mapHNil _ _ hgn
  | mapH _ _ _ bs ck b n es h1 h2 h3=>exact .mapH ks ag m bs ck b n es h1 h2 (h3.conv rfl fun i ns cs hi=>⟨cs,hi,rfl,fun j x u hx=>⟨x,hx,fun hd=>(h _ (List.mem_of_getElem? hi) x (List.mem_of_getElem? hx)).keep hM hd⟩⟩)
end
section
variable{P:Program}{ctx:Ctx}{s:PState}
variable{dst:Option Tmp}{ty:TypeId}{pos:String}{after:Array Edge}{gd:Option (Nat×Bool)}
end
end Go.Ep
namespace Go.Ep
open Go.RowKit
theorem PObjN.intro{G:Type}{P:Program}{f:FuncId}{fn:Func}{N:Nat->Prop}{c:Code}{ps:List PV}{os:List (Nat×Ob)}{pins:List Nat}{r:PV}{os':G->List (Nat×Ob)}{n:Nat}{sl:List (Nat×PV)}(hf:P.funcs[f]?=some fn)(hb:fn.body=some c)(hn:fn.ntmps=n)(hsl:args 0 ps=sl)(hpn:Nat.ble ps.length n=true)(hpin:wLa ps os pins=true)
  (body:∀ ctx:Ctx,(∀ b,ctx.K b->ctx.S b)->(∀ b,zT ctx b->N b)->∀ pv:Nat->Option (Nat×Nat),PWc P ctx c (EndsO P ctx fn (qn pv pins) r os') ⟨n,sl,os++qn pv pins⟩):PObjN P f N ps os pins r os':=
 fun w hN S g vs h1 h2 h3 h4=>ObjAt.intro hf hb hn hsl hpn hpin (fun g _=>body ⟨w,fun b=>S b\/OwnB g os b,OwnB g os⟩ (fun b h=>Or.inr h) hN g) g vs h1 h2 h3 h4
def Wk(p q:PV):Prop:=∀ (w:World) (g:zb) (S:Nat->Prop) (u:Value),Rd w g S p u->Rd w g S q u
theorem Wk.refl(p:PV):Wk p p:=fun _ _ _ _ h=>h
theorem Wk.junk(p:PV):Wk p .junk:=fun _ _ _ u _=>.junk u
theorem Wk.nw(N:Nat->Prop)(x:DV):Wk (.d (.nw N x)) (.d x):=fun _ _ _ _ h=>by cases h with | d h=>exact .d h.unmark
theorem Wk.od(N:Nat->Prop)(x:DV):Wk (.d (.od N x)) (.d x):=fun _ _ _ _ h=>by cases h with | d h=>exact .d h.unod
theorem Wk.nwOd(N:Nat->Prop)(x:DV):Wk (.d (.nw N x)) (.d (.od N x)):=fun _ _ _ _ h=>by
 cases h with
 | d h=>cases h with | nw _ _ _ h=>exact .d (.od _ _ _ h.lower)
theorem Wk.rw(M:Nat->Prop)(e:TypeId)(k:Nat)(l:List (List Value)):Wk (.d (.rw M e k l)) (.d (.sl (yWa l))):=fun _ _ _ _ h=>by cases h with | d h=>exact .d h.unrw
inductive WkL : List PV->List PV->Prop
 | nil:WkL [] []
 | cons {p q:PV} {l m:List PV} (h:Wk p q) (t:WkL l m):WkL (p::l) (q::m)
theorem WkL.len{l m:List PV}(h:WkL l m):l.length=m.length:=by induction h with | nil=>rfl | cons _ _ ih=>simp[ih]
theorem WkL.get{l m:List PV}(h:WkL l m):∀ (i:Nat) (q:PV),m[i]?=some q->∃ p,l[i]?=some p/\Wk p q:=by
 induction h with
 | nil=>intro i q h;simp at h
 | cons h t ih=>
  intro i q hq
  cases i with
  | zero=>cases hq;exact⟨_,rfl,h⟩
  | succ i=>exact ih i q hq
theorem WkL.agg{l m:List PV}(h:WkL l m):Wk (.agg l) (.agg m):=fun w g S u hr=>by
 cases hr with
 | agg _ us hl hh h1=>
  refine .agg _ us (by rw[<- h.len];exact hl) (fun i q u hq hu=>?_) h1;obtain⟨p,hp,hw⟩:=h.get i q hq;exact hw w g S u (hh i p u hp hu)
section
variable{P:Program}{ctx:Ctx}{s:PState}
theorem LR.weak{o:Oper}{d:Option Tmp}{p q:PV}(hl:Local P ctx o s (s.putD d p))(hw:Wk p q):Local P ctx o s (s.putD d q):=fun a w hr K Qx hK=>hl a w hr K Qx fun a' w' ⟨g,hg⟩=>hK a' w' ⟨g,by
 cases d with
 | none=>exact hg
 | some t=>
  refine⟨hg.defers,hg.size,fun i r hi=>?_,hg.objs,hg.inj,hg.own,hg.os,hg.tape,hg.output,hg.grows,hg.keep⟩;have hlt:i < s.n:=Zu (s:=s.put t q) hi;rcases Jm s t q i r hi with⟨rfl,rfl⟩ | ⟨hne,h2⟩
  ·have:(s.put t p).at t=some p:=Zn (s:=s.put t p) hlt (by show xt ((t,p)::s.sl) t=_;rw[yC,if_pos rfl]);exact hw _ _ _ _ (hg.slots t _ this)
  ·refine hg.slots i r (Zn (s:=s.put t p) hlt ?_);show xt ((t,p)::s.sl) i=_;rw[yC,if_neg hne];exact xL h2⟩
variable{dst:Option Tmp}{ty:TypeId}{pos:String}{after:Array Edge}{gd:Option (Nat×Bool)}
theorem LR.callNwN{x:Operand}{xs:List Operand}{ats:Array TypeId}{f:FuncId}{ps qs:List PV}{r:(Nat->Prop)->PV}{N:Nat->Prop}(hc:PNew P f ps r)(hm:MonoP r)(hN:∀ b,zT ctx b->N b)(hx:s.ev x=some (.d (.v (.func (.func f) #[] #[]))))(he:∀ args w,(callFunc f args).run P w=.ok (.enter f args) w)
  (hps:s.evs xs=some qs) (hq:qs.map PV.nilD=ps) (hd:PV.isData.isDataL ps=true) (hr:(r (zT ctx)).isData=true) :
  Local P ctx ⟨dst,.call ⟨.value x,xs.toArray,ats⟩,ty,pos,after,gd⟩ s (s.putD dst (r N)):=
 LR.weak (LR.callNw hc hm hx he hps hq hd hr) fun w g S u h=>hm w g S (zT ctx) N u hN h
end
section
variable{P:Program}{ctx:Ctx}{Q:PState->Prop}{s:PState}{ops:Array Oper}{rest:List Oper}{fs:List Ft}{f:Ft}
variable{dst:Option Tmp}{ty:TypeId}{pos:String}{after:Array Edge}{gd:Option (Nat×Bool)}
end
section
variable{P:Program}{ctx:Ctx}{s:PState}
variable{dst:Option Tmp}{ty:TypeId}{pos:String}{after:Array Edge}{gd:Option (Nat×Bool)}
end
theorem AvD.keepM{M:Nat->Prop}{w:World}{S:Nat->Prop}{x:DV}{u:Value}(h:AvD M x)(hd:DRd w S x u):DRd w (fun b=>S b/\¬ M b) x u:=by
 cases h with
 | v=>cases hd with | v _ h=>exact .v _ h
 | od N x h=>cases hd with | od _ _ _ h0=>exact .od N x u (h0.mono fun b hb=>⟨⟨hb.1,fun e=>h b e hb.2⟩,hb.2⟩)
 | nw N x h=>cases hd with | nw _ _ _ h0=>exact .nw N x u (h0.mono fun b hb=>⟨⟨hb.1,fun e=>h b e hb.2⟩,hb.2⟩)
 | rw N e k l h=>
  cases hd with
  | rwNil _ _ _ h1=>exact .rwNil _ _ _ h1
  | rw _ _ _ _ b cap cur hS hN hb hh hlc hcap hcs hk hr=>exact .rw _ _ _ _ b cap cur ⟨hS,fun e=>h b e hN⟩ hN hb hh hlc hcap hcs hk hr
theorem AvP.keepM{M:Nat->Prop}{w:World}{g:zb}{S:Nat->Prop}{x:PV}{u:Value}(h:AvP M x)(hd:Rd w g S x u):Rd w g (fun b=>S b/\¬ M b) x u:=by
 cases h with
 | junk=>exact .junk _
 | d h=>cases hd with | d hd=>exact .d (h.keepM hd)
 | ref=>cases hd with | ref _ _ b n h=>exact .ref _ _ b n h
 | row=>
  cases hd with
  | row _ _ b c h=>exact .row _ _ b c h
  | rowNil _ h=>exact .rowNil _ h
 | mp=>cases hd <;> constructor <;> assumption
theorem AvO.keepM{M:Nat->Prop}{w:World}{g:zb}{S:Nat->Prop}{id:Nat}{o:Ob}(h:AvO M o)(hd:ObRd w g S id o):ObRd w g (fun b=>S b/\¬ M b) id o:=by
 cases h with
 | cells T cs h=>cases hd with | cells _ _ b n us h1 h2 h3 h4 h5=>exact .cells T cs b n us h1 h2 h3 (fun i p u hp hu=>(h p (List.mem_of_getElem? hp)).keepM (h4 i p u hp hu)) h5
 | row T k l h=>
  cases hd with
  | rowNil _ _ hgn=>exact .rowNil _ _ hgn
  | row _ _ _ b cap cur h1 h2 h3 h4 h5 h6 h7=>exact .row T k l b cap cur h1 h2 h3 h4 h5 h6 fun i cs j x hi hx=>let ⟨u,hu,hd⟩:=h7 i cs j x hi hx;⟨u,hu,(h cs (List.mem_of_getElem? hi) x (List.mem_of_getElem? hx)).keepM hd⟩
 | mapH nl ks ag m h=>
  cases hd with
  | mapHNil _ _ hgn=>exact .mapHNil _ _ hgn
  | mapH _ _ _ bs ck b n es h1 h2 h3=>exact .mapH ks ag m bs ck b n es h1 h2 (h3.conv rfl fun i ns cs hi=>⟨cs,hi,rfl,fun j x u hx=>⟨x,hx,fun hd=>(h _ (List.mem_of_getElem? hi) x (List.mem_of_getElem? hx)).keepM hd⟩⟩)
section
variable{P:Program}{ctx:Ctx}{Q:PQ}{s:PState}
theorem Rel.putOb{a:Act}{w:World}{id:Nat}{o o':Ob}(hl:look s.objs id=some o)(hc:∀ g:zb,ObRd w g (zk ctx g s.objs) id o->ObRd w g (zk ctx g s.objs) id o')(hr:Rel ctx s a w):Rel ctx ⟨s.n,s.sl,yD id o' s.objs⟩ a w:=by
 obtain⟨g,hg⟩:=hr;have hlk:∀ {j:Nat} {q:Ob},look (yD id o' s.objs) j=some q->(j=id/\q=o')\/(j≠id/\look s.objs j=some q):=fun {j q} h=>by
  rw[zD] at h
  by_cases e:j=id
  ·rw[if_pos e] at h;exact .inl ⟨e,by simpa using h.symm⟩
  ·rw[if_neg e] at h;exact .inr ⟨e,h⟩
 have hex:∀ {j:Nat} {q:Ob},look (yD id o' s.objs) j=some q->∃ q',look s.objs j=some q':=fun {j q} h=>by
  rcases hlk h with⟨rfl,_⟩ | ⟨_,h⟩
  ·exact⟨_,hl⟩
  ·exact⟨_,h⟩
 have hS:∀ b,zk ctx g s.objs b->zk ctx g (yD id o' s.objs) b:=fun b hb=>(vRa hl).2 hb
 have hst:yV w w (zk ctx g s.objs):=⟨Nat.le_refl _,fun _ _ _=>rfl⟩
 refine⟨g,⟨hg.defers,hg.size,fun i p hp=>(hg.slots i p hp).keep hst (fun b hb _=>hS b hb) (fun _ _=>rfl),fun j q hj=>?_,fun i j oi oj b n m hi hj hgi hgj=>?_,fun j q b n hj hgj=>?_,hg.os,hg.tape,hg.output,hg.grows,hg.keep⟩⟩
 ·rcases hlk hj with⟨rfl,rfl⟩ | ⟨_,hj⟩
  ·exact(hc g (hg.objs j _ hl)).keep hst (fun b hb _=>hS b hb) (fun _ _ _=>rfl) rfl (fun _ _=>rfl)
  ·exact(hg.objs j q hj).keep hst (fun b hb _=>hS b hb) (fun _ _ _=>rfl) rfl (fun _ _=>rfl)
 ·obtain⟨o1,e1⟩:=hex hi;obtain⟨o2,e2⟩:=hex hj;exact hg.inj i j o1 o2 b n m e1 e2 hgi hgj
 ·obtain⟨o1,e1⟩:=hex hj;exact hg.own j o1 b n e1 hgj
end
theorem Wk.slm{α:Type}{F:α->(DV->DV)->List DV}(hF:∀ x,FL (F x))(N:Nat->Prop)(l:List α):Wk (.d (.sl (l.map fun x=>F x (.nw N)))) (.d (.sl (l.map fun x=>F x fun y=>y))):=fun w g S u h=>by
 have hlen:(l.map fun x=>F x (.nw N)).length=(l.map fun x=>F x fun y=>y).length:=by simp
 have hget:∀ (i:Nat) (cs:List DV),(l.map fun x=>F x fun y=>y)[i]?=some cs->∃ x,l[i]?=some x/\cs=F x fun y=>y:=fun i cs h=>by
  rw[List.getElem?_map] at h
  cases hx:l[i]? with
  | none=>rw[hx] at h;cases h
  | some x=>rw[hx] at h;exact⟨x,rfl,by simpa using h.symm⟩
 cases h with
 | d h=>
  generalize hL:(l.map fun x=>F x (.nw N))=L at h hlen
  cases h with
  | nil a cap hc hn=>
   have:(l.map fun x=>F x fun y=>y)=[]:=List.length_eq_zero_iff.1 hlen.symm;rw[this];exact .d (.nil a cap hc hn)
  | sl _ b off cap k c hl hcap hS hb hk hc hr=>
   subst hL;rw[hlen];refine .d (.sl _ b off cap k c (by rw[<- hlen];exact hl) hcap hS hb (fun i cs hi=>?_) (fun i j hi hj=>hc i j (by rw[hlen];exact hi) hj) (fun i cs j x hi hx=>?_))
   ·obtain⟨x,h1,rfl⟩:=hget i cs hi;rw[(hF x).get.1 (fun y=>y) (.nw N)];exact hk i _ (by rw[List.getElem?_map,h1];rfl)
   ·obtain⟨y,h1,rfl⟩:=hget i cs hi;have hi2:(l.map fun x=>F x (.nw N))[i]?=some (F y (.nw N)):=by rw[List.getElem?_map,h1];rfl
    rcases(hF y).get.2 j with h | ⟨z,h⟩ | ⟨z,h⟩
    ·rw[h] at hx;cases hx
    ·rw[h] at hx;cases hx;exact hr i _ j _ hi2 (h _)
    ·rw[h] at hx;cases hx;exact(hr i _ j _ hi2 (h _)).unmark
end Go.Ep
namespace Go.Ep
open Go Go.RowKit
section
variable{P:Program}{ctx:Ctx}{Q:PQ}{s:PState}
variable{dst:Option Tmp}{ty:TypeId}{pos:String}{after:Array Edge}{gd:Option (Nat×Bool)}
theorem LR.pieceRow{x lo:Operand}{id n k:Nat}{t e:TypeId}{kx:IntKind}{i:Int}{l:List (List DV)}(hu:P.underlying t=some (.slice e))(hs:∀ w,(sizeOf e).run P w=.ok k w)
  (hx:s.ev x=some (.row id n)) (hl:look s.objs id=some (.row e k l)) (hn:n<=l.length) (hlo:s.ev lo=some (.d (.v (.int kx i)))) (hi:(0:Int)<=i/\i<=(n:Int)) :
  Local P ctx ⟨dst,.slice t x (some lo) none none,ty,pos,after,gd⟩ s (s.putD dst (.pc id i.toNat (n - i.toNat) k)):=
 zG (o:=⟨dst,.slice t x (some lo) none none,ty,pos,after,gd⟩) fun a w g hg=>by
  have h:=hg.ev hx;have hob:=hg.objs id _ hl;have hit:i=(i.toNat:Int):=by omega
  have hle:i.toNat<=n:=by omega
  generalize hv:a.eval x=v at h
  cases h with
  | row _ _ blk cap hgi=>
   cases hob with
   | rowNil _ _ hgn=>rw[hgn] at hgi;cases hgi
   | row _ _ _ blk' cap' cur h' hh hlc hcap hcs hkk hr=>
    rw[hgi] at h'
    cases h'
    refine⟨.slice (if cap=i.toNat then some ⟨blk,0,none⟩ else some ⟨blk,0+i.toNat*k,none⟩) (n - i.toNat) (cap - i.toNat),?_,?_⟩
    ·by_cases hc:cap=i.toNat <;>
     simp[execOp,hv,wq hg hlo,Instr.sliceAt,Instr.slice,Instr.sliceBounds,run_underlying hu,hs,xX (P:=P) hit hle,Addr.add_lit,Result.andThen,hc]
    ·by_cases h0:n - i.toNat=0
     ·rw[h0];exact .pc0 _ _ _ _ _
     ·rw[if_neg (by omega),Nat.zero_add];exact .pc id _ _ k blk cap hgi (by omega)
  | rowNil _ hgn=>
   have h0:i.toNat=0:=by omega
   refine⟨.slice none 0 0,?_,?_⟩
   ·rw[h0] at hit;simp[execOp,hv,wq hg hlo,Instr.sliceAt,Instr.slice,Instr.sliceBounds,run_underlying hu,hs,xX (P:=P) hit (show 0<=0 from Nat.le_refl _),Result.andThen]
   ·rw[Nat.zero_sub];exact .pc0 _ _ _ _ _
theorem LR.lenPc{x:Operand}{id i n k:Nat}{t e:TypeId}(hu:P.underlying t=some (.slice e))(hx:s.ev x=some (.pc id i n k)) :
  Local P ctx ⟨dst,.call ⟨.builtin .len,#[x],#[t]⟩,ty,pos,after,gd⟩ s (s.putD dst (.d (.v (.int .i64 n)))):=
 zG (o:=⟨dst,.call ⟨.builtin .len,#[x],#[t]⟩,ty,pos,after,gd⟩) fun a w g hg=>by
  have h:=hg.ev hx;have hE:P.underlying t=some (.slice (P.elem t)):=by simp[Program.elem,hu]
  refine⟨.int .i64 n,?_,.d (.v _ rfl)⟩
  generalize hv:a.eval x=v at h
  cases h <;> simp[execOp,resolve,invoke,builtin,hv,run_len_slice,hE,Result.andThen,goInt]
theorem LR.idxPc{x ix:Operand}{id i m:Nat}{ki:IntKind}{j:Int}{k:Nat}{t e:TypeId}(hu:P.underlying t=some (.slice e))(hs:∀ w,(sizeOf e).run P w=.ok k w)
  (hx:s.ev x=some (.pc id i m k)) (hix:s.ev ix=some (.d (.v (.int ki j)))) (hj:(0:Int)<=j/\j < (m:Int)) :
  Local P ctx ⟨dst,.indexAddr t x ix,ty,pos,after,gd⟩ s (s.putD dst (.rp id (i+j.toNat) 0 k)):=
 zG (o:=⟨dst,.indexAddr t x ix,ty,pos,after,gd⟩) fun a w g hg=>by
  have h:=hg.ev hx
  generalize hv:a.eval x=v at h
  cases h with
  | pc _ _ _ _ blk cap hgi hi=>
   refine⟨.pointer (some ⟨blk,(i+j.toNat)*k+0,none⟩),?_,.rp id _ 0 k blk cap hgi⟩;have:=uu (P:=P) hu hs blk (i*k) m (cap - i) ki j j.toNat (by omega) (by omega) w;rw[show i*k+j.toNat*k=(i+j.toNat)*k+0 by rw[Nat.add_mul,Nat.add_zero]] at this;simp[execOp,hv,wq hg hix,this,Result.andThen]
  | pc0=>omega
theorem LR.clearPc{x:Operand}{id i n k:Nat}{t e:TypeId}{l:List (List DV)}{z:Value}{zs:List Value}(hu:P.underlying t=some (.slice e))(hx:s.ev x=some (.pc id i n k))(hl:look s.objs id=some (.row e k l))
  (hz:∀ w,(zeroValue e).run P w=.ok z w) (hzs:z.cells=zs.toArray) (h1:(zs.all Value.oneCell')=true) (hk:zs.length=k) (hin:i+n<=l.length) (hd:dst=none) :
  Local P ctx ⟨dst,.call ⟨.builtin .clear,#[x],#[t]⟩,ty,pos,after,gd⟩ s (s.setO id (.row e k (l.take i++List.replicate n (zs.map zdv)++l.drop (i+n)))):=by
 subst hd;refine yW (o:=⟨none,.call ⟨.builtin .clear,#[x],#[t]⟩,ty,pos,after,gd⟩) fun a w g hg=>?_
 have h:=hg.ev hx;have hob:=hg.objs id _ hl;have hE:P.underlying t=some (.slice e):=hu
 generalize hv:a.eval x=v at h
 have hnil:n=0->∀ g',Rel ctx (s.setO id (.row e k (l.take i++List.replicate n (zs.map zdv)++l.drop (i+n)))) a w\/g'=g:=by
  intro h0;subst h0;intro g'
  left
  simp only[List.replicate_zero,List.append_nil,Nat.add_zero,List.take_append_drop];refine⟨g,?_⟩;have hlk:∀ j o,look (s.setO id (.row e k l)).objs j=some o↔look s.objs j=some o:=by
   intro j o;simp only[PState.setO];rw[zD]
   by_cases hj:j=id
   ·subst hj;rw[if_pos rfl,hl]
   ·rw[if_neg hj]
  have hF:∀ b,zk ctx g s.objs b->zk ctx g (s.setO id (.row e k l)).objs b:=fun b ⟨h1,h2⟩=>⟨h1,fun j o m hj=>h2 j o m ((hlk j o).1 hj)⟩
  have hst:yV w w (zk ctx g s.objs):=⟨Nat.le_refl _,fun _ _ _=>rfl⟩
  exact⟨hg.defers,hg.size,fun q p hp=>(hg.slots q p hp).keep hst (fun b hb _=>hF b hb) (fun _ _=>rfl),fun j o hj=>(hg.objs j o ((hlk j o).1 hj)).keep hst (fun b hb _=>hF b hb) (fun _ _ _=>rfl) rfl (fun _ _=>rfl),
   fun p q op oq b n m hp hq=>hg.inj p q op oq b n m ((hlk p op).1 hp) ((hlk q oq).1 hq),fun j o b n hj=>hg.own j o b n ((hlk j o).1 hj),hg.os,hg.tape,hg.output,hg.grows,hg.keep⟩
 cases h with
 | pc0 _ _ _ ao c=>
  rcases hnil rfl (fun _=>none) with hr | hr
  ·refine⟨.tuple #[],w,?_,hr⟩
   cases ao <;> simp[execOp,resolve,invoke,builtin,hv,Builtin.clear_,run_underlying hE,Result.andThen]
  ·rcases hnil rfl (fun _=>some (0,0)) with hr2 | hr2
   ·refine⟨.tuple #[],w,?_,hr2⟩
    cases ao <;> simp[execOp,resolve,invoke,builtin,hv,Builtin.clear_,run_underlying hE,Result.andThen]
   ·have:=congrFun (hr.trans hr2.symm) 0;cases this
 | pc _ _ _ _ blk cap hgi hi=>
  by_cases hn0:n=0
  ·have hr:Rel ctx (s.setO id (.row e k (l.take i++List.replicate n (zs.map zdv)++l.drop (i+n)))) a w:=by
    rcases hnil hn0 (fun _=>none) with hr | hr
    ·exact hr
    ·have:=congrFun hr id;rw[hgi] at this;cases this
   subst hn0;refine⟨.tuple #[],w,?_,hr⟩;simp[execOp,resolve,invoke,builtin,hv,Builtin.clear_,run_underlying hE,Result.andThen]
  cases hob with
  | rowNil _ _ hgn=>rw[hgn] at hgi;cases hgi
  | row _ _ _ blk' cap' cur h' hh hlc hcap hcs hkk hr=>
   rw[hgi] at h'
   cases h'
   have hlen:((Builtin.zeroCells z.cells n).toList).length=n*k:=by rw[Jq,hzs];simp[hk]
   have hroom:i*k+n*k<=cur.length:=by
    rw[hcs,<- Nat.add_mul];exact Nat.mul_le_mul_right k hi
   have hz1:∀ u∈(Builtin.zeroCells z.cells n).toList,u.oneCell'=true:=by
    intro u hu;obtain⟨j,hj⟩:=List.getElem?_of_mem hu;have hjl:=(List.getElem?_eq_some_iff.1 hj).1;rw[hlen] at hjl;have hk0:0 < k:=by
     rcases Nat.eq_zero_or_pos k with h | h
     ·subst h;omega
     ·exact h
    rw[hzs] at hj;simp[Builtin.zeroCells,hk,hjl] at hj;have ht:j % k < zs.length:=by rw[hk];exact Nat.mod_lt _ hk0
    rw[List.getElem?_eq_getElem ht] at hj;simp at hj;subst hj;simp at h1;exact h1 _ (List.getElem_mem ht)
   have hrun:=run_storeCells_at P blk (i*k) e (Builtin.zeroCells z.cells n).toList 0 cur.toArray w hh (by simpa[hlen] using hroom) hz1
   let new:List Value:=cur.take (i*k)++(Builtin.zeroCells z.cells n).toList++cur.drop (i*k+n*k)
   have hrun':(storeCells ⟨blk,i*k,none⟩ (Builtin.zeroCells z.cells n).toList).run P w=.ok () (w.setRow blk new.toArray):=by
    simpa[hlen,new] using hrun
   refine⟨.tuple #[],w.setRow blk new.toArray,?_,g,?_⟩
   ·have hn':∃ n',n=n'+1:=⟨n - 1,by omega⟩
    obtain⟨n',rfl⟩:=hn';simp[execOp,resolve,invoke,builtin,hv,Builtin.clear_,run_underlying hE,hz,hrun',Result.andThen]
   ·have hown:=hg.own id _ blk cap hl hgi;have hother:∀ k,k < w.heap.size->k≠blk->(w.setRow blk new.toArray).heap[k]?=w.heap[k]?:=fun k _ hne=>setRow_other w blk k _ hne
    have hst:yV w (w.setRow blk new.toArray) (zk ctx g s.objs):=⟨by simp,fun b ⟨_,h2⟩ hlt=>hother b hlt fun e=>by subst e;exact h2 id _ cap hl hgi⟩
    refine hg.wrote hl hgi rfl rfl rfl (by simp) hother hown.2 ?_;have hll:(l.take i++List.replicate n (zs.map zdv)++l.drop (i+n)).length=l.length:=by simp;omega
    have hget:∀ t,new[t]?=if t < i*k then cur[t]? else if t < i*k+n*k then (Builtin.zeroCells z.cells n).toList[t - i*k]? else cur[t]?:=by
     intro t;show(cur.take (i*k)++(Builtin.zeroCells z.cells n).toList++cur.drop (i*k+n*k))[t]?=_;rw[List.append_assoc,List.getElem?_append];have l1:(cur.take (i*k)).length=i*k:=by simp;omega
     rw[l1]
     by_cases h3:t < i*k
     ·rw[if_pos h3,if_pos h3];simp[h3]
     ·rw[if_neg h3,if_neg h3,List.getElem?_append,hlen]
      by_cases h4:t - i*k < n*k
      ·rw[if_pos h4,if_pos (by omega)]
      ·rw[if_neg h4,if_neg (by omega),List.getElem?_drop]
       congr 1;omega
    have hlget:∀ q,(l.take i++List.replicate n (zs.map zdv)++l.drop (i+n))[q]?=if q < i then l[q]? else if q < i+n then some (zs.map zdv) else l[q]?:=by
     intro q;rw[List.append_assoc,List.getElem?_append];have l1:(l.take i).length=i:=by simp;omega
     rw[l1]
     by_cases h3:q < i
     ·rw[if_pos h3,if_pos h3];simp[h3]
     ·rw[if_neg h3,if_neg h3,List.getElem?_append];simp only[List.length_replicate]
      by_cases h4:q - i < n
      ·rw[if_pos h4,if_pos (by omega),List.getElem?_replicate,if_pos h4]
      ·rw[if_neg h4,if_neg (by omega),List.getElem?_drop]
       congr 1;omega
    refine .row e k _ blk cap new hgi (vC hh) (by rw[hll];exact hlc) hcap (by show(cur.take (i*k)++(Builtin.zeroCells z.cells n).toList++cur.drop (i*k+n*k)).length=_;rw[List.length_append,List.length_append,hlen,List.length_take,List.length_drop,Nat.min_eq_left (by omega),<- hcs];omega) (fun q cs hq=>?_) (fun q cs t x hq hx=>?_)
    ·rw[hlget] at hq
     split at hq
     ·exact hkk q cs hq
     ·split at hq
      ·simp only[Option.some.injEq] at hq;subst hq;simpa using hk
      ·exact hkk q cs hq
    ·have hcsk:cs.length=k:=by
      rw[hlget] at hq
      split at hq
      ·exact hkk q cs hq
      ·split at hq
       ·simp only[Option.some.injEq] at hq;subst hq;simpa using hk
       ·exact hkk q cs hq
     have htk:t < k:=by rw[<- hcsk];exact(List.getElem?_eq_some_iff.1 hx).1
     rw[hlget] at hq;rw[hget]
     by_cases h3:q < i
     ·rw[if_pos h3] at hq;have:q*k+t < i*k:=by
       have:=Nat.mul_le_mul_right k (show q+1<=i by omega);rw[Nat.add_mul,Nat.one_mul] at this;omega
      rw[if_pos this];obtain⟨u,h5,h6⟩:=hr q cs t x hq hx;exact⟨u,h5,h6.keep hst (fun b hb _=>wW hl b hb)⟩
     ·rw[if_neg h3] at hq;have h3':¬ q*k+t < i*k:=by
       have:=Nat.mul_le_mul_right k (show i<=q by omega);omega
      rw[if_neg h3']
      by_cases h4:q < i+n
      ·rw[if_pos h4] at hq;have:q*k+t < i*k+n*k:=by
        have:=Nat.mul_le_mul_right k (show q+1<=i+n by omega);rw[Nat.add_mul,Nat.one_mul,Nat.add_mul] at this;omega
       rw[if_pos this];simp only[Option.some.injEq] at hq;subst hq;have htz:t < zs.length:=by rw[hk];exact htk
       rw[List.getElem?_map,List.getElem?_eq_getElem htz] at hx;simp only[Option.map_some,Option.some.injEq] at hx;subst hx;refine⟨zs[t],?_,vAa _ _ _ (by simp at h1;exact h1 _ (List.getElem_mem htz))⟩;have e1:q*k+t - i*k=(q - i)*k+t:=by rw[Nat.sub_mul];have:=Nat.mul_le_mul_right k (show i<=q by omega);omega
       have hlt:(q - i)*k+t < n*k:=by rw[<- e1];omega
       have e2:((q - i)*k+t) % k=t:=by rw[Nat.mul_comm,Nat.mul_add_mod,Nat.mod_eq_of_lt htk]
       rw[e1,hzs];simp[Builtin.zeroCells,hlt,hk,e2];rw[List.getElem?_eq_getElem htz];rfl
      ·rw[if_neg h4] at hq;have:¬ q*k+t < i*k+n*k:=by
        have:=Nat.mul_le_mul_right k (show i+n<=q by omega);rw[Nat.add_mul] at this;omega
       rw[if_neg this];obtain⟨u,h5,h6⟩:=hr q cs t x hq hx;exact⟨u,h5,h6.keep hst (fun b hb _=>wW hl b hb)⟩
variable{α:Type}{enc:α->List DV}{L:List α}
theorem LR.pieceRowT{x lo:Operand}{id n k:Nat}{t e:TypeId}{kx:IntKind}{i:Int}(hu:P.underlying t=some (.slice e))(hs:∀ w,(sizeOf e).run P w=.ok k w)
  (hx:s.ev x=some (.row id n)) (hm:n=L.length) (hl:look s.objs id=some (.row e k (L.map enc))) (hlo:s.ev lo=some (.d (.v (.int kx i)))) (hi:(0:Int)<=i/\i<=(L.length:Int)) :
  Local P ctx ⟨dst,.slice t x (some lo) none none,ty,pos,after,gd⟩ s (s.putD dst (.pc id i.toNat (L.length - i.toNat) k)):=by
 subst hm;exact LR.pieceRow hu hs hx hl (by simp) hlo hi
theorem LR.clearPcT{x:Operand}{id i n k:Nat}{t e:TypeId}{z:α}{zv:Value}{zs:List Value}(hu:P.underlying t=some (.slice e))(hx:s.ev x=some (.pc id i n k))(hl:look s.objs id=some (.row e k (L.map enc)))
  (hz:∀ w,(zeroValue e).run P w=.ok zv w) (hzs:zv.cells=zs.toArray) (h1:(zs.all Value.oneCell')=true) (hk:zs.length=k) (he:zs.map zdv=enc z) (hin:i+n<=L.length) (hd:dst=none) :
  Local P ctx ⟨dst,.call ⟨.builtin .clear,#[x],#[t]⟩,ty,pos,after,gd⟩ s (s.setO id (.row e k ((L.take i++List.replicate n z++L.drop (i+n)).map enc))):=by
 have:=LR.clearPc (P:=P) (ctx:=ctx) (dst:=dst) (ty:=ty) (pos:=pos) (after:=after) (gd:=gd) hu hx hl hz hzs h1 hk (by simpa using hin) hd;rw[he,<- List.map_take,<- List.map_drop,<- List.map_replicate,<- List.map_append,<- List.map_append] at this;exact this
end
end Go.Ep
namespace Go.Ep
open Go.RowKit
theorem PWc.reCtx{P:Program}{ctx:Ctx}{Q:PQ}{s:PState}{c:Code}(hK:∀ b,ctx.K b->ctx.S b)
  (h:∀ ctx':Ctx,(∀ b,ctx'.K b->ctx'.S b)->ctx.w0.heap.size<=ctx'.w0.heap.size->(∀ b,b < ctx'.w0.heap.size->(ctx.w0.heap.size<=b\/ctx.K b)->ctx'.K b)->∀ a,Rel ctx' s a ctx'.w0->c.wp P (lift ctx' Q) a ctx'.w0):PWc P ctx c Q s:=by
 rintro a w ⟨g,hg⟩
 let ctx':Ctx:=⟨w,fun b=>b < w.heap.size/\(ctx.S b\/ctx.w0.heap.size<=b),fun b=>b < w.heap.size/\(ctx.w0.heap.size<=b\/ctx.K b)⟩
 have hst:yV w w (zk ctx g s.objs):=⟨Nat.le_refl _,fun _ _ _=>rfl⟩
 have hF:∀ b,zk ctx g s.objs b->b < w.heap.size->zk ctx' g s.objs b:=fun b h1 h2=>⟨.inl ⟨h2,h1.1⟩,h1.2⟩
 have hr:Rel ctx' s a w:=⟨g,hg.defers,hg.size,fun i p hp=>(hg.slots i p hp).keep hst hF (fun _ _=>rfl),fun id o ho=>(hg.objs id o ho).keep hst hF (fun _ _ _=>rfl) rfl (fun _ _=>rfl),hg.inj,fun id o b n h1 h2=>let h3:=hg.own id o b n h1 h2;⟨h3.1,.inr ⟨h3.1,h3.2⟩⟩,rfl,rfl,rfl,Nat.le_refl _,fun _ _ _=>rfl⟩
 refine wp_mono (h ctx' (fun b hb=>⟨hb.1,hb.2.elim .inr fun h=>.inl (hK b h)⟩) hg.grows (fun b h1 h2=>⟨h1,h2⟩) a hr) fun e a' w' ⟨t,hq,g2,h2⟩=>⟨t,hq,g2,?_⟩
 have hst2:yV w' w' (zk ctx' g2 t.objs):=⟨Nat.le_refl _,fun _ _ _=>rfl⟩
 have hF2:∀ b,zk ctx' g2 t.objs b->b < w'.heap.size->zk ctx g2 t.objs b:=fun b ⟨h1,h3⟩ _=>⟨by
  rcases h1 with h1 | h1
  ·exact h1.2
  ·exact .inr (Nat.le_trans hg.grows h1),h3⟩
 refine⟨h2.defers,h2.size,fun i p hp=>(h2.slots i p hp).keep hst2 hF2 (fun _ _=>rfl),fun id o ho=>(h2.objs id o ho).keep hst2 hF2 (fun _ _ _=>rfl) rfl (fun _ _=>rfl),h2.inj,fun id o b n h1 h3=>?_,h2.os.trans hg.os,h2.tape.trans hg.tape,h2.output.trans hg.output,Nat.le_trans hg.grows h2.grows,fun k hk hnk=>?_⟩
 ·obtain⟨h4,h5⟩:=h2.own id o b n h1 h3;refine⟨h4,?_⟩;rcases h5 with h5 | h5
  ·exact .inl (Nat.le_trans hg.grows h5)
  ·exact h5.2
 ·exact(h2.keep k (Nat.lt_of_lt_of_le hk hg.grows) fun h=>by
   rcases h.2 with h3 | h3
   ·omega
   ·exact hnk h3).trans (hg.keep k hk hnk)
def PSpoil(P:Program)(f:FuncId)(ps:List PV):Prop:=
 ∀ (w:World) (S:Nat->Prop) (vs:List Value),ps.length=vs.length->(∀ (i:Nat) (p:PV) (v:Value),ps[i]?=some p->vs[i]?=some v->Rd w g0 S p v) ->
  Calls P f vs.toArray w (fun e w'=>∃ u,e=.returned u/\w'.os=w.os/\w'.tape=w.tape/\w'.output=w.output/\w.heap.size<=w'.heap.size/\∀ k,k < w.heap.size->¬ S k->w'.heap[k]?=w.heap[k]?)
section
variable{P:Program}
theorem PSpoil.intro{f:FuncId}{fn:Func}{c:Code}{ps:List PV}{n:Nat}{sl:List (Nat×PV)}(hf:P.funcs[f]?=some fn)(hb:fn.body=some c)(hn:fn.ntmps=n)(hsl:args 0 ps=sl)(hpn:Nat.ble ps.length n=true)
  (body:∀ ctx:Ctx,(∀ b,ctx.S b->ctx.K b)->(∀ b,ctx.K b->ctx.S b)->PWc P ctx c (Ends P fn (.tup [])) ⟨n,sl,[]⟩):PSpoil P f ps:=by
 intro w S vs hlen hreal
 let ctx:Ctx:=⟨w,S,S⟩
 refine calls_of_wp hf hb ?_;subst hsl;have hrel:RelG ctx g0 ⟨n,args 0 ps,[]⟩ { tmps:=vs.toArray++Array.replicate (fn.ntmps - vs.toArray.size) undef,defers:=[] } w:=by
  rw[hn];exact VD hlen hreal (by rw[<- hlen];exact Nat.le_of_ble_eq_true hpn)
 refine wp_mono (body ctx (fun _ h=>h) (fun _ h=>h) _ w ⟨g0,hrel⟩) fun e a' w' ⟨t,⟨he,qs,hres,hq⟩,g,hg⟩=>?_
 have main:a'.defers=[]/\∃ v,(results fn a'.tmps).run P w'=.ok v w'/\(∃ u,Ending.returned v=.returned u/\w'.os=w.os/\w'.tape=w.tape/\w'.output=w.output/\w.heap.size<=w'.heap.size/\∀ k,k < w.heap.size->¬ S k->w'.heap[k]?=w.heap[k]?):=by
  obtain⟨us,h1,h2,h3⟩:=zKa hg (fun b h=>h) hres;have hrun:(results fn a'.tmps).run P w'=.ok (if h:us.toArray.size=1 then us.toArray[0] else .tuple us.toArray) w':=by
   rw[UB,Array.mapM_eq_mapM_toList];simp only[Sem.run_bind,Sem.run_map,h1,Result.andThen_ok,Sem.run_pure]
  exact⟨hg.defers,_,hrun,_,rfl,hg.os,hg.tape,hg.output,hg.grows,fun k hk hnk=>hg.keep k hk hnk⟩
 rcases he with rfl | rfl
 ·exact main
 ·exact main
end
section
variable{P:Program}{ctx:Ctx}{Q:PQ}{s:PState}
theorem PWl.callSpoil{ops:Array Oper}{rest:List Oper}{d:Nat}{ty:TypeId}{pos:String}{after:Array Edge}{x:Operand}{xs:List Operand}{ats:Array TypeId}{f:FuncId}{ps qs:List PV}{N:Nat->Prop}{u:PState}(hc:PSpoil P f ps)(hN:∀ b,N b->ctx.w0.heap.size<=b\/ctx.K b)
  (hx:s.ev x=some (.d (.v (.func (.func f) #[] #[])))) (he:∀ args w,(callFunc f args).run P w=.ok (.enter f args) w) (hps:s.evs xs=some qs) (hlq:qs.length=ps.length)
  (hconv:∀ (w:World) (g:zb) (S:Nat->Prop) (i:Nat) (p q:PV) (v:Value),ps[i]?=some p->qs[i]?=some q->Rd w g S q v->Rd w g0 (fun b=>S b/\N b) p v)
  (hun:u.n=s.n) (hsl:∀ i p,xt u.sl i=some p->i≠d/\s.at i=some p/\AvP N p) (hob:∀ id o,look u.objs id=some o->look s.objs id=some o/\AvO N o)
  (h:PWl P ctx ops Q rest u):PWl P ctx ops Q (⟨some d,.call ⟨.value x,xs.toArray,ats⟩,ty,pos,after,none⟩::rest) s:=by
 rintro a w ⟨g,hg⟩;refine wpList_plain (o:=⟨some d,.call ⟨.value x,xs.toArray,ats⟩,ty,pos,after,none⟩) rfl fun K hK2=>?_
 obtain⟨hlen,hreal⟩:=Jw hps hg;unfold Oper.wp;rw[wv (o:=⟨some d,.call ⟨.value x,xs.toArray,ats⟩,ty,pos,after,none⟩) rfl (Vz hg hx) he w,List.map_toArray];refine(hc w (fun b=>zk ctx g s.objs b/\N b) _ (by rw[<- hlq];exact hlen) (fun i p v hp hv=>?_)).mono fun en w' ⟨r,he,e1,e2,e3,e4,e5⟩=>?_
 ·have hi:i < qs.length:=by rw[hlq];exact(List.getElem?_eq_some_iff.1 hp).1
  exact hconv w g _ i p _ v hp (List.getElem?_eq_getElem hi) (hreal i _ v (List.getElem?_eq_getElem hi) hv)
 ·subst he;have hst:yV w w' (fun b=>zk ctx g s.objs b/\¬ N b):=⟨e4,fun b hb hlt=>e5 b hlt fun h=>hb.2 h.2⟩
  have hfr:∀ b,zk ctx g s.objs b->zk ctx g u.objs b:=fun b hb=>⟨hb.1,fun id o m ho hgi=>hb.2 id o m (hob id o ho).1 hgi⟩
  have hu:RelG ctx g u a w':=by
   refine⟨hg.defers,hg.size.trans hun.symm,fun i p hp=>?_,fun id o ho=>?_,fun i j oi oj b m k hi hj hgi hgj=>hg.inj i j oi oj b m k (hob i oi hi).1 (hob j oj hj).1 hgi hgj,fun id o b m ho hgi=>?_,e1.trans hg.os,e2.trans hg.tape,e3.trans hg.output,Nat.le_trans hg.grows e4,fun k hk hnk=>?_⟩
   ·obtain⟨_,h1,h2⟩:=hsl i p (xL hp);exact(h2.keepM (hg.slots i p h1)).keep hst (fun b hb _=>hfr b hb.1) (fun _ _=>rfl)
   ·obtain⟨h1,h2⟩:=hob id o ho;refine(h2.keepM (hg.objs id o h1)).keep hst (fun b hb _=>hfr b hb.1) (fun blk m hgi=>?_) rfl (fun _ _=>rfl);exact e5 blk (hg.own id o blk m h1 hgi).1 fun h=>h.1.2 id o m h1 hgi
   ·have:=hg.own id o b m (hob id o ho).1 hgi;exact⟨Nat.lt_of_lt_of_le this.1 e4,this.2⟩
   ·refine(e5 k (Nat.lt_of_lt_of_le hk hg.grows) fun h=>?_).trans (hg.keep k hk hnk);rcases hN k h.2 with h1 | h1
    ·omega
    ·exact hnk h1
  have hp2:=hu.put (some d) (p:=.junk) (v:=r) (.junk r);refine hK2 _ _ (h _ _ ⟨g,hp2.defers,hp2.size,fun i p hp=>?_,hp2.objs,hp2.inj,hp2.own,hp2.os,hp2.tape,hp2.output,hp2.grows,hp2.keep⟩);refine hp2.slots i p (Zn (s:=u.put d .junk) (show i < u.n from Zu hp) ?_);show xt ((d,.junk)::u.sl) i=_;rw[yC,if_neg (Ne.symm (hsl i p (xL hp)).1)];exact xL hp
end
def WkD(x y:DV):Prop:=∀ (w:World) (S:Nat->Prop) (u:Value),DRd w S x u->DRd w S y u
theorem WkD.refl(x:DV):WkD x x:=fun _ _ _ h=>h
theorem WkD.nw(N:Nat->Prop)(x:DV):WkD (.nw N x) x:=fun _ _ _ h=>h.unmark
theorem WkD.od(N:Nat->Prop)(x:DV):WkD (.od N x) x:=fun _ _ _ h=>h.unod
theorem Sub.weakRow{ctx:Ctx}{s:PState}{id k:Nat}{T:TypeId}{L L':List (List DV)}(hl:look s.objs id=some (.row T k L))(hlen:L.length=L'.length)
  (hc:∀ (i:Nat) (cs':List DV),L'[i]?=some cs'->∃ cs,L[i]?=some cs/\cs.length=cs'.length/\∀ (j:Nat) (y:DV),cs'[j]?=some y->∃ x,cs[j]?=some x/\WkD x y):Sub ctx s ⟨s.n,s.sl,yD id (.row T k L') s.objs⟩:=fun a w hr=>
 Rel.putOb hl (fun g h=>by
  cases h with
  | rowNil _ _ hgn=>
   have:L'=[]:=List.length_eq_zero_iff.1 hlen.symm;rw[this];exact .rowNil _ _ hgn
  | row _ _ _ blk cap cur hgi hh hlc hcap hcs hkk hr=>
   refine .row T k L' blk cap cur hgi hh (by rw[<- hlen];exact hlc) hcap hcs (fun i cs' hi=>?_) (fun i cs' j y hi hy=>?_)
   ·obtain⟨cs,h1,h2,_⟩:=hc i cs' hi;rw[<- h2];exact hkk i cs h1
   ·obtain⟨cs,h1,_,h3⟩:=hc i cs' hi;obtain⟨x,h4,h5⟩:=h3 j y hy;obtain⟨u,hu,hd⟩:=hr i cs j x h1 h4;exact⟨u,hu,h5 w _ u hd⟩) hr
theorem PFun.weakA{P:Program}{f:FuncId}{ps ps':List PV}{r:PV}(h:PFun P f ps r)(hw:WkL ps' ps):PFun P f ps' r:=fun w S vs hlen hreal=>
 h w S vs (hw.len.symm.trans hlen) fun i p v hp hv=>let ⟨q,hq,hwk⟩:=hw.get i p hp;hwk w g0 S v (hreal i q v hq hv)
theorem LR.clearPcN{P:Program}{ctx:Ctx}{s:PState}{dst:Option Tmp}{ty:TypeId}{pos:String}{after:Array Edge}{gd:Option (Nat×Bool)}{α:Type}{enc:α->List DV}{L:List α}{x:Operand}{id i n k:Nat}{t e:TypeId}{z:α}{zv:Value}{zs:List Value}(hu:P.underlying t=some (.slice e))(hx:s.ev x=some (.pc id i n k))(hl:look s.objs id=some (.row e k (L.map enc)))
  (hz:∀ w,(zeroValue e).run P w=.ok zv w) (hzs:zv.cells=zs.toArray) (h1:(zs.all Value.oneCell')=true) (hk:zs.length=k) (he1:(zs.map zdv).length=(enc z).length) (he:∀ (j:Nat) (y:DV),(enc z)[j]?=some y->∃ x,(zs.map zdv)[j]?=some x/\WkD x y) (hin:i+n<=L.length) (hd:dst=none) :
  Local P ctx ⟨dst,.call ⟨.builtin .clear,#[x],#[t]⟩,ty,pos,after,gd⟩ s (s.setO id (.row e k ((L.take i++List.replicate n z++L.drop (i+n)).map enc))):=by
 have h0:=LR.clearPc (P:=P) (ctx:=ctx) (dst:=dst) (ty:=ty) (pos:=pos) (after:=after) (gd:=gd) hu hx hl hz hzs h1 hk (by simpa using hin) hd;refine h0.post ?_;have hlk:look (s.setO id (.row e k ((L.map enc).take i++List.replicate n (zs.map zdv)++(L.map enc).drop (i+n)))).objs id=some (.row e k ((L.map enc).take i++List.replicate n (zs.map zdv)++(L.map enc).drop (i+n))):=by
  show look (yD id _ _) id=_;rw[zD,if_pos rfl]
 refine Sub.trans (Sub.weakRow (L':=(L.take i++List.replicate n z++L.drop (i+n)).map enc) hlk (by simp) fun q cs' hq=>?_) (Sub.same rfl rfl fun j=>?_)
 ·rw[List.map_append,List.map_append,List.map_take,List.map_drop,List.map_replicate] at hq;rw[List.append_assoc,List.getElem?_append] at hq ⊢
  split at hq
  ·rename_i h;rw[if_pos h];exact⟨cs',hq,rfl,fun j y hy=>⟨y,hy,.refl _⟩⟩
  ·rename_i h
   rw[if_neg h];rw[List.getElem?_append] at hq ⊢;rw[List.length_replicate] at hq ⊢
   split at hq
   ·rename_i h2
    rw[if_pos h2];rw[List.getElem?_replicate,if_pos h2] at hq ⊢
    cases hq
    exact⟨_,rfl,he1,he⟩
   ·rename_i h2
    rw[if_neg h2];exact⟨cs',hq,rfl,fun j y hy=>⟨y,hy,.refl _⟩⟩
 ·show look (yD id _ (yD id _ s.objs)) j=look (yD id _ s.objs) j;rw[zD,zD,zD]
  by_cases h:j=id
  ·rw[if_pos h,if_pos h]
  ·rw[if_neg h,if_neg h,if_neg h]
theorem PObjN.introK{G:Type}{P:Program}{f:FuncId}{fn:Func}{N:Nat->Prop}{c:Code}{ps:List PV}{os:List (Nat×Ob)}{pins:List Nat}{r:PV}{os':G->List (Nat×Ob)}{n:Nat}{sl:List (Nat×PV)}(hf:P.funcs[f]?=some fn)(hb:fn.body=some c)(hn:fn.ntmps=n)(hsl:args 0 ps=sl)(hpn:Nat.ble ps.length n=true)(hpin:wLa ps os pins=true)
  (body:∀ ctx:Ctx,(∀ b,ctx.K b->ctx.S b)->(∀ b,zT ctx b->N b)->∀ pv:Nat->Option (Nat×Nat),(∀ b,ctx.K b->OwnB pv os b)->PWc P ctx c (EndsO P ctx fn (qn pv pins) r os') ⟨n,sl,os++qn pv pins⟩):PObjN P f N ps os pins r os':=
 fun w hN S g vs h1 h2 h3 h4=>ObjAt.intro hf hb hn hsl hpn hpin (fun g _=>body ⟨w,fun b=>S b\/OwnB g os b,OwnB g os⟩ (fun b h=>Or.inr h) hN g (fun b h=>h)) g vs h1 h2 h3 h4
inductive PinAll (s:PState) (pv:Nat->Option (Nat×Nat)) (id:Nat):List (Nat×Ob)->Prop
 | nil:PinAll s pv id []
 | cons {i:Nat} {o q:Ob} {r:List (Nat×Ob)} (h1:look s.objs (i+1000)=some (.pin i (pv i))) (h2:look s.objs i=some q) (h3:Nat.beq i id=false) (t:PinAll s pv id r):PinAll s pv id ((i,o)::r)
theorem PinAll.get{s:PState}{pv:Nat->Option (Nat×Nat)}{id:Nat}{os:List (Nat×Ob)}(h:PinAll s pv id os):∀ i o,look os i=some o->look s.objs (i+1000)=some (.pin i (pv i))/\(∃ q,look s.objs i=some q)/\i≠id:=by
 induction h with
 | nil=>intro i o h;cases h
 | @cons j o' q r h1 h2 h3 _ ih=>
  intro i o h;simp only[look] at h
  split at h
  ·rename_i e
   subst e;exact⟨h1,⟨q,h2⟩,fun e=>by rw[e] at h3;simp at h3⟩
  ·exact ih i o h
theorem Sub.frzNwN{ctx:Ctx}{s:PState}{id n k:Nat}{e:TypeId}{l l0:List (List DV)}{N:Nat->Prop}{os:List (Nat×Ob)}{pv:Nat->Option (Nat×Nat)}(js:List Nat)(hKp:∀ b,ctx.K b->OwnB pv os b)(hN:∀ b,zT ctx b->N b)
  (hpin:PinAll s pv id os) (hu:Unm N l l0) (hl:look s.objs id=some (.row e k l)) (hn:l.length=n) (hjs:∀ j∈js,s.at j=some (.row id n)):Sub ctx s (s.frzNw id N l0 js):=
 Sub.frzNwG js (fun a w g hg b m hgi=>by
  rcases(hg.own id _ b m hl hgi).2 with h | h
  ·exact⟨hN b h,.inr h⟩
  ·exfalso;obtain⟨i,o,c,h1,h2⟩:=hKp b h;obtain⟨hlk,⟨q,hq⟩,hne⟩:=hpin.get i o h1
   cases hg.objs _ _ hlk with
   | pin _ _ _ ht=>exact hne (hg.inj i id q _ b c m hq hl (by rw[ht,h2]) hgi)) hu hl hn hjs
theorem LR.fieldV{P:Program}{ctx:Ctx}{s:PState}{dst:Option Tmp}{ty:TypeId}{pos:String}{after:Array Edge}{gd:Option (Nat×Bool)}{x:Operand}{st:TypeId}{fs:Array Field}{fi off:Nat}{f:Field}{ps:List PV}{p:PV}(hu:P.underlying st=some (.struct fs))(hf:fs[fi]?=some f)(ha:∀ w,(isAgg f.type).run P w=.ok false w)(ho:f.offset=off)
  (hx:s.ev x=some (.agg ps)) (hp:ps[off]?=some p):Local P ctx ⟨dst,.field st x fi,ty,pos,after,gd⟩ s (s.putD dst p):=
 zG (o:=⟨dst,.field st x fi,ty,pos,after,gd⟩) fun a w g hg=>by
  have h:=hg.ev hx
  generalize hv:a.eval x=v at h
  cases h with
  | agg _ us hl hr h1=>
   have hlt:off < us.length:=by rw[<- hl];exact(List.getElem?_eq_some_iff.1 hp).1
   refine⟨us[off],?_,hr off p _ hp (List.getElem?_eq_getElem hlt)⟩;simp[execOp,hv,Instr.field,run_underlying hu,hf,asAgg,part,ha,ho,hlt,Result.andThen]
end Go.Ep
namespace Go.Ep
structure RN where
 lo:Int
 hi:Int
 deriving DecidableEq
structure PT where
 dev:Int
 runs:List RN
 deriving DecidableEq
structure DT where
 dev:Int
 n:Int
 deriving DecidableEq
structure EV where
 dot:DT
 kind:Int
 cid:Int
 field:Int
 text:ByteArray
 kills:List DT
 deriving DecidableEq
structure RB where
 ctx:List PT
 l:List EV
 deriving DecidableEq
structure DL where
 from_:List PT
 to_:List PT
 events:List EV
 deriving DecidableEq
structure LA where
 kind:Int
 event:EV
 ctx:List PT
 deriving DecidableEq
end Go.Ep
namespace Go.Ep
def RN.e(x:RN):List DV:=[.v (.int .u64 x.lo),.v (.int .u64 x.hi)]
def RN.v(x:RN):List Value:=[(.int .u64 x.lo),(.int .u64 x.hi)]
theorem RN.v1(x:RN):∀ u∈x.v,u.oneCell'=true:=by
 intro u hu;simp only[RN.v,List.mem_cons,List.not_mem_nil,or_false] at hu;rcases hu with rfl | rfl <;> rfl
def RN.k(x:RN):List Int:=[x.lo,x.hi]
def PT.e(x:PT):List DV:=[.v (.int .u16 x.dev),.sl (List.map RN.e x.runs)]
def DT.e(x:DT):List DV:=[.v (.int .u16 x.dev),.v (.int .u64 x.n)]
def DT.v(x:DT):List Value:=[(.int .u16 x.dev),(.int .u64 x.n)]
theorem DT.v1(x:DT):∀ u∈x.v,u.oneCell'=true:=by
 intro u hu;simp only[DT.v,List.mem_cons,List.not_mem_nil,or_false] at hu;rcases hu with rfl | rfl <;> rfl
def DT.k(x:DT):List Int:=[x.dev,x.n]
theorem DT.k_inj(a b:DT)(h:a.k=b.k):a=b:=by
 cases a;cases b;simp[DT.k] at h;simp[h]
def EV.e(x:EV):List DV:=[.v (.int .u16 x.dot.dev),.v (.int .u64 x.dot.n),.v (.int .u8 x.kind),.v (.int .u64 x.cid),.v (.int .u8 x.field),.v (.string x.text),.sl (List.map DT.e x.kills)]
def RB.e(x:RB):List DV:=[.sl (List.map PT.e x.ctx),.sl (List.map EV.e x.l)]
def DL.e(x:DL):List DV:=[.sl (List.map PT.e x.from_),.sl (List.map PT.e x.to_),.sl (List.map EV.e x.events)]
def LA.e(x:LA):List DV:=[.v (.int .u8 x.kind),.v (.int .u16 x.event.dot.dev),.v (.int .u64 x.event.dot.n),.v (.int .u8 x.event.kind),.v (.int .u64 x.event.cid),.v (.int .u8 x.event.field),.v (.string x.event.text),.sl (List.map DT.e x.event.kills),.sl (List.map PT.e x.ctx)]
end Go.Ep
namespace Go.Ep
open Go.RowKit
section
variable{P:Program}
theorem ja{kt:TypeId}{k1 k2:IntKind}(he:∀ {a0 a1 b0 b1:Int},wEa P kt [.int k1 a0,.int k2 a1] [.int k1 b0,.int k2 b1] (decide (a0=b0)&&decide (a1=b1)))(w:World)(x y:Int) :
  ∀ (m:Mp) (es:List MapEntry) (i:Nat),es.length=m.length->(∀ (i:Nat) (e:MapEntry) (n:List Int) (c:List DV),es[i]?=some e->m[i]?=some (n,c)->e.key=uq [k1,k2] n/\n.length=2) ->
  (Instr.findAsking kt (uq [k1,k2] [x,y]) es i).run P w=.ok ((xE [x,y] m 0).bind fun j=>(es[j]?).map fun e=>(i+j,e.val)) w
 | [],es,i,hl,_=>by
  have:es=[]:=List.eq_nil_of_length_eq_zero hl;subst this;simp[Instr.findAsking,xE]
 | (ns,c)::m,[],i,hl,_=>by simp at hl
 | (ns,c)::m,e::es,i,hl,h=>by
  obtain⟨hk,hn⟩:=h 0 e ns c rfl rfl;obtain⟨a,b,rfl⟩:∃ a b,ns=[a,b]:=by
   match ns,hn with
   | [a,b],_=>exact⟨a,b,rfl⟩
  have ih:=ja he w x y m es (i+1) (by simpa using hl) (fun j e' n' c' h1 h2=>h (j+1) e' n' c' (by simpa using h1) (by simpa using h2));have heq:(Op.equal kt (uq [k1,k2] [x,y]) e.key).run P w=.ok (decide (x=a)&&decide (y=b)) w:=by
   rw[hk];exact(he (a0:=x) (a1:=y) (b0:=a) (b1:=b)).2 w
  unfold Instr.findAsking;simp only[Sem.run_bind,heq,Result.andThen_ok,Sem.run_ite]
  by_cases e1:x=a/\y=b
  ·obtain⟨rfl,rfl⟩:=e1;simp[xE]
  ·have e2:¬ ([a,b]:List Int)=[x,y]:=fun h=>e1 (by simp at h;exact⟨h.1.symm,h.2.symm⟩)
   have e3:(decide (x=a)&&decide (y=b))=false:=by
    rw[Bool.and_eq_false_iff,decide_eq_false_iff_not,decide_eq_false_iff_not]
    by_cases h0:x=a
    ·exact .inr fun h=>e1 ⟨h0,h⟩
    ·exact .inl h0
   rw[e3,if_neg (by simp),ih];show _=Result.ok ((if [a,b]=[x,y] then some 0 else xE [x,y] m (0+1)).bind _) w;rw[if_neg e2,vI [x,y] m (0+1)]
   cases xE [x,y] m 0 with
   | none=>rfl
   | some j=>
    simp only[Option.map_some,Option.bind_some,Nat.zero_add,Nat.add_comm 1 j,List.getElem?_cons_succ]
    cases es[j]? with
    | none=>rfl
    | some z=>simp;omega
theorem KeyOK.pair{kt:TypeId}{k1 k2:IntKind}{d:TypeDesc}(hu:P.underlying kt=some d)(hd:∀ us vs,Instr.sameNow d (.agg us) (.agg vs)=none)
  (hc:∀ (w:World) (e:Bool) (a b:Int),(Instr.checkKey e 10000 kt (.agg #[.int k1 a,.int k2 b])).run P w=.ok () w)
  (he:∀ {a0 a1 b0 b1:Int},wEa P kt [.int k1 a0,.int k2 a1] [.int k1 b0,.int k2 b1] (decide (a0=b0)&&decide (a1=b1))):KeyOK P kt [k1,k2]:=by
 refine⟨fun w e ns hn=>?_,fun w ns m es hn hl h=>?_⟩
 ·obtain⟨a,b,rfl⟩:∃ a b,ns=[a,b]:=by
   match ns,hn with
   | [a,b],_=>exact⟨a,b,rfl⟩
  exact hc w e a b
 ·obtain⟨a,b,rfl⟩:∃ a b,ns=[a,b]:=by
   match ns,hn with
   | [a,b],_=>exact⟨a,b,rfl⟩
  unfold Instr.findKey;simp only[Sem.run_bind,run_underlying hu,Result.andThen_ok]
  cases es with
  | nil=>
   have:m=[]:=List.eq_nil_of_length_eq_zero (by simpa using hl.symm);subst this;simp[Instr.findNow,xE]
  | cons e r=>
   have hnow:Instr.findNow d (uq [k1,k2] [a,b]) (e::r) 0=none:=by
    unfold Instr.findNow
    cases m with
    | nil=>simp at hl
    | cons x m'=>
     obtain⟨n,c⟩:=x;obtain⟨hk,hn2⟩:=h 0 e n c rfl rfl;obtain⟨a',b',rfl⟩:∃ a b,n=[a,b]:=by
      match n,hn2 with
      | [a,b],_=>exact⟨a,b,rfl⟩
     rw[hk];have:=hd #[.int k1 a,.int k2 b] #[.int k1 a',.int k2 b'];show(match Instr.sameNow d (.agg #[.int k1 a,.int k2 b]) (.agg #[.int k1 a',.int k2 b']) with | some true=>_ | some false=>_ | none=>_)=_;rw[this]
   rw[hnow];have:=ja he w a b m (e::r) 0 hl h;simp only[Nat.zero_add] at this;exact this
end
end Go.Ep
