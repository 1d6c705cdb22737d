/- Side texts. -/
import Derived.Laws.BytesString
import Derived.Laws.IdiomStrings
import Derived.Test.YtehbkmakbdlgnaaGreatADs2
import Derived.Test.YtehbkmakbdlgnaaGreatADs3
import Derived.Test.YtehbkmakbdlgnaaGreatADs4
import Derived.Test.YtehbkmakbdlgnaaGreatADs5
import Derived.Test.YtehbkmakbdlgnaaGreatADs6
import Derived.Test.YtehbkmakbdlgnaaGreatADs7
set_option linter.unusedVariables false
set_option linter.unusedSimpArgs false
namespace Go.Ep
open Go.RowKit
def RowAt(w:World)(e:TypeId)(k:Nat)(l:List (List DV)):Option (Nat×Nat)->Value->Prop
 | none,v=>l=[]/\v=.slice none 0 0
 | some (b,cap),v=>v=.slice (some ⟨b,0,none⟩) l.length cap/\∃ cur:List Value,w.heap[b]?=some (.cells cur.toArray e (0,0))/\l.length<=cap/\cap<=maxLen/\cur.length=cap*k/\(∀ (i:Nat) (cs:List DV),l[i]?=some cs->cs.length=k) /\
   ∀ (i:Nat) (cs:List DV) (j:Nat) (x:DV),l[i]?=some cs->cs[j]?=some x->∃ u,cur[i*k+j]?=some u/\x=.v u/\u.oneCell'=true
def xga(l:List (List DV)):Prop:=∀ cs∈l,∀ x∈cs,∃ u,x=DV.v u
abbrev WN:=List (List Int×List (List DV))
def QH(R:WN):Mp:=R.map fun p=>(p.1,[DV.sl p.2])
def Dt(ctx:Ctx)(mb:Nat)(blk:Nat->Option (Nat×Nat))(b:Nat):Prop:=(ctx.S b\/ctx.w0.heap.size<=b)/\b≠mb/\∀ i c,blk i≠some (b,c)
structure RelT(ctx:Ctx)(ks:List IntKind)(e:TypeId)(k mid n:Nat)(sl:List (Nat×PV))(R:WN)(a:Act)(w:World)(g:zb)(mb:Nat)(blk:Nat->Option (Nat×Nat))(es:Array MapEntry)(ck:Nat):Prop where
 defers:a.defers=[]
 size:a.tmps.size=n
 slots:∀ i p,(PState.mk n sl []).at i=some p->Rd w g (Dt ctx mb blk) p (a.tmps.getD i undef)
 gm:∃ q,g mid=some (mb,q)
 lt:mb < w.heap.size/\(ctx.w0.heap.size<=mb\/ctx.K mb)
 hh:w.heap[mb]?=some (.map es ck)
 sz:es.size=R.length
 below:∀ b∈es.toList.map (·.born),b < ck
 nodup:(es.toList.map (·.born)).Nodup
 ent:∀ (i:Nat) (ns:List Int) (l:List (List DV)),R[i]?=some (ns,l)->∃ x,es[i]?=some x/\x.key=uq ks ns/\ns.length=ks.length/\RowAt w e k l (blk i) x.val
 inj:∀ i j b c c',blk i=some (b,c)->blk j=some (b,c')->i=j
 own:∀ i b c,blk i=some (b,c)->b < w.heap.size/\(ctx.w0.heap.size<=b\/ctx.K b)/\b≠mb
 out:∀ i,R.length<=i->blk i=none
 os:w.os=ctx.w0.os
 tape:w.tape=ctx.w0.tape
 output:w.output=ctx.w0.output
 grows:ctx.w0.heap.size<=w.heap.size
 keep:∀ q,q < ctx.w0.heap.size->¬ ctx.K q->w.heap[q]?=ctx.w0.heap[q]?
theorem at_mem{n:Nat}{sl:List (Nat×PV)}{o:List (Nat×Ob)}{i:Nat}{p:PV}(h:(PState.mk n sl o).at i=some p):(i,p)∈sl:=Wy (xL h)
theorem rd_row{w:World}{g:zb}{S:Nat->Prop}{id n:Nat}{u:Value}(h:Rd w g S (.row id n) u):(∃ b c,g id=some (b,c)/\u=.slice (some ⟨b,0,none⟩) n c)\/(g id=none/\n=0/\u=.slice none 0 0):=by
 cases h with
 | row _ _ b c h=>exact .inl ⟨b,c,h,rfl⟩
 | rowNil _ h=>exact .inr ⟨h,rfl,rfl⟩
section
variable{ctx:Ctx}{ks:List IntKind}{e:TypeId}{k mid n:Nat}{sl:List (Nat×PV)}{a:Act}{w:World}{g:zb}
theorem RelT.start{bs0:List Nat}{ck0:Nat}(h:RelG ctx g ⟨n,sl,[(mid,.map ks false [] bs0 ck0)]⟩ a w):∃ mb es ck,RelT ctx ks e k mid n sl [] a w g mb (fun _=>none) es ck:=by
 have hl:look [(mid,Ob.map ks false [] bs0 ck0)] mid=some (.map ks false [] bs0 ck0):=by simp[look]
 cases h.objs mid _ hl with
 | map _ _ _ _ _ blk q es hg hh hm=>
  refine⟨blk,es,ck0,h.defers,h.size,fun i p hp=>?_,⟨q,hg⟩,h.own mid _ blk q hl hg,hh,hm.size,by rw[<- hm.stamps];exact hm.below,by rw[<- hm.stamps];exact hm.nodup,(fun i ns l hi=>by simp at hi),(fun i j b c c' hi=>by cases hi),(fun i b c hi=>by cases hi),fun _ _=>rfl,h.os,h.tape,h.output,h.grows,h.keep⟩;refine(h.slots i p hp).keep ⟨Nat.le_refl _,fun _ _ _=>rfl⟩ (fun b hb _=>⟨hb.1,fun eb=>?_,fun i c hc=>by cases hc⟩) (fun _ _=>rfl);subst eb;exact hb.2 mid _ q hl hg
theorem cell_cur{b:Nat}{cur:List Value}(hh:w.heap[b]?=some (.cells cur.toArray e (0,0)))(o:Nat):w.cell? ⟨b,o,none⟩=cur[o]?:=zU hh o
theorem RelT.done{R:WN}{mb:Nat}{blk:Nat->Option (Nat×Nat)}{es:Array MapEntry}{ck:Nat}(hK:∀ b,ctx.K b->ctx.S b)(h:RelT ctx ks e k mid n sl R a w g mb blk es ck):RelG ctx g ⟨n,sl,[(mid,.map ks false (QH R) (es.toList.map (·.born)) ck)]⟩ a w:=by
 obtain⟨q,hg⟩:=h.gm;have hlk:∀ id o,look [(mid,Ob.map ks false (QH R) (es.toList.map (·.born)) ck)] id=some o->id=mid:=fun id o ho=>by
  simp only[look] at ho
  split at ho
  ·assumption
  ·cases ho
 have hfree:∀ b,(ctx.S b\/ctx.w0.heap.size<=b)->b≠mb->zk ctx g [(mid,Ob.map ks false (QH R) (es.toList.map (·.born)) ck)] b:=fun b h1 h2=>⟨h1,fun id o m ho hgi=>by
  rw[hlk id o ho,hg] at hgi;cases hgi;exact h2 rfl⟩
 refine⟨h.defers,h.size,fun i p hp=>?_,fun id o ho=>?_,fun i j oi oj b m m' hi hj _ _=>by rw[hlk i oi hi,hlk j oj hj],fun id o b m ho hgi=>?_,h.os,h.tape,h.output,h.grows,h.keep⟩
 ·exact(h.slots i p hp).keep ⟨Nat.le_refl _,fun _ _ _=>rfl⟩ (fun b hb _=>hfree b hb.1 hb.2.1) (fun _ _=>rfl)
 ·have hid:=hlk id o ho;subst hid;simp only[look,if_true] at ho
  cases ho
  refine .map ks false _ _ ck mb q es hg h.hh ⟨by simp[QH,h.sz],rfl,h.below,h.nodup,fun i ns cs hi=>?_⟩;unfold QH at hi;rw[List.getElem?_map] at hi
  cases hR:R[i]? with
  | none=>rw[hR] at hi;cases hi
  | some r=>
   obtain⟨ns',l⟩:=r;rw[hR] at hi;simp only[Option.map_some,Option.some.injEq,Prod.mk.injEq] at hi;obtain⟨rfl,rfl⟩:=hi;obtain⟨x,h1,h2,h3,h4⟩:=h.ent i _ l hR;have hd:DRd w (zk ctx g [(id,Ob.map ks false (QH R) (es.toList.map (·.born)) ck)]) (.sl l) x.val:=by
    cases hb:blk i with
    | none=>
     rw[hb] at h4;obtain⟨rfl,hv⟩:=h4;rw[hv];exact .nil none 0 (Nat.zero_le _) (fun _=>rfl)
    | some bc=>
     obtain⟨b,cap⟩:=bc;rw[hb] at h4;obtain⟨hv,cur,hc,hlc,hcap,hcl,hkk,hr⟩:=h4;rw[hv];obtain⟨o1,o2,o3⟩:=h.own i b cap hb;refine .sl l b 0 cap k (fun i j=>cur.getD (i*k+j) undef) hlc hcap (hfree b (o2.elim .inr fun q=>.inl (hK b q)) o3) o1 hkk (fun i' j' hi' hj'=>?_) fun i' cs j' x' hi' hx'=>?_
     ·rw[cell_cur hc,Nat.zero_add];have:i'*k+j' < cur.length:=by rw[hcl];exact vl (by omega) hj'
      simp[List.getD,this]
     ·obtain⟨u,hu,rfl,h1⟩:=hr i' cs j' x' hi' hx';simp only[List.getD,hu,Option.getD_some];exact .v u h1
   refine⟨x,[x.val],h1,h2,rfl,rfl,fun _=>rfl,fun u hu=>by rw[List.mem_singleton] at hu;rw[hu];exact hd.one,h3,fun j y u hy hu=>?_⟩
   cases j with
   | zero=>simp at hy hu;subst hy;subst hu;exact hd
   | succ j=>simp at hy
 ·rw[hlk id o ho,hg] at hgi
  cases hgi
  exact h.lt
def uW(R:WN)(es:Array MapEntry):List (List Int×Value):=List.zipWith (fun r x=>(r.1,x.val)) R es.toList
theorem vb{R:WN}{es:Array MapEntry}(h:es.size=R.length):(uW R es).length=R.length:=by simp[uW,h]
theorem zca{R:WN}{es:Array MapEntry}(h:es.size=R.length):(uW R es).map (·.1)=R.map (·.1):=by
 apply List.ext_getElem?;intro i;simp only[uW,List.getElem?_map,List.getElem?_zipWith]
 cases hR:R[i]? with
 | none=>simp
 | some r=>
  have:i < es.toList.length:=by have:=(List.getElem?_eq_some_iff.1 hR).1;simp;omega
  simp[List.getElem?_eq_getElem this]
theorem zda{R:WN}{es:Array MapEntry}{i:Nat}{ns:List Int}{u:Value}(h:(uW R es)[i]?=some (ns,u)):∃ l x,R[i]?=some (ns,l)/\es[i]?=some x/\x.val=u:=by
 simp only[uW,List.getElem?_zipWith] at h
 cases hR:R[i]? with
 | none=>rw[hR] at h;cases h
 | some r=>
  cases hx:es.toList[i]? with
  | none=>rw[hR,hx] at h;cases h
  | some x=>
   rw[hR,hx] at h;simp only[Option.some.injEq,Prod.mk.injEq] at h;exact⟨r.2,x,by rw[<- h.1],by simpa using hx,h.2⟩
theorem jB{R:WN}{es:Array MapEntry}{i:Nat}{ns:List Int}{l:List (List DV)}{x:MapEntry}(h:R[i]?=some (ns,l))(hx:es[i]?=some x):(uW R es)[i]?=some (ns,x.val):=by
 have hx':es.toList[i]?=some x:=by simpa using hx
 rw[uW,List.getElem?_zipWith,h,hx']
def ctxT(ctx:Ctx)(mb:Nat)(blk:Nat->Option (Nat×Nat))(j:Nat)(w:World):Ctx:=⟨w,Dt ctx mb blk,fun b=>b=mb\/∃ c,blk j=some (b,c)⟩
section
variable{R:WN}{mb:Nat}{blk:Nat->Option (Nat×Nat)}{es:Array MapEntry}{ck:Nat}
theorem RelT.found(h:RelT ctx ks e k mid n sl R a w g mb blk es ck)(hnm:∀ x∈sl,∀ id,x.2.has id=true->id=mid)(hm:mid≠50){j:Nat}{ns:List Int}{l:List (List DV)}(hj:R[j]?=some (ns,l)) :
  RelG (ctxT ctx mb blk j w) (upd g 50 (blk j)) ⟨n,sl,[(mid,.mapP ks (uW R es) (some (j,.row 50 l.length)) (es.toList.map (·.born)) ck),(50,.row e k l)]⟩ a w:=by
 obtain⟨q,hg⟩:=h.gm;have hgm:upd g 50 (blk j) mid=some (mb,q):=by rw[ya hm];exact hg
 have hg5:upd g 50 (blk j) 50=blk j:=zQ _ _ _;have hlk:∀ id o,look [(mid,Ob.mapP ks (uW R es) (some (j,.row 50 l.length)) (es.toList.map (·.born)) ck),(50,Ob.row e k l)] id=some o->(id=mid/\o=.mapP ks (uW R es) (some (j,.row 50 l.length)) (es.toList.map (·.born)) ck)\/(id=50/\o=.row e k l):=fun id o ho=>by
  simp only[look] at ho
  split at ho
  ·cases ho;exact .inl ⟨by assumption,rfl⟩
  ·split at ho
   ·cases ho;exact .inr ⟨by assumption,rfl⟩
   ·cases ho
 have hfree:∀ b,Dt ctx mb blk b->zk (ctxT ctx mb blk j w) (upd g 50 (blk j)) [(mid,Ob.mapP ks (uW R es) (some (j,.row 50 l.length)) (es.toList.map (·.born)) ck),(50,Ob.row e k l)] b:=fun b hb=>⟨.inl hb,fun id o m ho hgi=>by
  rcases hlk id o ho with⟨rfl,_⟩ | ⟨rfl,_⟩
  ·rw[hgm] at hgi;cases hgi;exact hb.2.1 rfl
  ·rw[hg5] at hgi;exact hb.2.2 j m hgi⟩
 obtain⟨x,h1,h2,h3,h4⟩:=h.ent j ns l hj;refine⟨h.defers,h.size,fun i p hp=>?_,fun id o ho=>?_,fun i i' oi oj b m m' hi hi' hgi hgj=>?_,fun id o b m ho hgi=>?_,rfl,rfl,rfl,Nat.le_refl _,fun _ _ _=>rfl⟩
 ·exact(h.slots i p hp).keep ⟨Nat.le_refl _,fun _ _ _=>rfl⟩ (fun b hb _=>hfree b hb) (fun id hid=>by rw[hnm _ (at_mem hp) id hid,hgm,hg])
 ·rcases hlk id o ho with⟨rfl,rfl⟩ | ⟨rfl,rfl⟩
  ·refine .mapP ks _ _ _ ck mb q es hgm h.hh (by rw[vb h.sz,h.sz]) rfl h.below h.nodup (fun i ns' u hi=>?_) fun j' p hjp=>?_
   ·obtain⟨l',x',r1,r2,r3⟩:=zda hi;obtain⟨x2,s1,s2,s3,s4⟩:=h.ent i ns' l' r1;rw[r2] at s1;cases s1;refine⟨x',r2,s2,s3,?_,fun _=>r3⟩
    cases hb:blk i with
    | none=>rw[hb] at s4;rw[s4.2];rfl
    | some bc=>obtain⟨b,c⟩:=bc;rw[hb] at s4;rw[s4.1];rfl
   ·cases hjp
    refine⟨x,h1,?_⟩
    cases hb:blk j with
    | none=>rw[hb] at h4;obtain⟨rfl,hv⟩:=h4;rw[hv];exact .rowNil 50 (zQ _ _ _)
    | some bc=>obtain⟨b,c⟩:=bc;rw[hb] at h4;rw[h4.1];exact .row 50 _ b c (zQ _ _ _)
  ·cases hb:blk j with
   | none=>rw[hb] at h4;obtain⟨rfl,hv⟩:=h4;exact .rowNil e k (zQ _ _ _)
   | some bc=>
    obtain⟨b,c⟩:=bc;rw[hb] at h4;obtain⟨hv,cur,hc,hlc,hcap,hcl,hkk,hr⟩:=h4;refine .row e k l b c cur (zQ _ _ _) hc hlc hcap hcl hkk fun i' cs j' x' hi' hx'=>?_
    obtain⟨u,hu,rfl,ho1⟩:=hr i' cs j' x' hi' hx';exact⟨u,hu,.v u ho1⟩
 ·rcases hlk i oi hi with⟨rfl,_⟩ | ⟨rfl,_⟩ <;> rcases hlk i' oj hi' with⟨rfl,_⟩ | ⟨rfl,_⟩
  ·rfl
  ·rw[hgm] at hgi;cases hgi;rw[hg5] at hgj;exact((h.own j _ _ hgj).2.2 rfl).elim
  ·rw[hgm] at hgj;cases hgj;rw[hg5] at hgi;exact((h.own j _ _ hgi).2.2 rfl).elim
  ·rfl
 ·rcases hlk id o ho with⟨rfl,_⟩ | ⟨rfl,_⟩
  ·rw[hgm] at hgi;cases hgi;exact⟨h.lt.1,.inr (.inl rfl)⟩
  ·rw[hg5] at hgi;exact⟨(h.own j _ _ hgi).1,.inr (.inr ⟨_,hgi⟩)⟩
theorem RelT.fresh(h:RelT ctx ks e k mid n sl R a w g mb blk es ck)(j:Nat) :
  RelG (ctxT ctx mb blk j w) g ⟨n,sl,[(mid,.mapP ks (uW R es) none (es.toList.map (·.born)) ck)]⟩ a w:=by
 obtain⟨q,hg⟩:=h.gm;have hlk:∀ id o,look [(mid,Ob.mapP ks (uW R es) none (es.toList.map (·.born)) ck)] id=some o->id=mid/\o=.mapP ks (uW R es) none (es.toList.map (·.born)) ck:=fun id o ho=>by
  simp only[look] at ho
  split at ho
  ·cases ho;exact⟨by assumption,rfl⟩
  ·cases ho
 have hfree:∀ b,Dt ctx mb blk b->zk (ctxT ctx mb blk j w) g [(mid,Ob.mapP ks (uW R es) none (es.toList.map (·.born)) ck)] b:=fun b hb=>⟨.inl hb,fun id o m ho hgi=>by
  rw[(hlk id o ho).1,hg] at hgi;cases hgi;exact hb.2.1 rfl⟩
 refine⟨h.defers,h.size,fun i p hp=>?_,fun id o ho=>?_,fun i i' oi oj b m m' hi hi' hgi hgj=>?_,fun id o b m ho hgi=>?_,rfl,rfl,rfl,Nat.le_refl _,fun _ _ _=>rfl⟩
 ·exact(h.slots i p hp).keep ⟨Nat.le_refl _,fun _ _ _=>rfl⟩ (fun b hb _=>hfree b hb) (fun _ _=>rfl)
 ·obtain⟨rfl,rfl⟩:=hlk id o ho;refine .mapP ks _ _ _ ck mb q es hg h.hh (by rw[vb h.sz,h.sz]) rfl h.below h.nodup (fun i ns' u hi=>?_) fun j' p hjp=>by cases hjp
  obtain⟨l',x',r1,r2,r3⟩:=zda hi;obtain⟨x2,s1,s2,s3,s4⟩:=h.ent i ns' l' r1;rw[r2] at s1;cases s1;refine⟨x',r2,s2,s3,?_,fun _=>r3⟩
  cases hb:blk i with
  | none=>rw[hb] at s4;rw[s4.2];rfl
  | some bc=>obtain⟨b,c⟩:=bc;rw[hb] at s4;rw[s4.1];rfl
 ·rw[(hlk i oi hi).1,(hlk i' oj hi').1]
 ·rw[(hlk id o ho).1,hg] at hgi;cases hgi;exact⟨h.lt.1,.inr (.inl rfl)⟩
theorem RelT.back(h:RelT ctx ks e k mid n sl R a w g mb blk es ck){j q:Nat}{ns:List Int}{l:List (List DV)}{R':WN}{vm:List (List Int×Value)}{sl':List (Nat×PV)}{a':Act}{w':World}{g':zb}{bs':List Nat}{ck':Nat}(hq:mid≠q)(hle:R.length<=R'.length)
  (hvl:vm.length=R'.length) (hj:R'[j]?=some (ns,l)) (hjv:∃ u,vm[j]?=some (ns,u)) (hvm:∀ i ns' l',i≠j->R'[i]?=some (ns',l')->R[i]?=some (ns',l')/\∃ x,es[i]?=some x/\vm[i]?=some (ns',x.val)) (hpl:xga l)
  (hr:RelG (ctxT ctx mb blk j w) g' ⟨n,sl',[(mid,.mapP ks vm (some (j,.row q l.length)) bs' ck'),(q,.row e k l)]⟩ a' w') :
  ∃ mb' blk' es',RelT ctx ks e k mid n sl' R' a' w' g' mb' blk' es' ck':=by
 have hlm:look [(mid,Ob.mapP ks vm (some (j,.row q l.length)) bs' ck'),(q,Ob.row e k l)] mid=some (.mapP ks vm (some (j,.row q l.length)) bs' ck'):=by simp[look]
 have hlq:look [(mid,Ob.mapP ks vm (some (j,.row q l.length)) bs' ck'),(q,Ob.row e k l)] q=some (.row e k l):=by simp[look,Ne.symm hq]
 cases hr.objs mid _ hlm with
 | mapP _ _ _ _ _ mb' n' es' hgm hh hsz hst hbl hnd hent hov=>
  subst hst;have hgr:w.heap.size<=w'.heap.size:=hr.grows;have hbase:ctx.w0.heap.size<=w.heap.size:=h.grows;have hown:∀ id o b m,look [(mid,Ob.mapP ks vm (some (j,.row q l.length)) (es'.toList.map (·.born)) ck'),(q,Ob.row e k l)] id=some o->g' id=some (b,m)->b < w'.heap.size/\(w.heap.size<=b\/b=mb\/∃ c,blk j=some (b,c)):=fun id o b m ho hg=>hr.own id o b m ho hg
  have hnew:∀ b,(w.heap.size<=b\/b=mb\/∃ c,blk j=some (b,c))->ctx.w0.heap.size<=b\/ctx.K b:=fun b hb=>by
   rcases hb with hb | hb | ⟨c,hb⟩
   ·exact .inl (by omega)
   ·subst hb;exact h.lt.2
   ·exact(h.own j b c hb).2.1
  have hkeep:∀ i b c,i≠j->blk i=some (b,c)->w'.heap[b]?=w.heap[b]?:=fun i b c hij hb=>hr.keep b (h.own i b c hb).1 fun hk=>by
   rcases hk with hk | ⟨c',hk⟩
   ·exact(h.own i b c hb).2.2 hk
   ·exact hij (h.inj i j b c c' hb hk)
  have hdiff:∀ i b c,i≠j->blk i=some (b,c)->¬ (w.heap.size<=b\/b=mb\/∃ c,blk j=some (b,c)):=fun i b c hij hb hk=>by
   rcases hk with hk | hk | ⟨c',hk⟩
   ·have:=(h.own i b c hb).1;omega
   ·exact(h.own i b c hb).2.2 hk
   ·exact hij (h.inj i j b c c' hb hk)
  refine⟨mb',fun i=>if i=j then g' q else blk i,es',hr.defers,hr.size,fun i p hp=>?_,⟨n',hgm⟩,⟨(hown mid _ mb' n' hlm hgm).1,hnew mb' (hown mid _ mb' n' hlm hgm).2⟩,hh,by rw[hsz,hvl],hbl,hnd,fun i ns' l' hi=>?_,fun i i' b c c' hi hi'=>?_,fun i b c hi=>?_,fun i hi=>?_,?_,?_,?_,by omega,fun z hz hzK=>?_⟩
  ·refine(hr.slots i p hp).keep ⟨Nat.le_refl _,fun _ _ _=>rfl⟩ (fun b hb _=>⟨?_,fun eb=>?_,fun i' c hc=>?_⟩) (fun _ _=>rfl)
   ·rcases hb.1 with h1 | h1
    ·exact h1.1
    ·have h1':w.heap.size<=b:=h1;exact .inr (by omega)
   ·subst eb;exact hb.2 mid _ n' hlm hgm
   ·simp only at hc
    split at hc
    ·exact hb.2 q _ c hlq hc
    ·rcases hb.1 with h1 | h1
     ·exact h1.2.2 i' c hc
     ·have h1':w.heap.size<=b:=h1;have:=(h.own i' b c hc).1;omega
  ·by_cases hij:i=j
   ·subst hij;rw[hj] at hi
    cases hi
    obtain⟨u,hu⟩:=hjv;obtain⟨x,r1,r2,r3,_,_⟩:=hent i _ u hu;obtain⟨x',s1,s2⟩:=hov i _ rfl;rw[r1] at s1
    cases s1
    refine⟨x,r1,r2,r3,?_⟩;simp only[if_true];have h2:=rd_row s2
    generalize hL:l.length=L at h2
    cases hr.objs q _ hlq with
    | rowNil _ _ hgq=>
     rw[hgq];rcases h2 with⟨b,c,hgi,_⟩ | ⟨_,_,hv⟩
     ·rw[hgq] at hgi;cases hgi
     ·exact⟨rfl,hv⟩
    | row _ _ _ b c cur hgq hc hlc hcap hcl hkk hrr=>
     rw[hgq];rcases h2 with⟨b',c',hgi,hv⟩ | ⟨hgi,_,_⟩
     ·rw[hgq] at hgi
      cases hgi
      subst hL;refine⟨hv,cur,hc,hlc,hcap,hcl,hkk,fun i' cs j' y hi' hy=>?_⟩;obtain⟨u',hu',hd⟩:=hrr i' cs j' y hi' hy;obtain⟨u2,rfl⟩:=hpl cs (List.mem_of_getElem? hi') y (List.mem_of_getElem? hy)
      cases hd with
      | v _ h1=>exact⟨_,hu',rfl,h1⟩
     ·rw[hgq] at hgi;cases hgi
   ·obtain⟨r0,x0,e0,r1⟩:=hvm i ns' l' hij hi;obtain⟨x,s1,s2,s3,s4,s5⟩:=hent i _ _ r1;refine⟨x,s1,s2,s3,?_⟩;have hxv:=s5 fun p hp=>by cases hp;exact hij rfl
    simp only[if_neg hij];obtain⟨x',t1,_,_,t4⟩:=h.ent i ns' l' r0;rw[e0] at t1
    cases t1
    rw[hxv]
    cases hb:blk i with
    | none=>rw[hb] at t4;exact t4
    | some bc=>
     obtain⟨b,c⟩:=bc;rw[hb] at t4;obtain⟨hv,cur,hc,rest⟩:=t4;exact⟨hv,cur,by rw[hkeep i b c hij hb];exact hc,rest⟩
  ·have hi0:=hi;have hi0':=hi';clear hi hi';have hi:(if i=j then g' q else blk i)=some (b,c):=hi0;have hi':(if i'=j then g' q else blk i')=some (b,c'):=hi0'
   by_cases h1:i=j <;> by_cases h2:i'=j
   ·rw[h1,h2]
   ·rw[if_pos h1] at hi;rw[if_neg h2] at hi';exact(hdiff i' b c' h2 hi' (hown q _ b c hlq hi).2).elim
   ·rw[if_neg h1] at hi;rw[if_pos h2] at hi';exact(hdiff i b c h1 hi (hown q _ b c' hlq hi').2).elim
   ·rw[if_neg h1] at hi;rw[if_neg h2] at hi';exact h.inj i i' b c c' hi hi'
  ·replace hi:(if i=j then g' q else blk i)=some (b,c):=hi
   by_cases h1:i=j
   ·rw[if_pos h1] at hi;have:=hown q _ b c hlq hi;exact⟨this.1,hnew b this.2,fun eb=>by subst eb;exact hq (hr.inj mid q _ _ b n' c hlm hlq hgm hi)⟩
   ·rw[if_neg h1] at hi;have:=h.own i b c hi;exact⟨by omega,this.2.1,fun eb=>by subst eb;exact hdiff i b c h1 hi (hown mid _ b n' hlm hgm).2⟩
  ·have hjl:=(List.getElem?_eq_some_iff.1 hj).1;simp only[if_neg (show i≠j by omega)];exact h.out i (by omega)
  ·rw[<- h.os];exact hr.os
  ·rw[<- h.tape];exact hr.tape
  ·rw[<- h.output];exact hr.output
  ·rw[<- h.keep z hz hzK];refine hr.keep z (Nat.lt_of_lt_of_le hz hbase) fun hk=>?_
   rcases hk with hk | ⟨c,hk⟩
   ·subst hk;rcases h.lt.2 with h1 | h1
    ·omega
    ·exact hzK h1
   ·rcases(h.own j z c hk).2.1 with h1 | h1
    ·omega
    ·exact hzK h1
theorem RelT.back0(h:RelT ctx ks e k mid n sl R a w g mb blk es ck){j:Nat}(hjn:blk j=none){sl':List (Nat×PV)}{a':Act}{w':World}{g':zb}{bs':List Nat}{ck':Nat}
  (hr:RelG (ctxT ctx mb blk j w) g' ⟨n,sl',[(mid,.mapP ks (uW R es) none bs' ck')]⟩ a' w') :
  ∃ mb' es',RelT ctx ks e k mid n sl' R a' w' g' mb' blk es' ck':=by
 have hlm:look [(mid,Ob.mapP ks (uW R es) none bs' ck')] mid=some (.mapP ks (uW R es) none bs' ck'):=by simp[look]
 cases hr.objs mid _ hlm with
 | mapP _ _ _ _ _ mb' n' es' hgm hh hsz hst hbl hnd hent hov=>
  subst hst;have hgr:w.heap.size<=w'.heap.size:=hr.grows;have hbase:ctx.w0.heap.size<=w.heap.size:=h.grows;have hown:mb' < w'.heap.size/\(w.heap.size<=mb'\/mb'=mb\/∃ c,blk j=some (mb',c)):=hr.own mid _ mb' n' hlm hgm;have hown2:w.heap.size<=mb'\/mb'=mb:=by
   rcases hown.2 with h1 | h1 | ⟨c,h1⟩
   ·exact .inl h1
   ·exact .inr h1
   ·rw[hjn] at h1;cases h1
  have hkeep:∀ i b c,blk i=some (b,c)->w'.heap[b]?=w.heap[b]?:=fun i b c hb=>hr.keep b (h.own i b c hb).1 fun hk=>by
   rcases hk with hk | ⟨c',hk⟩
   ·exact(h.own i b c hb).2.2 hk
   ·rw[hjn] at hk;cases hk
  refine⟨mb',es',hr.defers,hr.size,fun i p hp=>?_,⟨n',hgm⟩,⟨hown.1,?_⟩,hh,by rw[hsz,vb h.sz],hbl,hnd,fun i ns' l' hi=>?_,h.inj,fun i b c hi=>?_,h.out,?_,?_,?_,by omega,fun z hz hzK=>?_⟩
  ·refine(hr.slots i p hp).keep ⟨Nat.le_refl _,fun _ _ _=>rfl⟩ (fun b hb _=>⟨?_,fun eb=>?_,fun i' c hc=>?_⟩) (fun _ _=>rfl)
   ·rcases hb.1 with h1 | h1
    ·exact h1.1
    ·have h1':w.heap.size<=b:=h1;exact .inr (by omega)
   ·subst eb;exact hb.2 mid _ n' hlm hgm
   ·rcases hb.1 with h1 | h1
    ·exact h1.2.2 i' c hc
    ·have h1':w.heap.size<=b:=h1;have:=(h.own i' b c hc).1;omega
  ·rcases hown2 with h1 | h1
   ·exact .inl (by omega)
   ·rw[h1];exact h.lt.2
  ·obtain⟨x',t1,t2,t3,t4⟩:=h.ent i ns' l' hi;obtain⟨x,s1,s2,s3,s4,s5⟩:=hent i _ _ (jB hi t1);refine⟨x,s1,s2,s3,?_⟩;rw[s5 fun p hp=>by cases hp]
   cases hb:blk i with
   | none=>rw[hb] at t4;exact t4
   | some bc=>
    obtain⟨b,c⟩:=bc;rw[hb] at t4;obtain⟨hv,cur,hc,rest⟩:=t4;exact⟨hv,cur,by rw[hkeep i b c hb];exact hc,rest⟩
  ·have:=h.own i b c hi;refine⟨by omega,this.2.1,fun eb=>?_⟩;rcases hown2 with h1 | h1
   ·omega
   ·exact this.2.2 (by rw[eb,h1])
  ·rw[<- h.os];exact hr.os
  ·rw[<- h.tape];exact hr.tape
  ·rw[<- h.output];exact hr.output
  ·rw[<- h.keep z hz hzK];refine hr.keep z (Nat.lt_of_lt_of_le hz hbase) fun hk=>?_
   rcases hk with hk | ⟨c,hk⟩
   ·subst hk;rcases h.lt.2 with h1 | h1
    ·omega
    ·exact hzK h1
   ·rw[hjn] at hk;cases hk
end
end
section
variable{P:Program}{ctx:Ctx}{ks:List IntKind}{e:TypeId}{k mid n:Nat}{Q:PQ}{s:PState}{c:Code}
inductive RoundT (P:Program) (c:Code) (ks:List IntKind) (e:TypeId) (k mid n:Nat) (sl:List (Nat×PV)) (R:WN) (sl':List (Nat×PV)) (R':WN):Prop
 | found {j nl nl':Nat} {ns:List Int} {l l':List (List DV)} (hl:nl=l.length) (hl':nl'=l'.length) (hj:R[j]?=some (ns,l)) (hR:R'=R.set j (ns,l'))
   (h:∀ (ctx:Ctx) (vm:List (List Int×Value)) (bs:List Nat) (ck:Nat),vm.map (·.1)=R.map (·.1)->PWc P ctx c (fun x t=>x=.normal/\Sub ctx t ⟨n,sl',[(mid,.mapP ks vm (some (j,.row 50 nl')) bs ck),(50,.row e k l')]⟩) ⟨n,sl,[(mid,.mapP ks vm (some (j,.row 50 nl)) bs ck),(50,.row e k l)]⟩)
 | fresh {q nl':Nat} {ns:List Int} {l':List (List DV)} (hl':nl'=l'.length) (hq:mid≠q) (hR:R'=R++[(ns,l')])
   (h:∀ (ctx:Ctx) (vm:List (List Int×Value)) (bs:List Nat) (ck:Nat),vm.map (·.1)=R.map (·.1)->PWc P ctx c (fun x t=>x=.normal/\Sub ctx t ⟨n,sl',[(mid,.mapP ks (vm++[(ns,undef)]) (some (vm.length,.row q nl')) (bs++[ck]) (ck+1)),(q,.row e k l')]⟩) ⟨n,sl,[(mid,.mapP ks vm none bs ck)]⟩)
 | skip (hR:R'=R) (h:∀ (ctx:Ctx) (vm:List (List Int×Value)) (bs:List Nat) (ck:Nat),PWc P ctx c (fun x t=>x=.normal/\Sub ctx t ⟨n,sl',[(mid,.mapP ks vm none bs ck)]⟩) ⟨n,sl,[(mid,.mapP ks vm none bs ck)]⟩)
theorem RoundT.run{sl sl':List (Nat×PV)}{R R':WN}(hr:RoundT P c ks e k mid n sl R sl' R')(hm:mid≠50)(hnm:∀ x∈sl,∀ id,x.2.has id=true->id=mid)(hpl:∀ p∈R',xga p.2)
  {a:Act} {w:World} {g:zb} {mb:Nat} {blk:Nat->Option (Nat×Nat)} {es:Array MapEntry} {ck:Nat} (h:RelT ctx ks e k mid n sl R a w g mb blk es ck) :
  c.wp P (fun x a' w'=>x=.normal/\∃ g' mb' blk' es' ck',RelT ctx ks e k mid n sl' R' a' w' g' mb' blk' es' ck') a w:=by
 cases hr with
 | @found j nl nl' ns l l' hl hl' hj hR hw=>
  subst hl hl';refine wp_mono (hw (ctxT ctx mb blk j w) (uW R es) (es.toList.map (·.born)) ck (zca h.sz) a w ⟨_,h.found hnm hm hj⟩) fun x a' w' ⟨t,⟨hx,hs⟩,ht⟩=>⟨hx,?_⟩
  obtain⟨g',hg'⟩:=hs a' w' ht;subst hR;have hjl:=(List.getElem?_eq_some_iff.1 hj).1;obtain⟨x0,e0,_,_,_⟩:=h.ent j ns l hj;have hj':(R.set j (ns,l'))[j]?=some (ns,l'):=by rw[List.getElem?_set_self hjl]
  obtain⟨mb',blk',es',hT⟩:=h.back (R':=R.set j (ns,l')) (vm:=uW R es) (q:=50) hm (by simp) (by rw[vb h.sz];simp) hj' ⟨x0.val,jB hj e0⟩ (fun i ns' l2 hij hi=>by
   rw[List.getElem?_set_ne (Ne.symm hij)] at hi;obtain⟨x1,e1,_⟩:=h.ent i ns' l2 hi;exact⟨hi,x1,e1,jB hi e1⟩) (hpl _ (List.mem_of_getElem? hj')) hg'
  exact⟨g',mb',blk',es',_,hT⟩
 | @fresh q nl' ns l' hl' hq hR hw=>
  subst hl';refine wp_mono (hw (ctxT ctx mb blk R.length w) (uW R es) (es.toList.map (·.born)) ck (zca h.sz) a w ⟨_,h.fresh R.length⟩) fun x a' w' ⟨t,⟨hx,hs⟩,ht⟩=>⟨hx,?_⟩
  obtain⟨g',hg'⟩:=hs a' w' ht;subst hR;have hj':(R++[(ns,l')])[R.length]?=some (ns,l'):=by simp
  rw[vb h.sz] at hg';obtain⟨mb',blk',es',hT⟩:=h.back (R':=R++[(ns,l')]) (j:=R.length) (vm:=uW R es++[(ns,undef)]) (q:=q) hq (by simp) (by simp[vb h.sz]) hj' ⟨undef,by rw[List.getElem?_append_right (by rw[vb h.sz];exact Nat.le_refl _)];simp[vb h.sz]⟩ (fun i ns' l2 hij hi=>by
   have hil:i < R.length:=by
    have:=(List.getElem?_eq_some_iff.1 hi).1;simp at this;omega
   rw[List.getElem?_append_left hil] at hi;obtain⟨x1,e1,_⟩:=h.ent i ns' l2 hi;exact⟨hi,x1,e1,by rw[List.getElem?_append_left (by rw[vb h.sz];exact hil)];exact jB hi e1⟩) (hpl _ (List.mem_of_getElem? hj')) hg'
  exact⟨g',mb',blk',es',_,hT⟩
 | skip hR hw=>
  refine wp_mono (hw (ctxT ctx mb blk R.length w) (uW R es) (es.toList.map (·.born)) ck a w ⟨_,h.fresh R.length⟩) fun x a' w' ⟨t,⟨hx,hs⟩,ht⟩=>⟨hx,?_⟩
  obtain⟨g',hg'⟩:=hs a' w' ht;subst hR;obtain⟨mb',es',hT⟩:=h.back0 (h.out _ (Nat.le_refl _)) hg';exact⟨g',mb',blk,es',_,hT⟩
theorem PWc.loopRows{bid N:Nat}(J:Nat->List (Nat×PV))(R:Nat->WN)(Jf:List (Nat×PV))(bs0:List Nat)(ck0:Nat)(hK:∀ b,ctx.K b->ctx.S b)(hm:mid≠50)(hJ:∀ i,∀ x∈J i,∀ id,x.2.has id=true->id=mid)
  (h0:R 0=[]) (hpl:∀ i,∀ p∈R i,xga p.2) (hs:Sub ctx s ⟨n,J 0,[(mid,.map ks false [] bs0 ck0)]⟩)
  (round:∀ i,i < N->RoundT P c ks e k mid n (J i) (R i) (J (i+1)) (R (i+1)))
  (mf:Mp) (hmf:QH (R N)=mf) (last:∀ (ctx:Ctx) (vm:List (List Int×Value)) (bs:List Nat) (ck:Nat),PWc P ctx c (fun x t=>x=.exit bid/\Sub ctx t ⟨n,Jf,[(mid,.mapP ks vm none bs ck)]⟩) ⟨n,J N,[(mid,.mapP ks vm none bs ck)]⟩)
  (hQ:∀ bs ck,Q (.exit bid) ⟨n,Jf,[(mid,.map ks false mf bs ck)]⟩):PWc P ctx (.loop c) Q s:=by
 subst hmf;intro a w hr;refine LoopAt.loop ?_;have key:∀ d i,i+d=N->∀ a w g mb blk es ck,RelT ctx ks e k mid n (J i) (R i) a w g mb blk es ck->LoopAt P c (lift ctx Q) a w:=by
  intro d
  induction d with
  | zero=>
   intro i hi a w g mb blk es ck h;have:i=N:=by omega
   subst this;refine LoopAt.step (wp_mono (last (ctxT ctx mb blk (R i).length w) (uW (R i) es) (es.toList.map (·.born)) ck a w ⟨_,h.fresh (R i).length⟩) fun x a' w' ⟨t,⟨hx,hsb⟩,ht⟩=>?_);obtain⟨g',hg'⟩:=hsb a' w' ht;obtain⟨mb',es',hT⟩:=h.back0 (h.out _ (Nat.le_refl _)) hg';subst hx;exact⟨_,hQ _ _,g',hT.done hK⟩
  | succ d ih=>
   intro i hi a w g mb blk es ck h;refine LoopAt.step (wp_mono ((round i (by omega)).run hm (hJ i) (hpl (i+1)) h) fun x a' w' ⟨hx,g',mb',blk',es',ck',hT⟩=>?_);subst hx;exact ih (i+1) (by omega) a' w' g' mb' blk' es' ck' hT
 obtain⟨g,hg⟩:=hs a w hr;obtain⟨mb,es,ck,hT⟩:=RelT.start (e:=e) (k:=k) hg;rw[<- h0] at hT;exact key N 0 (by omega) a w g mb _ es ck hT
end
section
variable{κ α:Type}{eK:κ->List Int}{enc:α->List DV}
def vp(eK:κ->List Int)(enc:α->List DV)(m:List (κ×List α)):WN:=m.map fun x=>(eK x.1,x.2.map enc)
theorem xha(m:List (κ×List α)):QH (vp eK enc m)=zO eK (eL enc) m:=by simp[QH,vp,zO,eL]
theorem Uc(h:∀ x,∀ d∈enc x,∃ u,d=DV.v u)(m:List (κ×List α)):∀ p∈vp eK enc m,xga p.2:=by
 intro p hp cs hcs d hd;simp only[vp,List.mem_map] at hp;obtain⟨x,_,rfl⟩:=hp;obtain⟨y,_,rfl⟩:=List.mem_map.1 hcs;exact h y d hd
variable[DecidableEq κ]
theorem Vi{vm:List (List Int×Value)}{R:WN}(h:vm.map (·.1)=R.map (·.1)):ZA vm=R.map fun x=>(x.1,[]):=by
 have e1:ZA vm=(vm.map (·.1)).map fun k=>(k,[]):=by simp[ZA]
 rw[e1,h];simp
theorem UN(inj:∀ a b,eK a=eK b->a=b)(q:κ):∀ m:List (κ×List α),
  (∃ j l,xE (eK q) ((vp eK enc m).map fun x=>(x.1,([]:List DV))) 0=some j/\(vp eK enc m)[j]?=some (eK q,l.map enc)/\AL.getZ m q []=l/\∀ l',vp eK enc (AL.set m q l')=(vp eK enc m).set j (eK q,l'.map enc)) \/
  (xE (eK q) ((vp eK enc m).map fun x=>(x.1,([]:List DV))) 0=none/\AL.getZ m q []=[]/\∀ l',vp eK enc (AL.set m q l')=vp eK enc m++[(eK q,l'.map enc)])
 | []=>.inr ⟨rfl,rfl,fun _=>rfl⟩
 | (k,v)::r=>by
  by_cases h:k=q
  ·subst h;refine .inl ⟨0,v,?_,rfl,?_,fun l'=>?_⟩
   ·show(if eK k=eK k then _ else _)=_;rw[if_pos rfl]
   ·simp[AL.getZ,AL.get]
   ·simp[vp,AL.set]
  ·have he:¬ eK k=eK q:=fun e=>h (inj _ _ e)
   have hp:xE (eK q) ((vp eK enc ((k,v)::r)).map fun x=>(x.1,([]:List DV))) 0=(xE (eK q) ((vp eK enc r).map fun x=>(x.1,([]:List DV))) 0).map (1+·):=by
    show(if eK k=eK q then _ else _)=_;rw[if_neg he,vI]
    rfl
   have hg:AL.getZ ((k,v)::r) q []=AL.getZ r q []:=by simp[AL.getZ,AL.get,h]
   rcases UN inj q r with⟨j,l,h1,h2,h3,h4⟩ | ⟨h1,h2,h3⟩
   ·refine .inl ⟨1+j,l,by rw[hp,h1];rfl,?_,by rw[hg,h3],fun l'=>?_⟩
    ·rw[Nat.add_comm];exact h2
    ·rw[Nat.add_comm];have:=h4 l';simp only[AL.set,h,if_false];show _::vp eK enc (AL.set r q l')=_::_;rw[this];rfl
   ·refine .inr ⟨by rw[hp,h1];rfl,by rw[hg,h2],fun l'=>?_⟩;simp only[AL.set,h,if_false];show _::vp eK enc (AL.set r q l')=_::_;rw[h3 l'];rfl
end
namespace AL
variable{κ α β:Type}[DecidableEq κ]
theorem vna{ν:Type}(m:List (κ×ν))(k q:κ)(v z:ν):getZ (set m k v) q z=if k=q then v else getZ m q z:=by
 induction m with
 | nil=>by_cases h:k=q <;> simp[getZ,set,get,h]
 | cons x r ih=>
  obtain⟨a,u⟩:=x
  by_cases ha:a=k
  ·subst ha
   by_cases h:a=q <;> simp[getZ,set,get,h]
  ·simp only[set,ha,if_false]
   by_cases h:a=q
   ·subst h;have:¬ k=a:=fun e=>ha e.symm
    simp[getZ,get,this]
   ·have e1:getZ ((a,u)::set r k v) q z=getZ (set r k v) q z:=by simp[getZ,get,h]
    have e2:getZ ((a,u)::r) q z=getZ r q z:=by simp[getZ,get,h]
    rw[e1,e2];exact ih
theorem yda(m l l':List (κ×List α)):grow m (l++l')=grow (grow m l) l':=by simp[grow]
theorem grow_take{c:List β}{i:Nat}{p:β}(hp:c[i]?=some p)(f:β->Option (κ×List α)):grow ([]:List (κ×List α)) ((c.take (i+1)).filterMap f)=grow (grow [] ((c.take i).filterMap f)) (f p).toList:=by
 rw[List.take_add_one,hp,List.filterMap_append,yda]
 cases h:f p <;> simp[h]
theorem grow_len(q:κ)(l:List (κ×List α)):∀ m:List (κ×List α),(getZ (grow m l) q []).length<=(getZ m q []).length+(l.map fun x=>x.2.length).sum:=by
 induction l with
 | nil=>intro m;simp[grow]
 | cons x r ih=>
  intro m;have h1:=ih (set m x.1 (getZ m x.1 []++x.2));rw[vna] at h1;show(getZ (grow (set m x.1 (getZ m x.1 []++x.2)) r) q []).length<=_;simp only[List.map_cons,List.sum_cons]
  by_cases h:x.1=q
  ·subst h;rw[if_pos rfl,List.length_append] at h1;omega
  ·rw[if_neg h] at h1;omega
theorem grow_bound{c:List β}{i n bs:Nat}{p:β}{x:κ×List α}{f:β->Option (κ×List α)}(hB:growOK bs n (c.filterMap f))(hp:c[i]?=some p)(hf:f p=some x) :
  ((getZ (grow [] ((c.take i).filterMap f)) x.1 []).length+x.2.length)*bs<=140737488355328:=by
 have h1:=grow_len x.1 ((c.take i).filterMap f) [];have h2:c=c.take i++p::c.drop (i+1):=by
  have hlt:=(List.getElem?_eq_some_iff.1 hp).1;have:c[i]=p:=(List.getElem?_eq_some_iff.1 hp).2;rw[<- this,<- List.drop_eq_getElem_cons hlt,List.take_append_drop]
 have h3:((c.filterMap f).map fun x=>x.2.length).sum=(((c.take i).filterMap f).map fun x=>x.2.length).sum+(x.2.length+(((c.drop (i+1)).filterMap f).map fun x=>x.2.length).sum):=by
  conv=>lhs;rw[h2]
  simp[List.filterMap_append,List.filterMap_cons,hf]
 have h4:(getZ ([]:List (κ×List α)) x.1 []).length=0:=by simp[getZ,get]
 refine Nat.le_trans (Nat.mul_le_mul_right bs ?_) hB.2;omega
end AL
theorem xia{s s':PState}(h1:s'.n=s.n)(h2:s'.sl=s.sl){y:Operand}{q:PV}(h:s.ev y=some q):s'.ev y=some q:=by
 cases y with
 | tmp t=>show s'.at t=_;unfold PState.at;rw[h1,h2];exact h
 | const v=>cases v <;> exact h
 | func f=>exact h
 | global g=>exact h
theorem evObjs{s:PState}{objs:List (Nat×Ob)}{y:Operand}{q:PV}(h:s.ev y=some q):({ s with objs:=objs }:PState).ev y=some q:=xia (s:=s) rfl rfl h
theorem jk{s:PState}{id:Nat}{e k:Nat}{l:List (List DV)}(h:s.fresh id=true):({ s with objs:=yD id (.row e k l) s.objs }:PState).alone id=true:=by
 unfold PState.fresh at h;unfold PState.alone;rw[Bool.and_eq_true] at h ⊢;refine⟨h.1,List.all_eq_true.2 fun x hx=>?_⟩;obtain⟨xk,xo⟩:=x;rcases VL hx with h3 | h3
 ·cases h3;rfl
 ·have:=List.all_eq_true.1 h.2 _ h3;simp only[Bool.and_eq_true] at this;exact this.2
theorem idxU{α:Type}{l:List α}{i:Int}{x y:α}(h1:0<=i/\l[i.toNat]?=some x)(h2:0<=i/\l[i.toNat]?=some y):x=y:=by have:=h1.2.symm.trans h2.2;cases this;rfl
theorem detU{α:Type}{m:M α}{x y:α}(h1:m.wp (·=x))(h2:m.wp (·=y)):x=y:=by obtain⟨z,h3,h4⟩:=m.meet h1 h2;rw[<- h3,h4]
theorem voa{i:Nat}(h:i < 9223372036854775807):IntKind.i64.wrap ((i:Int)+1)=((i+1:Nat):Int):=by rw[xEa (by omega) (by omega)];rfl
end Go.Ep
namespace Go.Ep
open Go.RowKit
theorem vpa{α β : Type}(f : α->β){l l' : List β}(h : l'.Perm l) : ∀ Z : List α, Z.map f=l->∃ Z' : List α, Z'.Perm Z/\Z'.map f=l' := by
  induction h with
  | nil => intro Z hZ; exact ⟨[], by have : Z = [] := by simpa using hZ
                                     rw[this], rfl⟩
  | cons x _ ih =>
    intro Z hZ
    cases Z with
    | nil => cases hZ
    | cons z r =>
      simp only[List.map_cons, List.cons.injEq] at hZ;obtain⟨Z', h1, h2⟩ := ih r hZ.2;exact⟨z::Z', h1.cons z, by simp[hZ.1, h2]⟩
  | swap x y _ =>
    intro Z hZ
    match Z, hZ with
    | a::b::r, hZ =>
      simp only[List.map_cons, List.cons.injEq] at hZ;exact⟨b::a::r, List.Perm.swap a b r, by simp[hZ]⟩
    | [a], hZ => simp at hZ
    | [], hZ => cases hZ
  | trans _ _ ih1 ih2 =>
    intro Z hZ;obtain⟨Z1, h1, h2⟩ := ih2 Z hZ;obtain⟨Z2, h3, h4⟩ := ih1 Z1 h2;exact⟨Z2, h3.trans h1, h4⟩
section
variable{P:Program}{ctx:Ctx}{Q:PQ}{s:PState}
variable{dst:Option Tmp}{ty:TypeId}{pos:String}{after:Array Edge}{gd:Option (Nat×Bool)}
theorem raws{α X:Type}{enc:α->List Value}{encD:X->List DV}{R:X->α->Prop}{k:Nat}{w:World}{S:Nat->Prop}{cur:List Value}
  (hraw:∀ (x:X) (us:List Value),us.length=k->(∀ (j:Nat) (d:DV) (u:Value),(encD x)[j]?=some d->us[j]?=some u->DRd w S d u)->∃ r:α,enc r=us/\R x r) (hk:∀ y,(encD y).length=k) :
  ∀ (l:List X) (b:Nat),(∀ (i:Nat) (x:X) (j:Nat) (d:DV),l[i]?=some x->(encD x)[j]?=some d->∃ u,cur[(b+i)*k+j]?=some u/\DRd w S d u) ->
   ∃ Z:List (X×α),Z.map (·.1)=l/\∀ i z,Z[i]?=some z->R z.1 z.2/\(∀ (j:Nat) (u:Value),(enc z.2)[j]?=some u->cur[(b+i)*k+j]?=some u)/\∀ (j:Nat) (d:DV) (u:Value),(encD z.1)[j]?=some d->(enc z.2)[j]?=some u->DRd w S d u
 | [],b,_=>⟨[],rfl,fun i z h=>by simp at h⟩
 | x::r,b,h=>by
  obtain⟨Z,h1,h2⟩:=raws hraw hk r (b+1) fun i y j d hi hd=>by
   have:=h (i+1) y j d (by simpa using hi) hd
   rwa [show b+(i+1)=b+1+i by omega] at this
  let us:List Value:=(List.range k).map fun j=>cur.getD (b*k+j) undef
  have hget:∀ j d,(encD x)[j]?=some d->∃ u,us[j]?=some u/\cur[b*k+j]?=some u/\DRd w S d u:=fun j d hd=>by
   obtain⟨u,h3,h4⟩:=h 0 x j d rfl hd;rw[Nat.add_zero] at h3;have hj:j < k:=by rw[<- hk x];exact(List.getElem?_eq_some_iff.1 hd).1
   exact⟨u,by simp[us,hj,List.getD,h3],h3,h4⟩
  obtain⟨q,h3,h4⟩:=hraw x us (by simp[us]) fun j d u hd hu=>by
   obtain⟨u',h5,_,h6⟩:=hget j d hd;rw[h5] at hu;cases hu;exact h6
  refine⟨(x,q)::Z,by simp[h1],fun i z hz=>?_⟩
  cases i with
  | zero=>
   simp only[List.getElem?_cons_zero,Option.some.injEq] at hz;subst hz;refine⟨h4,fun j u hu=>?_,fun j d u hd hu=>?_⟩
   ·rw[Nat.add_zero];simp only[h3] at hu;have hj:j < k:=by have:=(List.getElem?_eq_some_iff.1 hu).1;simpa[us] using this
    have hj2:j < (encD x).length:=by rw[hk];exact hj
    obtain⟨u',h5,h6,_⟩:=hget j _ (List.getElem?_eq_getElem hj2);rw[h5] at hu;cases hu;exact h6
   ·simp only[h3] at hu;obtain⟨u',h5,_,h6⟩:=hget j d hd;rw[h5] at hu;cases hu;exact h6
  | succ i=>
   have:=h2 i z (by simpa using hz)
   rwa [show b+1+i=b+(i+1) by omega] at this
theorem PWl.sortFnR{α X:Type}{ops:Array Oper}{rest:List Oper}{id n k:Nat}{e:TypeId}{fx x gx:Operand}{ats:Array TypeId}{f g:FuncId}{enc:α->List Value}{encD:X->List DV}{ltR:α->α->Bool}{lt:X->X->Bool}{R:X->α->Prop}{l:List X}(hS:SortLaw P f g k enc ltR)
  (hraw:∀ (w:World) (S:Nat->Prop) (x:X) (us:List Value),us.length=k->(∀ (j:Nat) (d:DV) (u:Value),(encD x)[j]?=some d->us[j]?=some u->DRd w S d u)->∃ r:α,enc r=us/\R x r) (hlt:∀ x y r r',R x r->R y r'->ltR r r'=lt x y) (hk:∀ y,(encD y).length=k) (hk2:∀ y,(enc y).length=k)
  (hfx:s.ev fx=some (.d (.v (.func (.func f) #[] #[])))) (he:∀ args w,(callFunc f args).run P w=.ok (.enter f args) w) (hx:s.ev x=some (.row id n)) (hgx:s.ev gx=some (.d (.v (.func (.func g) #[] #[]))))
  (hl:look s.objs id=some (.row e k (l.map encD))) (hn:l.length=n) (hlen:l.length < 4611686018427387904) (hgd:gd=none)
  (h:∀ l':List X,l'.Perm l->l'.Pairwise (fun x y=>lt y x=false)->PWl P ctx ops Q rest ((s.setO id (.row e k (l'.map encD))).putD dst (.tup []))) :
  PWl P ctx ops Q (⟨dst,.call ⟨.value fx,#[x,gx],ats⟩,ty,pos,after,gd⟩::rest) s:=by
 rintro a w ⟨gh,hg⟩;refine wpList_plain hgd fun K hK=>?_
 have hxv:=hg.ev hx;have hob:=hg.objs id _ hl;unfold Oper.wp;rw[wv (o:=⟨dst,.call ⟨.value fx,#[x,gx],ats⟩,ty,pos,after,gd⟩) rfl (Vz hg hfx) he w]
 generalize hv:a.eval x=v at hxv
 have hargs:(#[x,gx]:Array Operand).map a.eval=#[v,.func (.func g) #[] #[]]:=by simp[hv,Vz hg hgx]
 rw[hargs]
 generalize hL:l.map encD=L at hob
 cases hob with
 | rowNil _ _ hgn=>
  have hl0:l=[]:=by simpa using hL
  subst hl0
  cases hxv with
  | row _ _ blk cap hgi=>rw[hgn] at hgi;cases hgi
  | rowNil=>
   refine(hS.nil w).mono fun en w' ⟨hen,hb⟩=>?_
   subst hen;have hsub:Sub ctx s (s.setO id (.row e k ([].map encD))):=Sub.drop rfl (fun i p hp=>hp) (fun j o hj=>by
    simp only[PState.setO,zD] at hj
    split at hj
    ·rename_i ej;subst ej;cases hj;rw[hl]
    ·exact hj)
   obtain⟨g2,hg2⟩:=hsub a w' ⟨gh,hg.below hb⟩;exact hK _ _ (h [] (List.Perm.refl _) List.Pairwise.nil _ _ ⟨g2,hg2.put dst (.tup [] [] rfl (by simp))⟩)
 | row _ _ _ blk' cap' cur hgi hh hlc hcap hcs hkk hr'=>
  cases hxv with
  | rowNil _ hgn=>rw[hgn] at hgi;cases hgi
  | row _ _ blk cap hgi'=>
   rw[hgi] at hgi'
   cases hgi'
   subst hL;subst hn;obtain⟨Z,hZ1,hZ2⟩:=raws (cur:=cur) (hraw w (zk ctx gh s.objs)) hk l 0 fun i y j d hi hd=>by
    rw[Nat.zero_add];exact hr' i (encD y) j d (by simp[hi]) hd
   have hZl:(Z.map (·.2)).length=l.length:=by rw[<- hZ1];simp
   have hcells:∀ (i:Nat) (y:α) (j:Nat) (u:Value),(Z.map (·.2))[i]?=some y->(enc y)[j]?=some u->cur[i*k+j]?=some u:=by
    intro i y j u hi hu;rw[List.getElem?_map] at hi
    cases hz:Z[i]? with
    | none=>rw[hz] at hi;cases hi
    | some z=>
     rw[hz] at hi;simp only[Option.map_some,Option.some.injEq] at hi;subst hi;have:=(hZ2 i z hz).2.1 j u hu
     rwa [Nat.zero_add] at this
   have hrow:=hS.row w blk' cap' (Z.map (·.2)) e cur hh (by rw[hZl];simpa using hlc) hcs (by rw[hZl];exact hlen) hcells;rw[hZl] at hrow;refine hrow.mono fun en w' ⟨hen,l2,cur',hperm,hsort,hh',hcl,hc',hos,htape,hout,hsz,hother⟩=>?_
   subst hen;obtain⟨Z',hP,hZ'⟩:=vpa (·.2) hperm Z rfl;have hmem:∀ z∈Z',R z.1 z.2/\∀ (j:Nat) (d:DV) (u:Value),(encD z.1)[j]?=some d->(enc z.2)[j]?=some u->DRd w (zk ctx gh s.objs) d u:=fun z hz=>by
    obtain⟨i,hi⟩:=List.mem_iff_getElem?.1 (hP.subset hz);exact⟨(hZ2 i z hi).1,(hZ2 i z hi).2.2⟩
   let l':=Z'.map (·.1)
   have hl'p:l'.Perm l:=by rw[<- hZ1];exact hP.map _
   have hl's:l'.Pairwise (fun x y=>lt y x=false):=by
    rw[<- hZ'] at hsort;rw[List.pairwise_map] at hsort ⊢;refine List.Pairwise.imp_of_mem (fun {p q} hp hq hpq=>?_) hsort;rw[<- hlt _ _ _ _ (hmem q hq).1 (hmem p hp).1];exact hpq
   have hown:=hg.own id _ blk' cap' hl hgi;have hst:yV w w' (zk ctx gh s.objs):=⟨hsz,fun b ⟨_,h2⟩ hlt=>hother b hlt fun eb=>by subst eb;exact h2 id _ cap' hl hgi⟩
   have hpl:l'.length=l.length:=hl'p.length_eq;have hsetF:∀ b,zk ctx gh s.objs b->zk ctx gh s.objs b:=fun _ h=>h
   have hwr:=hg.wrote hl hgi (w':=w') hos htape hout hsz hother hown.2 (ob:=.row e k (l'.map encD)) (.row e k _ blk' cap' cur' hgi hh' (by simpa[hpl] using hlc) hcap (by rw[hcl];exact hcs)
    (fun i cs hi=>by
     rw[List.getElem?_map] at hi
     cases hy:l'[i]? with
     | none=>simp[hy] at hi
     | some y=>simp[hy] at hi;subst hi;exact hk y)
    (fun i cs j d hi hd=>by
     rw[List.getElem?_map] at hi
     cases hy:l'[i]? with
     | none=>simp[hy] at hi
     | some y=>
      simp[hy] at hi;subst hi;simp only[l',List.getElem?_map] at hy
      cases hz:Z'[i]? with
      | none=>rw[hz] at hy;cases hy
      | some z=>
       rw[hz] at hy;simp only[Option.map_some,Option.some.injEq] at hy;subst hy;have hj:j < (enc z.2).length:=by rw[hk2,<- hk z.1];exact(List.getElem?_eq_some_iff.1 hd).1
       have hu:(enc z.2)[j]?=some (enc z.2)[j]:=List.getElem?_eq_getElem hj;refine⟨_,hc' i z.2 j _ (by rw[<- hZ',List.getElem?_map,hz];rfl) hu,?_⟩;exact((hmem z (List.mem_of_getElem? hz)).2 j d _ hd hu).keep hst (fun b hb _=>wW hl b hb)))
   exact hK _ _ (h l' hl'p hl's _ _ ⟨gh,hwr.put dst (.tup [] [] rfl (by simp))⟩)
end
end Go.Ep
namespace Go.Ep
open Go.RowKit
section
variable{P:Program}{ctx:Ctx}{Q:PQ}{s:PState}
variable{dst:Option Tmp}{ty:TypeId}{pos:String}{after:Array Edge}{gd:Option (Nat×Bool)}
theorem LR.strIdx{x i:Operand}{t:TypeId}{b:ByteArray}{k:IntKind}{n y:Int}(hu:P.underlying t=some .string)(hx:s.ev x=some (.d (.v (.string b))))(hi:s.ev i=some (.d (.v (.int k n))))(hy:0<=n/\(ua b)[n.toNat]?=some y) :
  Local P ctx ⟨dst,.index t x i,ty,pos,after,gd⟩ s (s.putD dst (.d (.v (.int .u8 y)))):=
 zG (o:=⟨dst,.index t x i,ty,pos,after,gd⟩) fun a w g hg=>by
  obtain⟨h0,h1⟩:=hy;have hlt:n.toNat < b.size:=by
   have:=(List.getElem?_eq_some_iff.1 h1).1;simpa[ua] using this
  have hb:0<=n/\n < b.size:=⟨h0,by omega⟩
  have hv:((b[n.toNat]'hlt).toNat:Int)=y:=by
   have:=(List.getElem?_eq_some_iff.1 h1).2;simp only[ua,List.getElem_map,Array.getElem_toList] at this;exact this
  refine⟨.int .u8 y,?_,.d (.v _ rfl)⟩;simp only[execOp,Vz hg hx,Vz hg hi,Sem.run_bind,run_index_string w t b k n hu,dif_pos hb,hv,Result.andThen_ok,Sem.run_pure]
end
end Go.Ep
namespace Go.Ep
open Go.RowKit
section
variable{P:Program}{ctx:Ctx}{s:PState}
variable{dst:Option Tmp}{ty:TypeId}{pos:String}{after:Array Edge}{gd:Option (Nat×Bool)}
end
end Go.Ep
namespace Go.Proofs
open Go.Ep Tryz
set_option maxHeartbeats 1000000
set_option maxRecDepth 100000
set_option linter.unusedVariables false
set_option linter.unusedSimpArgs false
theorem qC{c1 r0}(h:(jd c1).wp (·=r0)):PFun prog 5 [zZ PT.e c1] (.d (.v (.bool r0))):=by
 refine yB [0] func5 ntmps5 ?_;intro ctx hK;refine vQ ?_;refine zE h (fun h=>?_) fun h=>?_
 ·refine zH ?_;refine wX ?_;cases h;exact xT
 ·refine zV ?_;refine vJ (zK h) 20 [] [] (fun _=>([],[])) (fun h=>?_) ?_
  ·refine g5 ?_;refine zc h 20 [0] [] (fun i12=>([(3,zJ .i64 i12)],[])) ?_;rintro N i12 _ h;refine zl ?_;refine zE h (fun h=>?_) fun h=>?_
   ·refine zm ?_;obtain⟨x14,hy15,h⟩:=yF h;refine yZ hy15 ?_;refine zF ?_;refine zE h (fun h=>?_) fun h=>?_
    ·refine zH ?_;refine wX ?_;cases h;exact xT
    ·refine zV ?_;exact⟨(IntKind.i64.wrap (i12+1)),(),h,sP⟩
   ·refine wZ ?_;exact⟨(),(),h,sP⟩
  ·rintro _ _ h;refine zH ?_;refine wX ?_;cases h;exact xT
theorem wUa{l1 most2 r0}(h:(je l1 most2).wp (·=r0)):PFun prog 21 [zZ EV.e l1,zJ .i64 most2] (.d (.v (.bool r0))):=by
 refine yB [0,1] func21 ntmps21 ?_;intro ctx hK;refine Yu ?_;refine zE h (fun h=>?_) fun h=>?_
 ·refine zH ?_;refine wX ?_;cases h;exact xT
 ·refine zV ?_;refine vJ (zK h) 32 [] [] (fun _=>([],[])) (fun h=>?_) ?_
  ·refine g5 ?_;refine zc h 32 [0] [] (fun i21=>([(5,zJ .i64 i21)],[])) ?_;rintro N i21 _ h;refine zl ?_;refine zE h (fun h=>?_) fun h=>?_
   ·refine zH ?_;refine yN (zK h) 32 [0,5] [] (fun v23=>([(31,.d (.v (.bool v23)))],[])) (fun h=>?_) ?_
    ·refine zL ?_;obtain⟨x24,hy25,h⟩:=yF h;refine yZ hy25 ?_;refine zF ?_;refine yH 23 h (fun h=>?_) fun h=>?_
     ·refine zV ?_;refine yL [0,5,23,24,25,26,27,28,29] [] ?_;refine zL ?_;exact⟨true,(),h,sP⟩
     ·refine zC ?_;obtain⟨x27,hy28,h⟩:=yF h;refine XG hy28 ?_;refine zL ?_;refine yL [0,5,23,24,25,26,27,28,29] [] ?_;refine zL ?_;exact⟨(decide (200 < (ByteArray.size x27.text:Int))),(),h,sP⟩
    ·rintro v23 _ h;refine zE h (fun h=>?_) fun h=>?_
     ·refine zH ?_;refine wX ?_;cases h;exact xT
     ·refine zV ?_;exact⟨(IntKind.i64.wrap (i21+1)),(),h,sP⟩
   ·refine wZ ?_;exact⟨(),(),h,sP⟩
  ·rintro _ _ h;refine zH ?_;refine wX ?_;cases h;exact xT
theorem wVa{l1 most2 r0}(h:(qz l1 most2).wp (·=r0)):PFun prog 4 [zZ LA.e l1,zJ .i64 most2] (zJ .i64 r0):=by
 refine yB [0,1] func4 ntmps4 ?_;intro ctx hK;refine Yu ?_;refine zE h (fun h=>?_) fun h=>?_
 ·refine zH ?_;refine wX ?_;cases h;exact xT
 ·refine zV ?_;refine vJ (zK h) 33 [] [] (fun _=>([],[])) (fun h=>?_) ?_
  ·refine g5 ?_;refine zc h 33 [0] [] (fun i29=>([(5,zJ .i64 i29)],[])) ?_;rintro N i29 _ h;refine zl ?_;refine zE h (fun h=>?_) fun h=>?_
   ·refine zH ?_;refine yN (zK h) 33 [0,5] [] (fun v31=>([(32,.d (.v (.bool v31)))],[])) (fun h=>?_) ?_
    ·refine zL ?_;obtain⟨x32,hy33,h⟩:=yF h;refine yZ hy33 ?_;refine zC ?_;refine ws (LR.buildSliceD [.tmp 20] yh rfl rfl (.cons rfl rfl rfl<|.nil) (by decide) (by decide)) ?_;obtain⟨v34,hy35,h⟩:=zP h;refine xN (wUa hy35) call21 ?_;refine zC ?_;refine yH 24 h (fun h=>?_) fun h=>?_
     ·refine zF ?_;refine yL [0,5,24,25,26,27,28,29] [] ?_;refine zH ?_;exact⟨true,(),h,sP⟩
     ·refine zC ?_;obtain⟨x37,hy38,h⟩:=yF h;refine XG hy38 ?_;refine zC ?_;refine yL [0,5,24,25,26,27,28,29] [] ?_;obtain⟨v39,hy40,h⟩:=zP h;refine wt (cN (qC hy40) rfl call5 rfl rfl rfl rfl) ?_;refine zL ?_;exact⟨(!v39),(),h,sP⟩
    ·rintro v31 _ h;refine zE h (fun h=>?_) fun h=>?_
     ·refine zH ?_;refine wX ?_;cases h;exact xT
     ·refine zV ?_;exact⟨(IntKind.i64.wrap (i29+1)),(),h,sP⟩
   ·refine wZ ?_;exact⟨(),(),h,sP⟩
  ·rintro _ _ h;refine zH ?_;refine wX ?_;cases h;exact xT
end Go.Proofs
namespace Go.Ep
def DL.F(x:DL)(f:DV->DV):List DV:=[f (.sl (List.map PT.e x.from_)),f (.sl (List.map PT.e x.to_)),f (.sl (List.map EV.e x.events))]
theorem uX(x:DL):FL (DL.F x):=.f _<|.f _<|.f _<|.nil
def SmC(c:List PT):Prop:=c.length<=1000000000000/\∀ x∈c,x.runs.length<=1000000000000
def SmL(l:List EV):Prop:=l.length<=1000000000000/\∀ x∈l,x.kills.length<=1000000000000
def SmD(d:DL):Prop:=SmC d.from_/\SmC d.to_/\SmL d.events
theorem yea{i n:Nat}(h:i < n)(hn:n<=1000000000000):IntKind.i64.wrap ((i:Int)+1)=((i+1:Nat):Int):=by
 rw[show((i+1:Nat):Int)=(i:Int)+1 by omega];simp[IntKind.wrap,IntKind.bits,IntKind.signed];omega
end Go.Ep
namespace Go.Proofs
open Go.Ep Tryz
set_option maxHeartbeats 1000000
set_option maxRecDepth 100000
set_option linter.unusedVariables false
set_option linter.unusedSimpArgs false
def Wx(n:Nat):Nat->M (M.Step Nat Unit):=fun i=>cond (decide ((i:Int) < (n:Int))) (M.pure (.next (i+1))) (M.pure (.done ()))
theorem jl(n:Nat){R:Unit->Prop}(hR:R ())(i:Nat):(M.loop (Wx n) i).wp R:=by
 intro Q hQ;have key:∀ k i,n - i<=k->Q i:=by
  intro k
  induction k with
  | zero=>
   intro i hi;refine hQ i ?_;unfold Wx;rw[show decide ((i:Int) < (n:Int))=false from decide_eq_false (by omega)];exact hR
  | succ k ih=>
   intro i hi;refine hQ i ?_;unfold Wx
   by_cases h:i < n
   ·rw[show decide ((i:Int) < (n:Int))=true from decide_eq_true (by omega)];exact ih (i+1) (by omega)
   ·rw[show decide ((i:Int) < (n:Int))=false from decide_eq_false (by omega)];exact hR
 exact key _ i (Nat.le_refl _)
theorem vqa(d:DL)(hS:SmD d):PSpoil prog 16 [.agg (List.map .d (DL.F d (.sp qq)))]:=by
 refine PSpoil.intro (sl:=[(0,_)]) func16 rfl ntmps16 rfl rfl ?_;intro ctx hSK hKS;(iterate 6 refine g5 ?_);refine wz (tl:=[(1,.ref 1 0)]) (to:=[(1,.cells 38 ((DL.F d (.sp qq)).map .d))]) ?_;(iterate 6 refine g5 ?_);refine wJ (m:=M.loop (Wx d.events.length) 0) (N:=fun _=>True) (jl _ trivial 0) (fun(_:Unit) (_:Unit)=>⟨83,[(1,.ref 1 0)],[(1,.cells 38 ((DL.F d (.sp qq)).map .d))]⟩) (fun h=>?_) ?_
 ·refine g5 ?_;refine wM (fun(i:Nat) (_:Unit)=>⟨83,[(1,.ref 1 0),(10,.d (.v (.int .i64 (d.events.length:Int)))),(11,.d (.v (.int .i64 (i:Int))))],[(1,.cells 38 ((DL.F d (.sp qq)).map .d))]⟩) () h (sO rfl (.cons rfl rfl<|.cons rfl (by simp)<|.cons rfl rfl<|.nil) (.cons rfl rfl<|.nil)) ?_;rintro N i _ h;(iterate 5 refine g5 ?_);refine wC rfl (fun hc=>?_) (fun hc=>?_)
  ·replace h:N (i+1):=by have:=iT hc h;exact this
   have hii:i < d.events.length:=by have:=of_decide_eq_true hc;omega
   obtain⟨x,hx⟩:∃ x,d.events[i]?=some x:=⟨_,List.getElem?_eq_getElem hii⟩
   have hx2:(List.map EV.e d.events)[i]?=some (EV.e x):=by rw[List.getElem?_map,hx];rfl
   have hxl:=hS.2.2.2 x (List.mem_of_getElem? hx);(iterate 14 refine g5 ?_);refine ws (LR.idxSp underlying28 sizeOf57 rfl rfl rfl hx2 rfl) ?_;(iterate 5 refine g5 ?_);refine wJ (m:=M.loop (Wx x.kills.length) 0) (N:=fun _=>True) (jl _ trivial 0) (fun(_:Unit) (_:Unit)=>⟨83,[(1,.ref 1 0),(10,.d (.v (.int .i64 (d.events.length:Int)))),(11,.d (.v (.int .i64 (i:Int)))),(2,.d (.v (.int .i64 (i:Int))))],[(1,.cells 38 ((DL.F d (.sp qq)).map .d))]⟩) (fun h2=>?_) ?_ (fun t u hs q=>PWc.sub hs q)
   ·refine g5 ?_;refine wM (fun(q:Nat) (_:Unit)=>⟨83,[(1,.ref 1 0),(10,.d (.v (.int .i64 (d.events.length:Int)))),(11,.d (.v (.int .i64 (i:Int)))),(2,.d (.v (.int .i64 (i:Int)))),(20,.d (.v (.int .i64 (x.kills.length:Int)))),(21,.d (.v (.int .i64 (q:Int))))],[(1,.cells 38 ((DL.F d (.sp qq)).map .d))]⟩) () h2 (sO rfl (.c4 rfl rfl rfl rfl rfl rfl rfl rfl<|.cons rfl (by simp)<|.cons rfl rfl<|.nil) (.cons rfl rfl<|.nil)) ?_;rintro N2 q _ h2;(iterate 5 refine g5 ?_);refine wC rfl (fun hc2=>?_) (fun hc2=>?_)
    ·replace h2:N2 (q+1):=by have:=iT hc2 h2;exact this
     have hiq:q < x.kills.length:=by have:=of_decide_eq_true hc2;omega
     obtain⟨y,hy⟩:∃ y,x.kills[q]?=some y:=⟨_,List.getElem?_eq_getElem hiq⟩
     have hy2:(List.map DT.e x.kills)[q]?=some (DT.e y):=by rw[List.getElem?_map,hy];rfl
     (iterate 12 refine g5 ?_);refine ws (LR.idxSp underlying28 sizeOf57 rfl rfl rfl hx2 rfl) ?_;(iterate 3 refine g5 ?_);refine ws (LR.idxSp underlying55 sizeOf54 rfl rfl rfl hy2 rfl) ?_;(iterate 3 refine g5 ?_);refine ws (LR.idxSp underlying55 sizeOf54 rfl rfl rfl hy2 rfl) ?_;refine g5 ?_;refine ws (LR.storeSpI hSK rfl sizeOf52 rfl rfl rfl) ?_;(iterate 5 refine g5 ?_);exact⟨q+1,(),h2,sO rfl (.c4 rfl rfl rfl rfl rfl rfl rfl rfl<|.cons rfl rfl<|.cons rfl (congrArg (fun z=>PV.d (.v (.int .i64 z))) (yea hiq hxl))<|.nil) (.cons rfl rfl<|.nil)⟩
    ·refine wZ ?_;exact⟨(),(),trivial,sP⟩
   ·rintro _ _ _;(iterate 4 refine g5 ?_);refine ws (LR.idxSp underlying28 sizeOf57 rfl rfl rfl hx2 rfl) ?_;refine g5 ?_;refine ws (LR.storeSpS hSK rfl sizeOf9 rfl rfl rfl) ?_;(iterate 5 refine g5 ?_);exact⟨i+1,(),h,sO rfl (.c2 rfl rfl rfl rfl<|.cons rfl (congrArg (fun z=>PV.d (.v (.int .i64 z))) (yea hii hS.2.2.1))<|.nil) (.cons rfl rfl<|.nil)⟩
  ·refine wZ ?_;exact⟨(),(),trivial,sP⟩
 ·rintro _ _ _;(iterate 6 refine g5 ?_);refine ws (LR.buildSliceD [.tmp 45,.tmp 47] (k:=1) (l:=List.map (fun c:List PT=>[DV.sp qq (.sl (List.map PT.e c))]) [d.from_,d.to_]) vSa rfl rfl (.cons rfl rfl rfl<|.cons rfl rfl rfl<|.nil) (by decide) (by decide))<|ws (lM (enc:=fun c:List PT=>[DV.sp qq (.sl (List.map PT.e c))]) (L:=[d.from_,d.to_]) underlying88 rfl) ?_;(iterate 2 refine g5 ?_);refine PWc.re (tl:=[(48,.d (.sl (List.map (fun c:List PT=>[DV.sp qq (.sl (List.map PT.e c))]) [d.from_,d.to_]))),(49,.d (.v (.int .i64 2))),(50,.d (.v (.int .i64 0)))]) (to:=[]) rfl (.c2 rfl rfl rfl rfl<|.cons rfl rfl<|.nil) .nil ?_;refine wJ (m:=M.loop (Wx 2) 0) (N:=fun _=>True) (jl _ trivial 0) (fun(_:Unit) (_:Unit)=>⟨83,[],[]⟩) (fun h=>?_) ?_ (fun t u hs ⟨U,hq⟩=>⟨U,_,.nil,rfl⟩)
  ·refine g5 ?_;refine wM (fun(i:Nat) (_:Unit)=>⟨83,[(48,.d (.sl (List.map (fun c:List PT=>[DV.sp qq (.sl (List.map PT.e c))]) [d.from_,d.to_]))),(49,.d (.v (.int .i64 2))),(50,.d (.v (.int .i64 (i:Int))))],[]⟩) () h (sO rfl (.c2 rfl rfl rfl rfl<|.cons rfl rfl<|.nil) .nil) ?_;rintro N i _ h;(iterate 5 refine g5 ?_);refine wC rfl (fun hc=>?_) (fun hc=>?_)
   ·replace h:N (i+1):=by have:=iT hc h;exact this
    have hii:i < 2:=by have:=of_decide_eq_true hc;omega
    obtain⟨c,hcx⟩:∃ c,([d.from_,d.to_]:List (List PT))[i]?=some c:=⟨_,List.getElem?_eq_getElem (by simpa using hii)⟩
    have hcS:SmC c:=by
     have:=List.mem_of_getElem? hcx;simp only[List.mem_cons,List.not_mem_nil,or_false] at this;rcases this with rfl | rfl
     ·exact hS.1
     ·exact hS.2.1
    (iterate 5 refine g5 ?_);refine ws (iX (enc:=(fun c:List PT=>[DV.sp qq (.sl (List.map PT.e c))])) (L:=[d.from_,d.to_]) (y:=c) underlying88 sizeOf24 rfl rfl ⟨by omega,hcx⟩ (fun _=>rfl)) ?_;(iterate 9 refine g5 ?_);refine wJ (m:=M.loop (Wx c.length) 0) (N:=fun _=>True) (jl _ trivial 0) (fun(_:Unit) (_:Unit)=>⟨83,[(48,.d (.sl (List.map (fun c:List PT=>[DV.sp qq (.sl (List.map PT.e c))]) [d.from_,d.to_]))),(49,.d (.v (.int .i64 2))),(50,.d (.v (.int .i64 (i:Int))))],[]⟩) (fun h2=>?_) ?_ (fun t u hs q=>PWc.sub hs q)
    ·refine g5 ?_;refine wM (fun(k:Nat) (_:Unit)=>⟨83,[(48,.d (.sl (List.map (fun c:List PT=>[DV.sp qq (.sl (List.map PT.e c))]) [d.from_,d.to_]))),(49,.d (.v (.int .i64 2))),(50,.d (.v (.int .i64 (i:Int)))),(5,.d (.sp qq (.sl (List.map PT.e c)))),(55,.d (.v (.int .i64 (c.length:Int)))),(56,.d (.v (.int .i64 (k:Int))))],[]⟩) () h2 (sO rfl (.c4 rfl rfl rfl rfl rfl rfl rfl rfl<|.cons rfl (by simp)<|.cons rfl rfl<|.nil) .nil) ?_;rintro N2 k _ h2;(iterate 5 refine g5 ?_);refine wC rfl (fun hc2=>?_) (fun hc2=>?_)
     ·replace h2:N2 (k+1):=by have:=iT hc2 h2;exact this
      have hik:k < c.length:=by have:=of_decide_eq_true hc2;omega
      obtain⟨x,hx⟩:∃ x,c[k]?=some x:=⟨_,List.getElem?_eq_getElem hik⟩
      have hxl:=hcS.2 x (List.mem_of_getElem? hx);have hx2:(List.map PT.e c)[k]?=some (PT.e x):=by rw[List.getElem?_map,hx];rfl
      (iterate 12 refine g5 ?_);refine ws (LR.idxSp underlying24 sizeOf62 rfl rfl rfl hx2 rfl) ?_;(iterate 5 refine g5 ?_);refine wJ (m:=M.loop (Wx x.runs.length) 0) (N:=fun _=>True) (jl _ trivial 0) (fun(_:Unit) (_:Unit)=>⟨83,[(48,.d (.sl (List.map (fun c:List PT=>[DV.sp qq (.sl (List.map PT.e c))]) [d.from_,d.to_]))),(49,.d (.v (.int .i64 2))),(50,.d (.v (.int .i64 (i:Int)))),(5,.d (.sp qq (.sl (List.map PT.e c)))),(55,.d (.v (.int .i64 (c.length:Int)))),(56,.d (.v (.int .i64 (k:Int))))],[]⟩) (fun h3=>?_) ?_ (fun t u hs q=>PWc.sub hs q)
      ·refine g5 ?_;refine wM (fun(q:Nat) (_:Unit)=>⟨83,[(48,.d (.sl (List.map (fun c:List PT=>[DV.sp qq (.sl (List.map PT.e c))]) [d.from_,d.to_]))),(49,.d (.v (.int .i64 2))),(50,.d (.v (.int .i64 (i:Int)))),(5,.d (.sp qq (.sl (List.map PT.e c)))),(55,.d (.v (.int .i64 (c.length:Int)))),(56,.d (.v (.int .i64 (k:Int)))),(6,.d (.v (.int .i64 (k:Int)))),(64,.d (.v (.int .i64 (x.runs.length:Int)))),(65,.d (.v (.int .i64 (q:Int))))],[]⟩) () h3 (sO rfl (.c4 rfl rfl rfl rfl rfl rfl rfl rfl<|.c2 rfl rfl rfl rfl<|.cons rfl rfl<|.cons rfl (by simp)<|.cons rfl rfl<|.nil) .nil) ?_;rintro N3 q _ h3;(iterate 5 refine g5 ?_);refine wC rfl (fun hc3=>?_) (fun hc3=>?_)
       ·replace h3:N3 (q+1):=by have:=iT hc3 h3;exact this
        have hiq:q < x.runs.length:=by have:=of_decide_eq_true hc3;omega
        obtain⟨y,hy⟩:∃ y,x.runs[q]?=some y:=⟨_,List.getElem?_eq_getElem hiq⟩
        have hy2:(List.map RN.e x.runs)[q]?=some (RN.e y):=by rw[List.getElem?_map,hy];rfl
        (iterate 11 refine g5 ?_);refine ws (LR.idxSp underlying24 sizeOf62 rfl rfl rfl hx2 rfl) ?_;(iterate 3 refine g5 ?_);refine ws (LR.idxSp underlying60 sizeOf90 rfl rfl rfl hy2 rfl) ?_;(iterate 3 refine g5 ?_);refine ws (LR.idxSp underlying60 sizeOf90 rfl rfl rfl hy2 rfl) ?_;refine g5 ?_;refine ws (LR.storeSpI hSK rfl sizeOf52 rfl rfl rfl) ?_;(iterate 5 refine g5 ?_);exact⟨q+1,(),h3,sO rfl (.c4 rfl rfl rfl rfl rfl rfl rfl rfl<|.c4 rfl rfl rfl rfl rfl rfl rfl rfl<|.cons rfl (congrArg (fun z=>PV.d (.v (.int .i64 z))) (yea hiq hxl))<|.nil) .nil⟩
       ·refine wZ ?_;exact⟨(),(),trivial,sO rfl (.c4 rfl rfl rfl rfl rfl rfl rfl rfl<|.c2 rfl rfl rfl rfl<|.nil) .nil⟩
      ·rintro _ _ _;(iterate 4 refine g5 ?_);exact⟨k+1,(),h2,sO rfl (.c4 rfl rfl rfl rfl rfl rfl rfl rfl<|.cons rfl rfl<|.cons rfl (congrArg (fun z=>PV.d (.v (.int .i64 z))) (yea hik hcS.1))<|.nil) .nil⟩
     ·refine wZ ?_;exact⟨(),(),trivial,sO rfl (.c2 rfl rfl rfl rfl<|.cons rfl rfl<|.nil) .nil⟩
    ·rintro _ _ _;(iterate 4 refine g5 ?_);exact⟨i+1,(),h,sO rfl (.c2 rfl rfl rfl rfl<|.cons rfl (congrArg (fun z=>PV.d (.v (.int .i64 z))) (yea hii (by decide)))<|.nil) .nil⟩
   ·refine wZ ?_;exact⟨(),(),trivial,sO rfl .nil .nil⟩
  ·rintro _ _ _;exact⟨.inl rfl,_,.nil,rfl⟩
theorem ZK{x1 r0}(h:(vE x1).wp (·=r0)):PFun prog 118 [zJ .u64 x1] (.d (.v (.bool r0))):=by
 refine yB [0] func118 ntmps118 ?_;intro ctx hK;refine vQ ?_;refine wX ?_;cases h;exact xT
theorem uP{x1 y2 r0}(h:(xM x1 y2).wp (·=r0)):PFun prog 77 [zJ .u64 x1,zJ .u64 y2] (zJ .i64 r0):=by
 refine yB [0,1] func77 ntmps77 ?_;intro ctx hK;refine zm ?_;obtain⟨v3,hy4,h⟩:=zP h;refine xN (ZK hy4) call118 ?_;refine zF ?_;obtain⟨v5,hy6,h⟩:=zP h;refine xN (ZK hy6) call118 ?_;refine zm ?_;refine zE h (fun h=>?_) fun h=>?_
 ·refine zF ?_;refine zE h (fun h=>?_) fun h=>?_
  ·refine zH ?_;refine wX ?_;cases h;exact xT
  ·refine zF ?_;refine wX ?_;cases h;exact xT
 ·refine zV ?_;refine zE h (fun h=>?_) fun h=>?_
  ·refine zH ?_;refine wX ?_;cases h;exact xT
  ·refine zl ?_;refine zE h (fun h=>?_) fun h=>?_
   ·refine zH ?_;refine wX ?_;cases h;exact xT
   ·refine zl ?_;refine zE h (fun h=>?_) fun h=>?_
    ·refine zH ?_;refine wX ?_;cases h;exact xT
    ·refine zF ?_;refine wX ?_;cases h;exact xT
theorem wG{l1 r0}(h:(xx l1).wp (·=r0)):PRow prog 113 [zZ RN.e l1] 90 2 (List.map RN.e r0):=by
 refine PRow.intro (sl:=[(0,_)]) func113 rfl ntmps113 rfl rfl ?_;intro ctx hK;refine zC ?_;refine ws (aR 90 2 rfl) ?_;refine zL ?_;refine ws (aR 90 2 rfl) ?_;refine zl ?_;refine yN (zK h) 78 [] [] (fun some2=>([(3,.row 3 (some2.length))],[(3,.row 90 2 (List.map RN.e some2))])) (fun h=>?_) ?_
 ·refine g5 ?_;refine zc h 78 [10,11] [] (fun⟨v23,some24⟩=>([(3,.row 3 (some24.length)),(12,zJ .i64 v23)],[(3,.row 90 2 (List.map RN.e some24))])) ?_;rintro N ⟨v23,some24⟩ _ h;refine zF ?_;refine zE h (fun h=>?_) fun h=>?_
  ·refine zC ?_;refine yN (zK h) 78 [10,11,12] [] (fun some26=>([(3,.row 3 (some26.length))],[(3,.row 90 2 (List.map RN.e some26))])) (fun h=>?_) ?_
   ·refine zL ?_;obtain⟨x27,hy28,h⟩:=yF h;refine yZ hy28 ?_;refine zF ?_;refine yN (zK h) 78 [3,5,10,11,12] [3,5] (fun v29=>([(30,.d (.v (.bool v29)))],[])) (fun h=>?_) ?_
    ·refine zF ?_;refine yH 19 h (fun h=>?_) fun h=>?_
     ·refine zm ?_;refine yH 26 h (fun h=>?_) fun h=>?_
      ·refine yL [3,5,10,11,12,20,21,22,23,24,26] [3,5] ?_;refine zF ?_;exact⟨(decide (x27.hi<=281474976710655)),(),h,sP⟩
      ·refine yL [3,5,10,11,12,20,21,22,23,24,26] [3,5] ?_;refine zF ?_;exact⟨false,(),h,sP⟩
     ·refine zl ?_;refine yL [3,5,10,11,12,20,21,22,23,24,26,27] [3,5] ?_;refine zH ?_;exact⟨false,(),h,sP⟩
    ·rintro v29 _ h;refine zE h (fun h=>?_) fun h=>?_
     ·refine zL ?_;refine ws (LR.buildSliceD [.tmp 32] xw rfl rfl (.cons rfl rfl rfl<|.nil) (by decide) (by decide)) ?_;obtain⟨hy33,h⟩:=zq h;refine ws (LR.appT (enc:=RN.e) (L:=some24) (R:=[x27]) [3,31] xw underlying60 rfl rfl rfl (Src.slT (enc:=RN.e) (R:=[x27]) rfl (fun _=>rfl)) (fun _=>rfl) hy33 rfl rfl) ?_;refine zC ?_;exact⟨(some24++[x27]),(),h,sP⟩
     ·refine g5 ?_;exact⟨some24,(),h,sP⟩
   ·rintro some26 _ h;refine zH ?_;exact⟨((IntKind.i64.wrap (v23+1)),some26),(),h,sP⟩
  ·refine wZ ?_;exact⟨some24,(),h,sP⟩
 ·rintro some2 _ h;refine zL ?_;obtain⟨hy35,h⟩:=zq h;refine PWl.sortFn (encD:=RN.e) (enc:=RN.v) (l:=some2) wTa (fun _=>rfl) RN.v1 (fun _=>rfl) rfl call136 rfl rfl rfl (by simp) hy35 rfl (fun s34 hy36 hy37=>?_);replace h:=iSrt h s34 hy36 hy37;have hy36l:=hy36.length_eq;refine zL ?_;refine ws (aR 90 2 rfl) ?_;refine zl ?_;refine yN (zK h) 78 [] [] (fun out38=>([(6,.row 6 (out38.length))],[(6,.row 90 2 (List.map RN.e out38))])) (fun h=>?_) ?_
  ·refine g5 ?_;refine zc h 78 [38,39] [3] (fun⟨v69,out70⟩=>([(6,.row 6 (out70.length)),(40,zJ .i64 v69)],[(6,.row 90 2 (List.map RN.e out70))])) ?_ (hs:=zEa);rintro N ⟨v69,out70⟩ _ h;refine zF ?_;refine zE h (fun h=>?_) fun h=>?_
   ·refine zC ?_;refine yN (zK h) 78 [38,39,40] [3] (fun out72=>([(6,.row 6 (out72.length))],[(6,.row 90 2 (List.map RN.e out72))])) (fun h=>?_) ?_
    ·refine zL ?_;obtain⟨x73,hy74,h⟩:=yF h;refine ws (LR.idxRowT (L:=s34) (y:=x73) underlying60 sizeOf90 rfl uc rfl hy74) ?_;refine ws (LR.loadRpT (enc:=RN.e) (L:=s34) (y:=x73) isAgg90 sizeOf90 rfl rfl hy74.2) ?_;refine Yu ?_;refine yN (zK h) 78 [6,8,9,38,39,40] [3,6,8] (fun v75=>([(59,.d (.v (.bool v75)))],[])) (fun h=>?_) ?_
     ·refine g5 ?_;refine yU ?_;refine qy 49 h (fun h=>?_) fun h=>?_
      ·refine vV ?_;obtain⟨x77,hy78,h⟩:=yF h;refine qt (fun _ U W=>LR.idxRowT (L:=out70) (y:=x77) underlying60 sizeOf90 U rfl U hy78) ?_;refine h5 ?_;refine qt (fun _ U W=>LR.loadRpF (enc:=RN.e) (L:=out70) (y:=x77) isAgg52 U (W rfl) hy78.2 rfl) ?_;refine vV ?_;exact⟨(decide (x73.lo<=(IntKind.u64.wrap (x77.hi+1)))),(),h,zEa⟩
      ·refine hs11A6 ?_;exact⟨false,(),h,zEa⟩
     ·rintro v75 _ h;refine zE h (fun h=>?_) fun h=>?_
      ·refine g5 ?_;refine uU [6,8,9,38,39,40] [3,6,8] ?_;refine PWc.regionE [zt [60] [6],{ws:=[61]},zt [62] [6],{ws:=[63]},zt [64] [6],zt [65] [6],⟨[66],[],[6],[],[],[],[],[]⟩,zt [67] [8],⟨[68],[],[8],[],[],[],[],[]⟩,{ws:=[69]},zt [70] [6],zt [71] [6],⟨[],[6],[6],[],[],[],[],[]⟩] (by kernel_rfl) (by kernel_rfl) rfl ?_;refine vV ?_;obtain⟨x80,hy81,h⟩:=yF h;refine kp (fun _ U W=>LR.idxRowT (L:=out70) (y:=x80) underlying60 sizeOf90 U rfl U hy81) ?_;refine h5 ?_;refine kp (fun _ U W=>LR.loadRpF (enc:=RN.e) (L:=out70) (y:=x80) isAgg52 U (W rfl rfl) hy81.2 rfl) ?_;refine yU ?_;obtain⟨x82,hy83,h⟩:=yF h;refine kp (fun _ U W=>LR.idxRowT (L:=out70) (y:=x82) underlying60 sizeOf90 U rfl U hy83) ?_;refine h5 ?_;refine ks (fun _ U W=>LR.storeRpT (enc:=RN.e) (L:=out70) (a:=x82) (b:=(⟨x82.lo,(max x80.hi x73.hi)⟩:RN)) sizeOf52 U U rfl rfl (W rfl rfl) hy83.2 rfl rfl)<|PQe.nil<|wZ ?_;exact⟨(List.set out70 ((Int.toNat ((IntKind.i64.wrap ((out70.length:Int) - 1))))) (⟨x82.lo,(max x80.hi x73.hi)⟩:RN)),(),h,zEa⟩
      ·refine zH ?_;refine ws (LR.buildSliceD [.tmp 73] xw rfl rfl (.cons rfl rfl rfl<|.nil) (by decide) (by decide)) ?_;obtain⟨hy84,h⟩:=zq h;refine ws (LR.appT (enc:=RN.e) (L:=out70) (R:=[x73]) [6,72] xw underlying60 rfl rfl rfl (Src.slT (enc:=RN.e) (R:=[x73]) rfl (fun _=>rfl)) (fun _=>rfl) hy84 rfl rfl) ?_;refine zC ?_;exact⟨(out70++[x73]),(),h,zEa⟩
    ·rintro out72 _ h;refine zH ?_;exact⟨((IntKind.i64.wrap (v69+1)),out72),(),h,zEa⟩
   ·refine wZ ?_;exact⟨out70,(),h,sP⟩
  ·rintro out38 _ h;refine zF ?_;refine wX ?_;cases h;exact⟨.inr rfl,2,rfl,.inr ⟨6,_,rfl,(by simp),rfl⟩⟩
theorem ZL{x1 r0}(h:(vF x1).wp (·=r0)):PFun prog 117 [zJ .u16 x1] (.d (.v (.bool r0))):=by
 refine yB [0] func117 ntmps117 ?_;intro ctx hK;refine vQ ?_;refine wX ?_;cases h;exact xT
theorem XO{x1 y2 r0}(h:(xm x1 y2).wp (·=r0)):PFun prog 76 [zJ .u16 x1,zJ .u16 y2] (zJ .i64 r0):=by
 refine yB [0,1] func76 ntmps76 ?_;intro ctx hK;refine zm ?_;obtain⟨v3,hy4,h⟩:=zP h;refine xN (ZL hy4) call117 ?_;refine zF ?_;obtain⟨v5,hy6,h⟩:=zP h;refine xN (ZL hy6) call117 ?_;refine zm ?_;refine zE h (fun h=>?_) fun h=>?_
 ·refine zF ?_;refine zE h (fun h=>?_) fun h=>?_
  ·refine zH ?_;refine wX ?_;cases h;exact xT
  ·refine zF ?_;refine wX ?_;cases h;exact xT
 ·refine zV ?_;refine zE h (fun h=>?_) fun h=>?_
  ·refine zH ?_;refine wX ?_;cases h;exact xT
  ·refine zl ?_;refine zE h (fun h=>?_) fun h=>?_
   ·refine zH ?_;refine wX ?_;cases h;exact xT
   ·refine zl ?_;refine zE h (fun h=>?_) fun h=>?_
    ·refine zH ?_;refine wX ?_;cases h;exact xT
    ·refine zF ?_;refine wX ?_;cases h;exact xT
theorem Zi{m1 r0}(h:(ww m1).wp (·=r0)):PRow prog 69 [.md [.u16] false (zO kI (eL RN.e) m1)] 62 2 (List.map PT.e r0):=by
 refine PRow.intro (sl:=[(0,_)]) func69 rfl ntmps69 rfl rfl ?_;intro ctx hK;refine zC ?_;refine ws (aR 62 2 rfl) ?_;refine zL ?_;refine ws (aR 62 2 rfl) ?_;refine zF ?_;refine PWl.rangeD underlying103 rfl rfl rfl (fun bs2 ck2 hbl2 hbn2=>?_);refine g5 ?_;refine yN (zK h) 27 [] [] (fun c3=>([(3,.row 3 (c3.length))],[(3,.row 62 2 (List.map PT.e c3))])) (fun h=>?_) ?_
 ·refine g5 ?_;refine zc h 27 [7] [] (fun⟨seen28,c29⟩=>([(3,.row 3 (c29.length))],[(3,.row 62 2 (List.map PT.e c29)),(7,.iterD [.u16] false (zO kI (eL RN.e) m1) bs2 ck2 seen28)])) ?_;rintro N ⟨seen28,c29⟩ _ h;refine zC ?_;obtain⟨hy40,h⟩:=zq h;replace h:=w5a h;refine PWl.nextD rfl rfl (w8a hy40) rfl (fun hy31=>?_) (fun j30 hy32 hy33=>?_)
  ·replace h:=h.1 (w6a hy31);refine zL ?_;refine PWc.condF rfl<|wZ ?_;exact⟨c29,(),h,sP⟩
  ·replace h:=h.2 j30 (w7a hy32) hy33;refine zL ?_;refine PWc.condT rfl ?_;refine zH ?_;obtain⟨kv34,hy35,h⟩:=yF h;refine ws (LR.entryD rfl rfl (Yt hy35) rfl rfl) ?_;refine zl ?_;obtain⟨v36,hy37,h⟩:=zP h;refine ws (LR.rowN (wG hy37) rfl call113 rfl rfl rfl rfl) ?_;refine zl ?_;refine zE h (fun h=>?_) fun h=>?_
   ·refine zH ?_;refine PWl.frz [5,14,15,20] hK (.cons rfl<|.cons rfl<|.cons rfl<|.cons rfl<|.nil) rfl (by simp) ?_;refine ws (LR.build (ns:=[_,_]) qv rfl rfl rfl)<|ws (LR.buildSliceD [.tmp 21] XF rfl rfl (.cons rfl rfl rfl<|.nil) (by decide) (by decide)) ?_;obtain⟨hy39,h⟩:=zq h;refine ws (LR.appT (enc:=PT.e) (L:=c29) (R:=[(⟨kv34.1,v36⟩:PT)]) [3,18] XF underlying24 rfl rfl rfl (Src.slT (enc:=PT.e) (R:=[(⟨kv34.1,v36⟩:PT)]) rfl (fun _=>rfl)) (fun _=>rfl) hy39 rfl rfl)<|yL [7,23] [3,7] ?_;refine zC ?_;exact⟨((seen28++[j30]),(c29++[(⟨kv34.1,v36⟩:PT)])),(),h,sP⟩
   ·refine g5 ?_;exact⟨((seen28++[j30]),c29),(),h,sP⟩
 ·rintro c3 _ h;refine zL ?_;obtain⟨hy42,h⟩:=zq h;refine PWl.sortFnR (encD:=PT.e) (enc:=RawTPart.v) (lt:=jc) (R:=RawTPart.R) (l:=c3) qB RawTPart.raw rlt114 (fun _=>rfl) (fun _=>rfl) rfl call114 rfl rfl rfl (by simp) hy42 rfl (fun s41 hy43 hy44=>?_);replace h:=iSrt h s41 hy43 hy44;have hy43l:=hy43.length_eq;refine zV ?_;refine wX ?_;cases h;exact⟨.inr rfl,2,rfl,.inr ⟨3,_,rfl,uc,rfl⟩⟩
theorem xf{c1 r0}(h:(ud c1).wp (·=r0)):PMap prog 70 [zZ PT.e c1] [.u16] false (zO kI (eL RN.e) r0):=by
 refine PMap.intro (sl:=[(0,_)]) func70 rfl ntmps70 rfl rfl ?_;intro ctx hK;refine zV ?_;refine ws (LR.makeMap [.u16] false rfl) ?_;refine xl ?_;obtain⟨hy10,h⟩:=zq h;have hN:=hy10.1;refine PWc.loopRows (bid:=0) (N:=c1.length) (mid:=6) (n:=28) (ks:=[.u16]) (e:=90) (k:=2) (fun i=>[(3,.mp 6),(7,zZ PT.e c1),(8,zJ .i64 (c1.length:Int)),(9,zJ .i64 (i:Int))]) (fun i=>vp kI RN.e (AL.grow [] ((List.take i c1).filterMap zu))) [(3,.mp 6)] [] 0 hK (by decide) (fun i x hx id h=>by simp only[List.mem_cons,List.not_mem_nil,or_false] at hx;rcases hx with rfl | rfl | rfl | rfl <;> first | (simp[PV.has] at h;done) | (simp[PV.has] at h;exact h.symm) | (simp[PV.has] at h;omega)) rfl (fun i=>Uc (fun x d hd=>by simp only[RN.e,List.mem_cons,List.not_mem_nil,or_false] at hd;rcases hd with rfl | rfl <;> exact⟨_,rfl⟩) _) (sP) (fun i hi=>?_) (zO kI (eL RN.e) (AL.grow ([]:List (Int×List RN)) (List.filterMap zu c1))) (by simp only[List.take_length];exact xha _) (fun ctx vm bs ck=>?_) (fun bs ck=>?_)
 ·obtain⟨p,hp⟩:∃ p,c1[i]?=some p:=⟨_,List.getElem?_eq_getElem hi⟩
  have hidx:(0:Int)<=(i:Int)/\c1[(i:Int).toNat]?=some p:=⟨by omega,by simpa using hp⟩
  have htk:=AL.grow_take hp zu;have hwi:=voa (i:=i) (by omega)
  by_cases hd:0 < p.dev
  ·have hf:zu p=some (p.dev,p.runs):=by simp[zu,hd]
   have hbd:=AL.grow_bound hy10 hp hf;rw[hf] at htk;rcases UN (eK:=kI) (enc:=RN.e) VI (p.dev) (AL.grow [] ((List.take i c1).filterMap zu)) with⟨j,l,h1,h2,h3,h4⟩ | ⟨h1,h2,h3⟩
   ·simp only[h3] at hbd;refine .found (nl:=l.length) (nl':=(List.length (l++p.runs))) (l:=(List.map RN.e l)) (l':=(List.map RN.e (l++p.runs))) (by simp) (by simp) h2 (by rw[htk];simp only[AL.grow,Option.toList,List.foldl] at h3 h4 ⊢;rw[h3];exact h4 _) fun ctx vm bs ck hvm=>?_
    have hpf:xE (kI (p.dev)) (ZA vm) 0=some j:=by rw[Vi hvm];exact h1
    have h:(M.bind (M.idx c1 (i:Int)) fun x2=>M.yt ((l.length+x2.runs.length)*16<=140737488355328)<|M.pure ()).wp (fun _=>True):=⟨p,hidx,hbd,trivial⟩
    refine zF ?_;refine PWc.condT (congrArg (fun b=>some (PV.d (.v (.bool b)))) (decide_eq_true (Int.ofNat_lt.2 hi))) ?_;refine zF ?_;obtain⟨x2,hy3,h⟩:=yF h;have hE:=idxU hy3 hidx;subst hE;refine yZ hy3 ?_;refine xl ?_;refine PWc.condT (congrArg (fun b=>some (PV.d (.v (.bool b)))) (decide_eq_true hd))<|uU [3,5,7,8,9] [5,6,50] ?_;refine PWc.regionE [zt [16] [6],zt [17] [5],⟨[18],[],[5],[],[],[],[],[]⟩,zt [19] [6],zt [20] [5],⟨[21],[],[5],[],[],[],[],[]⟩,⟨[22],[],[6],[],[],[50],[],[]⟩,zt [23] [5],⟨[24],[],[5],[],[],[],[],[]⟩,⟨[22,25],[6,50],[6,50],[],[(50,[22])],[50],[],[6]⟩,⟨[],[6],[6,50],[],[],[],[50],[]⟩] (by kernel_rfl) (by kernel_rfl) rfl ?_;refine Wh ?_;refine kp (fun _ U W=>LR.lookupP underlying103 ZB U (W rfl rfl) U rfl hpf rfl) ?_;refine zy ?_;obtain⟨hy4,h⟩:=zq h;refine PQe.stepX [22] (fun _ U W ha=>LR.appP (enc:=RN.e) (L:=l) (R:=x2.runs) [22] xw underlying60 (U rfl rfl) rfl (W rfl rfl) (W rfl rfl) rfl (fun _ h1 h2=>Src.slT (enc:=RN.e) (R:=x2.runs) (xia h1 h2 (U rfl rfl)) (fun _=>rfl)) (fun _=>rfl) hy4 rfl ha) rfl rfl (.inl rfl) rfl ?_;refine ks (fun _ U W=>LR.mapUpdateP underlying103 ZB U (W rfl rfl) U rfl rfl U hpf)<|PQe.nil ?_;refine zH ?_;exact⟨rfl,sO rfl (.c2 rfl rfl rfl rfl<|.cons rfl rfl<|.cons rfl (congrArg (fun z=>PV.d (.v (.int .i64 z))) hwi)<|.nil) (.c2 rfl rfl rfl rfl<|.nil)⟩
   ·simp only[h2,List.length_nil,Nat.zero_add] at hbd;refine .fresh (q:=25) (nl':=p.runs.length) (l':=(List.map RN.e p.runs)) (by simp) (by decide) (by rw[htk];simp only[AL.grow,Option.toList,List.foldl] at h2 h3 ⊢;rw[h2];exact h3 _) fun ctx vm bs ck hvm=>?_
    have hpf:xE (kI (p.dev)) (ZA vm) 0=none:=by rw[Vi hvm];exact h1
    have h:(M.bind (M.idx c1 (i:Int)) fun x5=>M.yt (x5.runs.length*16<=140737488355328)<|M.pure ()).wp (fun _=>True):=⟨p,hidx,hbd,trivial⟩
    refine zF ?_;refine PWc.condT (congrArg (fun b=>some (PV.d (.v (.bool b)))) (decide_eq_true (Int.ofNat_lt.2 hi))) ?_;refine zF ?_;obtain⟨x5,hy6,h⟩:=yF h;have hE:=idxU hy6 hidx;subst hE;refine yZ hy6 ?_;refine xl ?_;refine PWc.condT (congrArg (fun b=>some (PV.d (.v (.bool b)))) (decide_eq_true hd))<|uU [3,5,7,8,9] [5,6] ?_;refine PWc.regionE [zt [16] [6],zt [17] [5],⟨[18],[],[5],[],[],[],[],[]⟩,zt [19] [6],zt [20] [5],⟨[21],[],[5],[],[],[],[],[]⟩,⟨[22],[],[6],[],[],[],[],[]⟩,zt [23] [5],⟨[24],[],[5],[],[],[],[],[]⟩,⟨[25],[25],[],[25],[],[25],[],[]⟩,⟨[],[6],[6,25],[],[],[],[25],[]⟩] (by kernel_rfl) (by kernel_rfl) rfl ?_;refine Wh ?_;refine kp (fun _ U W=>LR.lookupPN underlying103 ZB U (W rfl rfl) U rfl zeroValue60 rfl hpf) ?_;refine zy ?_;obtain⟨hy7,h⟩:=zq h;refine PQe.stepN (fun _ U W hf=>LR.appNilX (enc:=RN.e) (R:=x5.runs) xw underlying60 (U rfl rfl) hf (Src.slT (enc:=RN.e) (R:=x5.runs) (evObjs (U rfl rfl)) (fun _=>rfl)) (fun _=>rfl) hy7 rfl (jk hf)) rfl (.inl rfl) rfl ?_;refine ks (fun _ U W=>LR.mapUpdatePN underlying103 ZB U (W rfl rfl) U rfl rfl U hpf)<|PQe.nil ?_;refine zH ?_;exact⟨rfl,sO rfl (.c2 rfl rfl rfl rfl<|.cons rfl rfl<|.cons rfl (congrArg (fun z=>PV.d (.v (.int .i64 z))) hwi)<|.nil) (.c2 rfl rfl rfl rfl<|.nil)⟩
  ·have hf:zu p=none:=by simp[zu,hd]
   rw[hf] at htk;refine .skip (by rw[htk];rfl) fun ctx vm bs ck=>?_
   have h:(M.bind (M.idx c1 (i:Int)) fun x8=>M.pure ()).wp (fun _=>True):=⟨p,hidx,trivial⟩
   refine zF ?_;refine PWc.condT (congrArg (fun b=>some (PV.d (.v (.bool b)))) (decide_eq_true (Int.ofNat_lt.2 hi))) ?_;refine zF ?_;obtain⟨x8,hy9,h⟩:=yF h;have hE:=idxU hy9 hidx;subst hE;refine yZ hy9 ?_;refine xl ?_;refine PWc.condF (congrArg (fun b=>some (PV.d (.v (.bool b)))) (decide_eq_false hd)) ?_;refine zF ?_;exact⟨rfl,sO rfl (.c2 rfl rfl rfl rfl<|.cons rfl rfl<|.cons rfl (congrArg (fun z=>PV.d (.v (.int .i64 z))) hwi)<|.nil) (.cons rfl rfl<|.nil)⟩
 ·have h:(M.pure ()).wp (fun _=>True):=trivial;refine zF ?_;refine PWc.condF (congrArg (fun b=>some (PV.d (.v (.bool b)))) (decide_eq_false (by omega))) ?_;refine wZ ?_;exact⟨rfl,sP⟩
 ·refine zF ?_;refine wX ?_;cases h;exact⟨.inr rfl,2,6,_,_,rfl,rfl,rfl⟩
theorem vL{c1 r0}(h:(vW c1).wp (·=r0)):PRow prog 28 [zZ PT.e c1] 62 2 (List.map PT.e r0):=by
 refine PRow.intro (sl:=[(0,_)]) func28 rfl ntmps28 rfl rfl ?_;intro ctx hK;refine zC ?_;refine ws (aR 62 2 rfl) ?_;refine zH ?_;obtain⟨v2,hy3,h⟩:=zP h;refine PWl.mapN (xf hy3) rfl call70 rfl rfl rfl rfl rfl (fun bs4 ck4 _=>?_);obtain⟨v5,hy6,h⟩:=zP h;refine PWl.frzM [4] hK (.cons rfl<|.nil) rfl<|ws (LR.rowN (Zi hy6) rfl call69 rfl rfl rfl rfl)<|yL [0,3,4,5] [5] ?_;refine zC ?_;refine wX ?_;cases h;exact⟨.inr rfl,2,rfl,.inr ⟨5,_,rfl,(by simp),rfl⟩⟩
theorem XP{a1 b2 r0}(h:(YA a1 b2).wp (·=r0)):PRow prog 88 [zZ RN.e a1,zZ RN.e b2] 90 2 (List.map RN.e r0):=by
 refine PRow.intro (sl:=[(0,_),(1,_)]) func88 rfl ntmps88 rfl rfl ?_;intro ctx hK;refine zC ?_;refine ws (aR 90 2 rfl) ?_;refine zH ?_;obtain⟨v3,hy4,h⟩:=zP h;refine ws (LR.rowN (wG hy4) rfl call113 rfl rfl rfl rfl) ?_;refine g5 ?_;obtain⟨v5,hy6,h⟩:=zP h;refine ws (LR.rowN (wG hy6) rfl call113 rfl rfl rfl rfl) ?_;refine zF ?_;refine ws (aR 90 2 rfl) ?_;refine zC ?_;refine yN (zK h) 61 [] [] (fun out7=>([(5,.row 5 (out7.length))],[(5,.row 90 2 (List.map RN.e out7))])) (fun h=>?_) ?_
 ·refine g5 ?_;refine zc h 61 [] [] (fun⟨a53,b54,out55⟩=>([(0,zZ RN.e a53),(1,zZ RN.e b54),(5,.row 5 (out55.length))],[(5,.row 90 2 (List.map RN.e out55))])) ?_ (hs:=Sub.trans (Sub.frz [0,8] hK rfl (by simp) (AllRow.get (.cons rfl<|.cons rfl<|.nil)))<|Sub.trans (Sub.frz [1,10] hK rfl (by simp) (AllRow.get (.cons rfl<|.cons rfl<|.nil)))<|sP);rintro N ⟨a53,b54,out55⟩ _ h;refine zC ?_;refine yN (zK h) 61 [0,1,5] [5] (fun v56=>([(18,.d (.v (.bool v56)))],[])) (fun h=>?_) ?_
  ·refine zF ?_;refine yH 14 h (fun h=>?_) fun h=>?_
   ·refine zF ?_;exact⟨(decide (0 < (b54.length:Int))),(),h,sP⟩
   ·refine zF ?_;exact⟨false,(),h,sP⟩
  ·rintro v56 _ h;refine zE h (fun h=>?_) fun h=>?_
   ·refine zH ?_;refine uU [0,1,5] [5] ?_;refine PWc.regionE [{ws:=[19]},{ws:=[20]},{ws:=[21]},{ws:=[22]},{ws:=[23]},{ws:=[24]},{ws:=[25]},{ws:=[26]},{ws:=[27]},{ws:=[28]},{ws:=[29]},{ws:=[30]},{ws:=[31]},{ws:=[32]},{ws:=[33]},{ws:=[34]},{ws:=[35]},{ws:=[36]},{ws:=[37]},⟨[6],[6],[],[6],[],[6],[],[]⟩,⟨[],[6],[6],[],[],[],[],[]⟩] (by kernel_rfl) (by kernel_rfl) rfl ?_;refine h5 ?_;obtain⟨x59,hy60,h⟩:=yF h;refine kp (fun _ U W=>iX (enc:=RN.e) (L:=a53) (y:=x59) underlying60 sizeOf90 U U hy60 (fun _=>rfl)) ?_;refine yU ?_;obtain⟨x61,hy62,h⟩:=yF h;refine kp (fun _ U W=>iX (enc:=RN.e) (L:=b54) (y:=x61) underlying60 sizeOf90 U U hy62 (fun _=>rfl)) ?_;refine vV ?_;obtain⟨x63,hy64,h⟩:=yF h;refine kp (fun _ U W=>iX (enc:=RN.e) (L:=a53) (y:=x63) underlying60 sizeOf90 U U hy64 (fun _=>rfl)) ?_;refine yU ?_;obtain⟨x65,hy66,h⟩:=yF h;refine kp (fun _ U W=>iX (enc:=RN.e) (L:=b54) (y:=x65) underlying60 sizeOf90 U U hy66 (fun _=>rfl)) ?_;refine yU ?_;refine kp (fun _ U W=>LR.build (ns:=[_,_]) Wg rfl (w4a (fun a b=>U a b) rfl rfl) rfl) ?_;refine PQe.stepN (fun _ U W hf=>LR.allocZ (cs:=[_,_]) zeroValue90 rfl rfl rfl hf) rfl (.inl rfl) rfl ?_;refine ks (fun _ U W=>sB (ns:=[_,_]) sizeOf90 U U rfl rfl (W rfl rfl) rfl rfl)<|PQe.nil ?_;refine zC ?_;refine yL [0,1,5,6] [5,6] ?_;refine zV ?_;refine yN (zK h) 61 [0,1] [] (fun out67=>([(5,.row 5 (out67.length))],[(5,.row 90 2 (List.map RN.e out67))])) (fun h=>?_) ?_
    ·refine zE h (fun h=>?_) fun h=>?_
     ·refine zL ?_;refine ws (LR.buildSliceD [.tmp 44] xw rfl rfl (.cons rfl rfl rfl<|.nil) (by decide) (by decide)) ?_;obtain⟨hy69,h⟩:=zq h;refine ws (LR.appT (enc:=RN.e) (L:=out55) (R:=[(⟨(max x59.lo x61.lo),(min x63.hi x65.hi)⟩:RN)]) [5,43] xw underlying60 rfl rfl rfl (Src.slT (enc:=RN.e) (R:=[(⟨(max x59.lo x61.lo),(min x63.hi x65.hi)⟩:RN)]) rfl (fun _=>rfl)) (fun _=>rfl) hy69 rfl rfl) ?_;refine zC ?_;exact⟨(out55++[(⟨(max x59.lo x61.lo),(min x63.hi x65.hi)⟩:RN)]),(),h,zEa⟩
     ·refine g5 ?_;exact⟨out55,(),h,sP⟩
    ·rintro out67 _ h;refine zC ?_;refine h5 ?_;obtain⟨x70,hy71,h⟩:=yF h;refine xa hy71 ?_;refine yU ?_;obtain⟨x72,hy73,h⟩:=yF h;refine xa hy73 ?_;refine vV ?_;refine zE h (fun h=>?_) fun h=>?_
     ·refine zC ?_;obtain⟨hy75,h⟩:=zq h;refine ws (LR.cutLT (enc:=RN.e) (L:=a53) underlying60 sizeOf90 rfl (fun _=>rfl) rfl hy75) ?_;refine zC ?_;exact⟨((List.drop (Int.toNat 1) (List.take (Int.toNat (a53.length:Int)) a53)),b54,out67),(),h,sP⟩
     ·refine zC ?_;obtain⟨hy76,h⟩:=zq h;refine ws (LR.cutLT (enc:=RN.e) (L:=b54) underlying60 sizeOf90 rfl (fun _=>rfl) rfl hy76) ?_;refine zC ?_;exact⟨(a53,(List.drop (Int.toNat 1) (List.take (Int.toNat (b54.length:Int)) b54)),out67),(),h,sP⟩
   ·refine wZ ?_;exact⟨out55,(),h,sP⟩
 ·rintro out7 _ h;refine zF ?_;refine wX ?_;cases h;exact⟨.inr rfl,4,rfl,.inr ⟨5,_,rfl,(by simp),rfl⟩⟩
theorem XQ{a1 b2 r0}(h:(xn a1 b2).wp (·=r0)):PRow prog 87 [zZ PT.e a1,zZ PT.e b2,.d (.v (.func (.func 88) #[] #[]))] 62 2 (List.map PT.e r0):=by
 refine PRow.intro (sl:=[(0,_),(1,_),(2,_)]) func87 rfl ntmps87 rfl rfl ?_;intro ctx hK;refine zC ?_;refine ws (aR 62 2 rfl) ?_;refine zH ?_;obtain⟨v3,hy4,h⟩:=zP h;refine PWl.mapN (xf hy4) rfl call70 rfl rfl rfl rfl rfl (fun bs5 ck5 _=>?_);refine g5 ?_;obtain⟨v6,hy7,h⟩:=zP h;refine PWl.mapN (xf hy7) rfl call70 rfl rfl rfl rfl rfl (fun bs8 ck8 _=>?_);refine xV ?_;refine yN (zK h) 32 [7] [] (fun v9=>([],[(12,.map [.u16] false (zO kI (eL RN.e) v9) bs5 ck5)])) (fun h=>?_) ?_
 ·refine g5 ?_;refine zc h 32 [2,7,8,16] [14] (fun⟨seen32,v33⟩=>([],[(12,.map [.u16] false (zO kI (eL RN.e) v33) bs5 ck5),(16,.iterO 12 bs5 ck5 seen32)])) ?_;rintro N ⟨seen32,v33⟩ _ h;refine zC ?_;obtain⟨hy43,h⟩:=zq h;replace h:=w5a h;refine PWl.nextO rfl rfl rfl (w8a hy43) rfl (fun hy35=>?_) (fun j34 hy36 hy37=>?_)
  ·replace h:=h.1 (w6a hy35);refine zL ?_;refine PWc.condF rfl<|wZ ?_;exact⟨v33,(),h,sP⟩
  ·replace h:=h.2 j34 (w7a hy36) hy37;refine zL ?_;refine PWc.condT rfl ?_;refine zH ?_;obtain⟨kv38,hy39,h⟩:=yF h;refine ws (LR.entryO rfl rfl rfl (Yt hy39) rfl rfl) ?_;refine Yu ?_;refine ws (LR.getO (eV:=(eL RN.e)) (zv:=([]:List RN)) (q:=kv38.1) (m:=v6) VI underlying103 ZB zeroValue60 (zRd1 (.slice none 0 0) rfl) rfl rfl rfl rfl rfl rfl) ?_;obtain⟨v40,hy41,h⟩:=zP h;refine ws (LR.rowN (XP hy41) rfl call88 rfl rfl rfl rfl) ?_;obtain⟨hy42,h⟩:=zq h;refine PWl.frz [29] hK (.cons rfl<|.nil) rfl (by simp) ?_;refine ws (LR.setIn (eV:=(eL RN.e)) (q:=kv38.1) (v:=v40) (m:=v33) VI underlying103 ZB rfl rfl rfl rfl rfl rfl rfl (fun _=>rfl) hy42) ?_;refine g5 ?_;exact⟨((seen32++[j34]),(AL.set v33 kv38.1 v40)),(),h,sP⟩
 ·rintro v9 _ h;refine zL ?_;obtain⟨v44,hy45,h⟩:=zP h;refine PWl.frzM [7,30] hK (.cons rfl<|.cons rfl<|.nil) rfl<|ws (LR.rowN (Zi hy45) rfl call69 rfl rfl rfl rfl) ?_;refine zC ?_;refine wX ?_;cases h;exact⟨.inr rfl,6,rfl,.inr ⟨31,_,rfl,(by simp),rfl⟩⟩
theorem jm{a1 b2 r0}(h:(Xh a1 b2).wp (·=r0)):PRow prog 38 [zZ PT.e a1,zZ PT.e b2] 62 2 (List.map PT.e r0):=by
 refine PRow.intro (sl:=[(0,_),(1,_)]) func38 rfl ntmps38 rfl rfl ?_;intro ctx hK;refine zC ?_;refine ws (aR 62 2 rfl) ?_;refine zF ?_;obtain⟨v3,hy4,h⟩:=zP h;refine ws (LR.rowN (XQ hy4) rfl call87 rfl rfl rfl rfl)<|yL [0,1,5,6,7] [7] ?_;refine zC ?_;refine wX ?_;cases h;exact⟨.inr rfl,4,rfl,.inr ⟨7,_,rfl,(by simp),rfl⟩⟩
theorem xH{s1 r0}(h:(yA s1).wp (·=r0)):PRow prog 94 [zZ DT.e s1] 54 2 (List.map DT.e r0):=by
 refine PRow.intro (sl:=[(0,_)]) func94 rfl ntmps94 rfl rfl ?_;intro ctx hK;refine zC ?_;refine ws (aR 54 2 rfl) ?_;refine zF ?_;replace h:=iNil h;refine PWl.eqlNilT (enc:=DT.e) (L:=s1) underlying55 rfl rfl (fun b2 hy3=>?_);replace h:=h b2 hy3;refine g5 ?_;refine zE h (fun h=>?_) fun h=>?_
 ·refine zC ?_;refine yL [0,3,4] [] ?_;refine ws (aR 54 2 rfl) ?_;refine g5 ?_;refine wX ?_;cases h;exact⟨.inr rfl,2,rfl,.inr ⟨2,_,rfl,uc,rfl⟩⟩
 ·refine zF ?_;obtain⟨hy5,h⟩:=zq h;refine ws (LR.appT (enc:=DT.e) (L:=([]:List DT)) (R:=s1) [5] Zz underlying55 rfl uc rfl (Src.slT (enc:=DT.e) (R:=s1) rfl (fun _=>rfl)) (fun _=>rfl) hy5 rfl rfl) ?_;refine yL [0,3,4,6,7] [5] ?_;refine zC ?_;refine wX ?_;cases h;exact⟨.inr rfl,2,rfl,.inr ⟨5,_,rfl,(by simp),rfl⟩⟩
theorem uj{e1 r0}(h:(yq e1).wp (·=r0)):PFun prog 44 [.agg (List.map .d (EV.e e1))] (.agg (List.map .d (EV.e r0))):=by
 refine yB [0] func44 ntmps44 ?_;intro ctx hK;refine xV ?_;obtain⟨v2,hy3,h⟩:=zP h;refine ws (LR.rowN (xH hy3) rfl call94 rfl rfl rfl rfl) ?_;refine g5 ?_;refine PWl.frz [5] hK (.cons rfl<|.nil) rfl (by simp) ?_;refine zm ?_;refine wX ?_;cases h;exact⟨.inr rfl,_,.cons (.agg isAgg57 sizeOf57 rfl rfl rfl rfl)<|.nil,rfl⟩
theorem WE{a1 b2 r0}(h:(Zr a1 b2).wp (·=r0)):PFun prog 30 [.agg (List.map .d (DT.e a1)),.agg (List.map .d (DT.e b2))] (zJ .i64 r0):=by
 refine yB [0,1] func30 ntmps30 ?_;intro ctx hK;refine vn ?_;obtain⟨v3,hy4,h⟩:=zP h;refine xN (XO hy4) call76 ?_;refine zm ?_;refine zE h (fun h=>?_) fun h=>?_
 ·refine zF ?_;refine wX ?_;cases h;exact xT
 ·refine zm ?_;obtain⟨v6,hy7,h⟩:=zP h;refine xN (uP hy7) call77 ?_;refine zC ?_;refine wX ?_;cases h;exact xT
theorem ZM{n1 r0}(h:(yr n1).wp (·=r0)):PRow prog 128 [.d (.v (.slice none 0 0)),zJ .i64 n1] 62 2 (List.map PT.e r0):=by
 refine PRow.intro (sl:=[(0,_),(1,_)]) func128 rfl ntmps128 rfl rfl ?_;intro ctx hK;refine zC ?_;refine ws (aR 62 2 rfl) ?_;refine zm ?_;refine zE h (fun h=>?_) fun h=>?_
 ·exact h.elim
 ·refine xWa ?_;refine yN (zK h) 27 [] [] (fun v3=>([(0,.row 22 (v3.length))],[(22,.row 62 2 (List.map PT.e v3))])) (fun h=>?_) ?_
  ·refine zE h (fun h=>?_) fun h=>?_
   ·refine zV ?_;obtain⟨hy5,h⟩:=zq h;refine ws (LR.appMakeT (enc:=PT.e) (z:=(⟨0,([]:List RN)⟩:PT)) hy5 XF underlying3 zeroValue62 rfl rfl rfl rfl rfl rfl rfl)<|yL [0,22] [22] ?_;refine zC ?_;obtain⟨hy6,h⟩:=zq h;refine ws (LR.cutRowT (enc:=PT.e) (L:=(List.replicate (Int.toNat ((IntKind.i64.wrap (n1 - (IntKind.i64.wrap (0 - 0)))))) (⟨0,([]:List RN)⟩:PT))) [22] underlying24 sizeOf62 rfl uc rfl rfl hy6 rfl) ?_;refine zC ?_;exact⟨(List.take (Int.toNat 0) ((List.replicate (Int.toNat ((IntKind.i64.wrap (n1 - (IntKind.i64.wrap (0 - 0)))))) (⟨0,([]:List RN)⟩:PT)))),(),h,zEa⟩
   ·refine g5 ?_;exact⟨[],(),h,Sub.trans (Sub.nilRow 0 22 62 2 rfl rfl)<|sP⟩
  ·rintro v3 _ h;refine zF ?_;refine wX ?_;cases h;exact⟨.inr rfl,4,rfl,.inr ⟨22,_,rfl,(by simp),rfl⟩⟩
theorem wx{slices1 r0}(h:(xA slices1).wp (·=r0)):PRow prog 95 [zZ (eL PT.e) slices1] 62 2 (List.map PT.e r0):=by
 refine PRow.intro (sl:=[(0,_)]) func95 rfl ntmps95 rfl rfl ?_;intro ctx hK;refine zC ?_;refine ws (aR 62 2 rfl) ?_;refine Yu ?_;refine yN (zK h) 36 [0] [] (fun size2=>([(3,zJ .i64 size2)],[])) (fun h=>?_) ?_
 ·refine g5 ?_;refine zc h 36 [0,9,10] [] (fun⟨size13,v14⟩=>([(3,zJ .i64 size13),(11,zJ .i64 v14)],[])) ?_;rintro N ⟨size13,v14⟩ _ h;refine zF ?_;refine zE h (fun h=>?_) fun h=>?_
  ·refine zF ?_;obtain⟨x16,hy17,h⟩:=yF h;refine yZ hy17 ?_;refine Jz ?_;refine zE h (fun h=>?_) fun h=>?_
   ·exact h.elim
   ·refine zF ?_;exact⟨((IntKind.i64.wrap (size13+(x16.length:Int))),(IntKind.i64.wrap (v14+1))),(),h,sP⟩
  ·refine wZ ?_;exact⟨size13,(),h,sP⟩
 ·rintro size2 _ h;refine zL ?_;obtain⟨v19,hy20,h⟩:=zP h;refine ws (LR.rowT (ZM hy20) rfl call128 rfl rfl rfl) ?_;refine xV ?_;refine yN (zK h) 36 [] [] (fun v21=>([(6,.row 24 (v21.length))],[(24,.row 62 2 (List.map PT.e v21))])) (fun h=>?_) ?_
  ·refine g5 ?_;refine zc h 36 [25,26] [] (fun⟨v32,v33⟩=>([(6,.row 24 (v33.length)),(27,zJ .i64 v32)],[(24,.row 62 2 (List.map PT.e v33))])) ?_;rintro N ⟨v32,v33⟩ _ h;refine zF ?_;refine zE h (fun h=>?_) fun h=>?_
   ·refine zF ?_;obtain⟨x35,hy36,h⟩:=yF h;refine yZ hy36 ?_;refine zV ?_;obtain⟨hy37,h⟩:=zq h;refine ws (LR.appT (enc:=PT.e) (L:=v33) (R:=x35) [6,31] XF underlying24 rfl rfl rfl (Src.slT (enc:=PT.e) (R:=x35) rfl (fun _=>rfl)) (fun _=>rfl) hy37 rfl rfl) ?_;refine zV ?_;exact⟨((IntKind.i64.wrap (v32+1)),(v33++x35)),(),h,sP⟩
   ·refine wZ ?_;exact⟨v33,(),h,sP⟩
  ·rintro v21 _ h;refine zF ?_;refine wX ?_;cases h;exact⟨.inr rfl,2,rfl,.inr ⟨24,_,rfl,(by simp),rfl⟩⟩
theorem jo{a1 b2 r0}(h:(Xi a1 b2).wp (·=r0)):PRow prog 45 [zZ PT.e a1,zZ PT.e b2] 62 2 (List.map PT.e r0):=by
 refine PRow.intro (sl:=[(0,_),(1,_)]) func45 rfl ntmps45 rfl rfl ?_;intro ctx hK;refine zC ?_;refine ws (aR 62 2 rfl) ?_;refine zF ?_;refine ws (LR.buildSliceD [.tmp 5,.tmp 6] vSa rfl rfl (.cons rfl rfl rfl<|.cons rfl rfl rfl<|.nil) (by decide) (by decide)) ?_;obtain⟨v3,hy4,h⟩:=zP h;refine ws (LR.rowN (wx hy4) rfl call95 rfl rfl rfl rfl) ?_;obtain⟨v5,hy6,h⟩:=zP h;refine PWl.frz [8] hK (.cons rfl<|.nil) rfl (by simp) ?_;refine ws (LR.rowN (vL hy6) rfl call28 rfl rfl rfl rfl)<|yL [0,1,5,6,7,8,9] [9] ?_;refine zC ?_;refine wX ?_;cases h;exact⟨.inr rfl,4,rfl,.inr ⟨9,_,rfl,(by simp),rfl⟩⟩
theorem uB{d1 r0}(h:(wc d1).wp (·=r0)):PFun prog 72 [.agg (List.map .d (DT.e d1))] (.d (.v (.bool r0))):=by
 refine yB [0] func72 ntmps72 ?_;intro ctx hK;refine zV ?_;refine yN (zK h) 16 [] [] (fun v2=>([(2,.d (.v (.bool v2)))],[])) (fun h=>?_) ?_
 ·refine zF ?_;refine yH 6 h (fun h=>?_) fun h=>?_
  ·refine zF ?_;refine yH 11 h (fun h=>?_) fun h=>?_
   ·refine zV ?_;exact⟨(decide (d1.n<=281474976710655)),(),h,sP⟩
   ·refine zV ?_;exact⟨false,(),h,sP⟩
  ·refine vQ ?_;exact⟨false,(),h,sP⟩
 ·rintro v2 _ h;refine wX ?_;cases h;exact xT
theorem Jg{v1 r0}(h:(YW v1).wp (·=r0)):PFun prog 116 [zJ .u64 v1] (.tup [zJ .u16 r0.1,zJ .u64 r0.2]):=by
 refine yB [0] func116 ntmps116 ?_;intro ctx hK;refine xV ?_;refine ws (LR.convInt underlying51 (by rw[underlying52];rfl) rfl rfl) ?_;refine zF ?_;refine wX ?_;cases h;exact xTnA6
theorem QI{v1 r0}(h:(Xj v1).wp (·=r0)):PFun prog 71 [zJ .u64 v1] (.tup [.agg (List.map .d (DT.e r0.1)),.d (.v (.bool r0.2))]):=by
 refine yB [0] func71 ntmps71 ?_;intro ctx hK;refine zl ?_;obtain⟨v2,hy3,h⟩:=zP h;refine xN (Jg hy3) call116 ?_;refine xl ?_;refine ws (LR.build (ns:=[_,_]) Wf rfl rfl rfl) ?_;refine zm ?_;obtain⟨v4,hy5,h⟩:=zP h;refine xN (uB hy5) call72 ?_;refine zC ?_;refine zE h (fun h=>?_) fun h=>?_
 ·refine zC ?_;refine ws (LR.build (ns:=[_,_]) Wf rfl rfl rfl) ?_;refine zL ?_;refine wX ?_;cases h;exact⟨.inr rfl,_,.cons (.agg isAgg54 sizeOf54 rfl rfl rfl rfl)<|.cons (.tmp rfl rfl)<|.nil,rfl⟩
 ·refine zm ?_;refine wX ?_;cases h;exact⟨.inr rfl,_,.cons (.agg isAgg54 sizeOf54 rfl rfl rfl rfl)<|.cons (.tmp rfl rfl)<|.nil,rfl⟩
theorem QJ{f1 r0}(h:(Xk f1).wp (·=r0)):PFun prog 73 [zJ .u8 f1] (.d (.v (.bool r0))):=by
 refine yB [0] func73 ntmps73 ?_;intro ctx hK;refine zF ?_;refine yN (zK h) 9 [] [] (fun v2=>([(2,.d (.v (.bool v2)))],[])) (fun h=>?_) ?_
 ·refine zH ?_;refine yH 5 h (fun h=>?_) fun h=>?_
  ·refine zF ?_;exact⟨(decide (f1<=5)),(),h,sP⟩
  ·refine zF ?_;exact⟨false,(),h,sP⟩
 ·rintro v2 _ h;refine wX ?_;cases h;exact xT
theorem QK{s1 r0}(h:(Xl s1).wp (·=r0)):PFun prog 74 [.d (.v (.string s1))] (.d (.v (.bool r0))):=by
 refine yB [0] func74 ntmps74 ?_;intro ctx hK;refine vQ ?_;refine zE h (fun h=>?_) fun h=>?_
 ·refine zH ?_;refine wX ?_;cases h;exact xT
 ·refine zl ?_;refine vJ (zK h) 23 [] [] (fun _=>([],[])) (fun h=>?_) ?_
  ·refine g5 ?_;refine zc h 23 [0,8] [] (fun v20=>([(9,zJ .i64 v20)],[])) ?_;rintro N v20 _ h;refine zF ?_;refine zE h (fun h=>?_) fun h=>?_
   ·refine xV ?_;refine yN (zK h) 23 [0,8,9] [] (fun v22=>([(21,.d (.v (.bool v22)))],[])) (fun h=>?_) ?_
    ·refine zL ?_;obtain⟨b23,hy24,h⟩:=yF h;refine ws (LR.strIdx underlying9 rfl rfl hy24) ?_;refine zC ?_;refine yH 16 h (fun h=>?_) fun h=>?_
     ·refine zV ?_;exact⟨true,(),h,sP⟩
     ·refine zC ?_;obtain⟨b26,hy27,h⟩:=yF h;refine wt (LR.strIdx underlying9 rfl rfl hy27) ?_;refine zL ?_;exact⟨(decide (126 < b26)),(),h,sP⟩
    ·rintro v22 _ h;refine zE h (fun h=>?_) fun h=>?_
     ·refine zH ?_;refine wX ?_;cases h;exact xT
     ·refine zF ?_;exact⟨(IntKind.i64.wrap (v20+1)),(),h,sP⟩
   ·refine wZ ?_;exact⟨(),(),h,sP⟩
  ·rintro _ _ h;refine zH ?_;refine wX ?_;cases h;exact xT
theorem QL{l1 r0}(h:(Xm l1).wp (·=r0)):PFun prog 75 [zZ DT.e l1] (.d (.v (.bool r0))):=by
 refine yB [0] func75 ntmps75 ?_;intro ctx hK;refine vQ ?_;refine vJ (zK h) 25 [] [] (fun _=>([],[])) (fun h=>?_) ?_
 ·refine g5 ?_;refine zc h 25 [0,5] [] (fun v23=>([(6,zJ .i64 v23)],[])) ?_;rintro N v23 _ h;refine zF ?_;refine zE h (fun h=>?_) fun h=>?_
  ·refine xV ?_;refine yN (zK h) 25 [0,5,6] [] (fun v25=>([(23,.d (.v (.bool v25)))],[])) (fun h=>?_) ?_
   ·refine g5 ?_;refine yU ?_;refine qy 11 h (fun h=>?_) fun h=>?_
    ·refine yU ?_;obtain⟨x27,hy28,h⟩:=yF h;refine VP hy28 ?_;refine yU ?_;obtain⟨x29,hy30,h⟩:=yF h;refine VP hy30 ?_;refine h5 ?_;obtain⟨v31,hy32,h⟩:=zP h;refine qt (fun _ U W=>cN (WE hy32) U call30 (xY (fun a b=>U a b) rfl rfl) rfl rfl rfl) ?_;refine yU ?_;exact⟨(decide (0<=v31)),(),h,sP⟩
    ·refine vWa ?_;exact⟨false,(),h,sP⟩
   ·rintro v25 _ h;refine zE h (fun h=>?_) fun h=>?_
    ·refine zH ?_;refine wX ?_;cases h;exact xT
    ·refine zF ?_;exact⟨(IntKind.i64.wrap (v23+1)),(),h,sP⟩
  ·refine wZ ?_;exact⟨(),(),h,sP⟩
 ·rintro _ _ h;refine zH ?_;refine wX ?_;cases h;exact xT
theorem vc{e1 r0}(h:(vu e1).wp (·=r0)):PFun prog 29 [.agg (List.map .d (EV.e e1))] (.d (.v (.bool r0))):=by
 refine yB [0] func29 ntmps29 ?_;intro ctx hK;refine xl ?_;obtain⟨v2,hy3,h⟩:=zP h;refine xN (QI hy3) call71 ?_;refine zl ?_;refine yN (zK h) 72 [1] [1] (fun v4=>([(20,.d (.v (.bool v4)))],[])) (fun h=>?_) ?_
 ·refine zH ?_;refine yH 15 h (fun h=>?_) fun h=>?_
  ·refine zV ?_;exact⟨true,(),h,sP⟩
  ·refine zC ?_;obtain⟨v6,hy7,h⟩:=zP h;refine wt (cN (uB hy7) rfl call72 rfl rfl rfl rfl) ?_;refine zL ?_;exact⟨(!v6),(),h,sP⟩
 ·rintro v4 _ h;refine zE h (fun h=>?_) fun h=>?_
  ·refine zH ?_;refine wX ?_;cases h;exact xT
  ·refine zm ?_;refine vJ (zK h) 72 [1] [1] (fun _=>([],[])) (fun h=>?_) ?_
   ·refine zV ?_;refine zE h (fun h=>?_) fun h=>?_
    ·refine g5 ?_;refine yN (zK h) 72 [1] [1] (fun v10=>([(34,.d (.v (.bool v10)))],[])) (fun h=>?_) ?_
     ·refine zL ?_;obtain⟨v11,hy12,h⟩:=zP h;refine xN (QJ hy12) call73 ?_;refine zC ?_;refine yH 29 h (fun h=>?_) fun h=>?_
      ·refine zV ?_;exact⟨true,(),h,sP⟩
      ·refine zC ?_;obtain⟨v14,hy15,h⟩:=zP h;refine wt (cN (QK hy15) rfl call74 rfl rfl rfl rfl) ?_;refine zL ?_;exact⟨(!v14),(),h,sP⟩
     ·rintro v10 _ h;refine zE h (fun h=>?_) fun h=>?_
      ·refine zH ?_;refine wX ?_;cases h;exact xT
      ·refine g5 ?_;exact⟨(),(),h,sP⟩
    ·refine zF ?_;refine zE h (fun h=>?_) fun h=>?_
     ·refine g5 ?_;refine yN (zK h) 72 [1] [1] (fun v18=>([(44,.d (.v (.bool v18)))],[])) (fun h=>?_) ?_
      ·refine zF ?_;refine yH 40 h (fun h=>?_) fun h=>?_
       ·refine zF ?_;exact⟨true,(),h,sP⟩
       ·refine zF ?_;exact⟨(!decide (e1.text=(⟨#[]⟩:ByteArray))),(),h,sP⟩
      ·rintro v18 _ h;refine zE h (fun h=>?_) fun h=>?_
       ·refine zH ?_;refine wX ?_;cases h;exact xT
       ·refine g5 ?_;exact⟨(),(),h,sP⟩
     ·refine zH ?_;refine wX ?_;cases h;exact xT
   ·rintro _ _ h;refine zC ?_;refine yN (zK h) 72 [1] [1] (fun v21=>([(54,.d (.v (.bool v21)))],[])) (fun h=>?_) ?_
    ·refine zV ?_;refine yH 49 h (fun h=>?_) fun h=>?_
     ·refine zV ?_;exact⟨true,(),h,sP⟩
     ·refine zC ?_;obtain⟨v23,hy24,h⟩:=zP h;refine wt (cN (QL hy24) rfl call75 rfl rfl rfl rfl) ?_;refine zL ?_;exact⟨(!v23),(),h,sP⟩
    ·rintro v21 _ h;refine zE h (fun h=>?_) fun h=>?_
     ·refine zH ?_;refine wX ?_;cases h;exact xT
     ·refine xV ?_;refine vJ (zK h) 72 [] [] (fun _=>([],[])) (fun h=>?_) ?_
      ·refine g5 ?_;refine zc h 72 [1,56,57] [1] (fun v43=>([(58,zJ .i64 v43)],[])) ?_;rintro N v43 _ h;refine zF ?_;refine zE h (fun h=>?_) fun h=>?_
       ·refine zF ?_;obtain⟨x45,hy46,h⟩:=yF h;refine yZ hy46 ?_;refine zF ?_;refine yN (zK h) 72 [1,56,57,58] [1] (fun v47=>([(70,.d (.v (.bool v47)))],[])) (fun h=>?_) ?_
        ·refine zC ?_;obtain⟨v48,hy49,h⟩:=zP h;refine xN (uB hy49) call72 ?_;refine zC ?_;refine yH 65 h (fun h=>?_) fun h=>?_
         ·refine zV ?_;exact⟨true,(),h,sP⟩
         ·refine zL ?_;refine wt (LR.eqlAgg rfl rfl rfl rfl vTa) ?_;refine zC ?_;exact⟨((decide (x45.dev=e1.dot.dev)&&decide (x45.n=e1.dot.n))),(),h,sP⟩
        ·rintro v47 _ h;refine zE h (fun h=>?_) fun h=>?_
         ·refine zH ?_;refine wX ?_;cases h;exact xT
         ·refine zF ?_;exact⟨(IntKind.i64.wrap (v43+1)),(),h,sP⟩
       ·refine wZ ?_;exact⟨(),(),h,sP⟩
      ·rintro _ _ h;refine zH ?_;refine wX ?_;cases h;exact xT
theorem uQ{row1 r0}(h:(yK row1).wp (·=r0)):PObj prog 124 [.row 100 (row1.length)] [(100,.row 54 2 (List.map DT.e row1))] [] (.row 100 (r0.length)) (fun _:Unit=>[(100,.row 54 2 (List.map DT.e r0))]):=by
 refine YV [0] func124 ntmps124 ?_;intro ctx hK pv;refine zC ?_;refine ws (aR 54 2 rfl) ?_;refine zl ?_;refine zE h (fun h=>?_) fun h=>?_
 ·refine zL ?_;refine yL [0,6,7,8,9] [100] ?_;refine zC ?_;refine wX ?_;cases h;exact EndsO.mk () (.inr rfl) (sO (tl:=[(2,_)]) (to:=[(100,_)]) rfl (.cons rfl VQ<|.nil) (.cons rfl rfl<|.nil)) (.cons (.tmp rfl)<|.nil) rfl rfl
 ·refine zV ?_;refine vJ (zK h) 61 [0] [100] (fun _=>([],[])) (fun h=>?_) ?_
  ·refine g5 ?_;refine zc h 61 [0] [100] (fun k148=>([(3,zJ .i64 k148)],[])) ?_;rintro N k148 _ h;refine zl ?_;refine zE h (fun h=>?_) fun h=>?_
   ·refine zC ?_;refine vJ (zK h) 61 [0,3] [100] (fun _=>([],[])) (fun h=>?_) ?_
    ·refine zL ?_;refine zy ?_;obtain⟨x150,hy151,h⟩:=yF h;refine qs (fun _ U W=>LR.idxRowT (L:=row1) (y:=x150) underlying55 sizeOf54 U rfl U hy151) ?_;refine qs (fun _ U W=>LR.loadRpT (enc:=DT.e) (L:=row1) (y:=x150) isAgg54 sizeOf54 U (W rfl) hy151.2) ?_;refine yU ?_;obtain⟨x152,hy153,h⟩:=yF h;refine qs (fun _ U W=>LR.idxRowT (L:=row1) (y:=x152) underlying55 sizeOf54 U rfl U hy153) ?_;refine qs (fun _ U W=>LR.loadRpT (enc:=DT.e) (L:=row1) (y:=x152) isAgg54 sizeOf54 U (W rfl) hy153.2) ?_;refine qs (fun _ U W=>LR.eqlAgg U U rfl rfl vTa) ?_;refine h5 ?_;refine zE h (fun h=>?_) fun h=>?_
     ·refine zH ?_;obtain⟨hy155,h⟩:=zq h;refine ws (LR.pieceRowT (enc:=DT.e) (L:=row1) underlying55 sizeOf54 rfl rfl rfl rfl hy155) ?_;refine zm ?_;refine yN (zK h) 61 [] [] (fun⟨k156,v157⟩=>([(0,.row 100 (v157.length)),(3,zJ .i64 k156)],[(100,.row 54 2 (List.map DT.e v157))])) (fun h=>?_) ?_
      ·refine g5 ?_;refine zc h 61 [4] [] (fun⟨k197,k2_198,v199⟩=>([(0,.row 100 (v199.length)),(3,zJ .i64 k197),(5,zJ .i64 k2_198)],[(100,.row 54 2 (List.map DT.e v199))])) ?_;rintro N ⟨k197,k2_198,v199⟩ _ h;refine zl ?_;refine zE h (fun h=>?_) fun h=>?_
       ·refine zC ?_;refine yN (zK h) 61 [4,5] [] (fun⟨k201,v202⟩=>([(0,.row 100 (v202.length)),(3,zJ .i64 k201)],[(100,.row 54 2 (List.map DT.e v202))])) (fun h=>?_) ?_
        ·refine zL ?_;refine zy ?_;obtain⟨hy205,h⟩:=zq h;obtain⟨x203,hy204,h⟩:=yF h;have hy206:True/\v199[((Int.toNat k148)+Int.toNat k2_198)]?=some x203:=⟨trivial,hy204.2⟩
         refine qs (fun _ U W=>LR.idxPc underlying55 sizeOf54 U U hy205) ?_;refine qs (fun _ U W=>LR.loadRpT (enc:=DT.e) (L:=v199) (y:=x203) isAgg54 sizeOf54 U (W rfl) hy206.2) ?_;refine yU ?_;obtain⟨hy209,h⟩:=zq h;obtain⟨x207,hy208,h⟩:=yF h;have hy210:True/\v199[((Int.toNat k148)+Int.toNat (IntKind.i64.wrap (k2_198 - 1)))]?=some x207:=⟨trivial,hy208.2⟩
         refine qs (fun _ U W=>LR.idxPc underlying55 sizeOf54 U U hy209) ?_;refine qs (fun _ U W=>LR.loadRpT (enc:=DT.e) (L:=v199) (y:=x207) isAgg54 sizeOf54 U (W rfl) hy210.2) ?_;refine qs (fun _ U W=>LR.neqAgg U U rfl rfl vTa) ?_;refine h5 ?_;refine zE h (fun h=>?_) fun h=>?_
         ·refine zF ?_;refine yL [0,3,4,5,45,46,47] [100] ?_;refine g5 ?_;obtain⟨hy214,h⟩:=zq h;obtain⟨x212,hy213,h⟩:=yF h;have hy215:True/\v199[((Int.toNat k148)+Int.toNat k2_198)]?=some x212:=⟨trivial,hy213.2⟩
          refine ws (LR.idxPc underlying55 sizeOf54 rfl rfl hy214)<|ws (LR.loadRpT (enc:=DT.e) (L:=v199) (y:=x212) isAgg54 sizeOf54 rfl rfl hy215.2) ?_;obtain⟨x216,hy217,h⟩:=yF h;refine ws (LR.idxRowT (L:=v199) (y:=x216) underlying55 sizeOf54 rfl rfl rfl hy217)<|ws (LR.storeRpT (enc:=DT.e) (L:=v199) (a:=x216) (b:=x212) sizeOf54 rfl rfl rfl rfl rfl hy217.2 rfl rfl) ?_;refine zV ?_;exact⟨((IntKind.i64.wrap (k197+1)),(List.set v199 (Int.toNat k197) x212)),(),h,zEa⟩
         ·refine g5 ?_;exact⟨(k197,v199),(),h,sP⟩
        ·rintro⟨k201,v202⟩ _ h;refine zF ?_;exact⟨(k201,(IntKind.i64.wrap (k2_198+1)),v202),(),h,sP⟩
       ·refine wZ ?_;exact⟨(k197,v199),(),h,sP⟩
      ·rintro⟨k156,v157⟩ _ h;refine zH ?_;obtain⟨hy218,h⟩:=zq h;refine ws (LR.pieceRowT (enc:=DT.e) (L:=v157) underlying55 sizeOf54 rfl rfl rfl rfl hy218) ?_;obtain⟨hy219,h⟩:=zq h;refine ws (LR.clearPcT (enc:=DT.e) (L:=v157) (z:=(⟨0,0⟩:DT)) underlying55 rfl rfl zeroValue54 rfl rfl rfl rfl hy219 rfl) ?_;refine zF ?_;obtain⟨hy220,h⟩:=zq h;refine ws (LR.cutRowT (enc:=DT.e) (L:=(List.take (Int.toNat k156) v157++List.replicate (v157.length - Int.toNat k156) (⟨0,0⟩:DT)++List.drop ((Int.toNat k156)+(v157.length - Int.toNat k156)) v157)) [0,54,56,57] underlying55 sizeOf54 rfl uc rfl rfl hy220 rfl) ?_;refine zC ?_;refine wX ?_;cases h;exact EndsO.mk () (.inr rfl) (sO (tl:=[(2,_)]) (to:=[(100,_)]) rfl (.cons rfl VQ<|.nil) (.cons rfl rfl<|.nil)) (.cons (.tmp rfl)<|.nil) rfl rfl
     ·refine g5 ?_;exact⟨(),(),h,sP⟩
    ·rintro _ _ h;refine zF ?_;exact⟨(IntKind.i64.wrap (k148+1)),(),h,sP⟩
   ·refine wZ ?_;exact⟨(),(),h,sP⟩
  ·rintro _ _ h;refine zF ?_;refine wX ?_;cases h;exact EndsO.mk () (.inr rfl) (sO (tl:=[(2,_)]) (to:=[(100,_)]) rfl (.cons rfl VQ<|.nil) (.cons rfl rfl<|.nil)) (.cons (.tmp rfl)<|.nil) rfl rfl
theorem jp{l1 r0}(h:(VR l1).wp (·=r0)):PRow prog 81 [zZ DT.e l1] 54 2 (List.map DT.e r0):=by
 refine PRow.intro (sl:=[(0,_)]) func81 rfl ntmps81 rfl rfl ?_;intro ctx hK;refine zC ?_;refine ws (aR 54 2 rfl) ?_;refine zH ?_;obtain⟨v2,hy3,h⟩:=zP h;refine ws (LR.rowN (xH hy3) rfl call94 rfl rfl rfl rfl) ?_;refine zF ?_;obtain⟨hy5,h⟩:=zq h;refine PWl.sortFn (encD:=DT.e) (enc:=DT.v) (l:=v2) vka (fun _=>rfl) DT.v1 (fun _=>rfl) rfl call123 rfl rfl rfl (by simp) hy5 rfl (fun s4 hy6 hy7=>?_);replace h:=iSrt h s4 hy6 hy7;have hy6l:=hy6.length_eq;refine zH ?_;obtain⟨y8,hy9,h⟩:=zP h;refine xO [(100,5)] [3,5,6,8] [100] (uQ hy9) call124<|yL [0,4,7,9] [5] ?_;refine zC ?_;refine wX ?_;cases h;exact⟨.inr rfl,2,rfl,.inr ⟨5,_,rfl,(by simp),rfl⟩⟩
theorem vd{l1 r0}(h:(ut l1).wp (·=r0)):PRow prog 35 [zZ EV.e l1] 54 2 (List.map DT.e r0):=by
 refine PRow.intro (sl:=[(0,_)]) func35 rfl ntmps35 rfl rfl ?_;intro ctx hK;refine zC ?_;refine ws (aR 54 2 rfl) ?_;refine zL ?_;refine ws (aR 54 2 rfl) ?_;refine zl ?_;refine yN (zK h) 23 [] [] (fun out2=>([(3,.row 3 (out2.length))],[(3,.row 54 2 (List.map DT.e out2))])) (fun h=>?_) ?_
 ·refine g5 ?_;refine zc h 23 [6,7] [] (fun⟨v15,out16⟩=>([(3,.row 3 (out16.length)),(8,zJ .i64 v15)],[(3,.row 54 2 (List.map DT.e out16))])) ?_;rintro N ⟨v15,out16⟩ _ h;refine zF ?_;refine zE h (fun h=>?_) fun h=>?_
  ·refine zF ?_;obtain⟨x18,hy19,h⟩:=yF h;refine yZ hy19 ?_;refine zH ?_;refine uU [3,5,6,7,8] [3,5] ?_;refine PWc.regionE [zt [12] [3],zt [13] [5],⟨[14],[],[5],[],[],[],[],[]⟩,{ws:=[15]},⟨[3,12,16],[3],[3],[],[(3,[3,12])],[3],[],[]⟩,zt [17] [5],⟨[18],[],[5],[],[],[],[],[]⟩,⟨[3,12,16,19],[3],[3],[],[(3,[3,12,16])],[3],[],[]⟩,zt [3] [3]] (by kernel_rfl) (by kernel_rfl) rfl ?_;refine yU ?_;refine kp (fun _ U W=>LR.buildSliceD [.tmp 14] Zz rfl rfl (.cons U rfl rfl<|.nil) (by decide) (by decide)) ?_;obtain⟨hy20,h⟩:=zq h;refine PQe.stepA [3,12] (fun _ U W ha=>LR.appT (enc:=DT.e) (L:=out16) (R:=[x18.dot]) [3,12] Zz underlying55 (U rfl rfl) rfl (W rfl rfl) (Src.slT (enc:=DT.e) (R:=[x18.dot]) (U rfl rfl) (fun _=>rfl)) (fun _=>rfl) hy20 rfl ha) rfl (.inl rfl) rfl ?_;refine zy ?_;obtain⟨hy21,h⟩:=zq h;refine PQe.stepA [3,12,16] (fun _ U W ha=>LR.appT (enc:=DT.e) (L:=(out16++[x18.dot])) (R:=x18.kills) [3,12,16] Zz underlying55 (U rfl rfl) rfl (W rfl rfl) (Src.slT (enc:=DT.e) (R:=x18.kills) (U rfl rfl) (fun _=>rfl)) (fun _=>rfl) hy21 rfl ha) rfl (.inl rfl) rfl ?_;refine h5 ?_;refine PQe.nil ?_;refine zH ?_;exact⟨((IntKind.i64.wrap (v15+1)),((out16++[x18.dot])++x18.kills)),(),h,sP⟩
  ·refine wZ ?_;exact⟨out16,(),h,sP⟩
 ·rintro out2 _ h;refine zL ?_;obtain⟨v22,hy23,h⟩:=zP h;refine PWl.frz [3,21] hK (.cons rfl<|.cons rfl<|.nil) rfl (by simp) ?_;refine ws (LR.rowN (jp hy23) rfl call81 rfl rfl rfl rfl) ?_;refine zC ?_;refine wX ?_;cases h;exact⟨.inr rfl,2,rfl,.inr ⟨22,_,rfl,(by simp),rfl⟩⟩
theorem WX{x1 n2 r0}(h:(ZC x1 n2).wp (·=r0)):PFun prog 127 [.agg (List.map .d (RN.e x1)),zJ .u64 n2] (zJ .i64 r0):=by
 refine yB [0,1] func127 ntmps127 ?_;intro ctx hK;refine xl ?_;obtain⟨v3,hy4,h⟩:=zP h;refine xN (uP hy4) call77 ?_;refine zC ?_;refine wX ?_;cases h;exact xT
theorem yp{x1 target2 r0}(h:(zW x1 target2).wp (·=r0)):PFun prog 126 [zZ RN.e x1,zJ .u64 target2,.d (.v (.func (.func 127) #[] #[]))] (.tup [zJ .i64 r0.1,.d (.v (.bool r0.2))]):=by
 refine yB [0,1,2] func126 ntmps126 ?_;intro ctx hK;refine xWa ?_;refine yN (zK h) 49 [0,1,2,8] [] (fun i3=>([(9,zJ .i64 i3)],[])) (fun h=>?_) ?_
 ·refine g5 ?_;refine zc h 49 [0,1,2,8] [] (fun⟨i18,j19⟩=>([(9,zJ .i64 i18),(10,zJ .i64 j19)],[])) ?_;rintro N ⟨i18,j19⟩ _ h;refine zm ?_;refine zE h (fun h=>?_) fun h=>?_
  ·refine zm ?_;refine ws (LR.convInt underlying151 (by rw[underlying3];rfl) rfl rfl) ?_;refine g5 ?_;refine ws (LR.convInt underlying3 (by rw[underlying151];rfl) rfl rfl) ?_;refine zm ?_;obtain⟨x21,hy22,h⟩:=yF h;refine yZ hy22 ?_;refine g5 ?_;refine yL [0,1,2,8,9,10,11,24,28] [] ?_;refine g5 ?_;obtain⟨v23,hy24,h⟩:=zP h;refine xN (WX hy24) call127 ?_;refine zC ?_;refine zE h (fun h=>?_) fun h=>?_
   ·refine zF ?_;exact⟨((IntKind.i64.wrap (((IntKind.i64.wrap ((Int.fdiv ((IntKind.u64.wrap (IntKind.i64.wrap (i18+j19)))) (2 ^ 1)))))+1)),j19),(),h,sP⟩
   ·refine zH ?_;exact⟨(i18,(IntKind.i64.wrap ((Int.fdiv ((IntKind.u64.wrap (IntKind.i64.wrap (i18+j19)))) (2 ^ 1))))),(),h,sP⟩
  ·refine wZ ?_;exact⟨i18,(),h,sP⟩
 ·rintro i3 _ h;refine g5 ?_;refine yN (zK h) 49 [] [] (fun v26=>([(6,zJ .i64 i3),(7,.d (.v (.bool v26)))],[])) (fun h=>?_) ?_
  ·refine zV ?_;refine yH 39 h (fun h=>?_) fun h=>?_
   ·refine zL ?_;obtain⟨x28,hy29,h⟩:=yF h;refine XG hy29 ?_;refine zC ?_;obtain⟨v30,hy31,h⟩:=zP h;refine wt (cN (WX hy31) rfl call127 rfl rfl rfl rfl) ?_;refine zL ?_;refine yL [6,48] [] ?_;refine zC ?_;exact⟨(decide (v30=0)),(),h,sP⟩
   ·refine xl ?_;refine yL [6,48] [] ?_;refine zC ?_;exact⟨false,(),h,sP⟩
  ·rintro v26 _ h;refine wX ?_;cases h;exact xTnA6
theorem yfa{l1 n2 r0}(h:(Um l1 n2).wp (·=r0)):PFun prog 90 [zZ RN.e l1,zJ .u64 n2] (.d (.v (.bool r0))):=by
 refine yB [0,1] func90 ntmps90 ?_;intro ctx hK;refine zm ?_;obtain⟨v3,hy4,h⟩:=zP h;refine ws (LR.rowN (wG hy4) rfl call113 rfl rfl rfl rfl) ?_;refine zV ?_;obtain⟨v5,hy6,h⟩:=zP h;refine PWl.frz [0,8,10] hK (.cons rfl<|.cons rfl<|.cons rfl<|.nil) rfl (by simp) ?_;refine xN (yp hy6) call126 ?_;refine zm ?_;refine yN (zK h) 28 [] [] (fun v7=>([(4,.d (.v (.bool v7)))],[])) (fun h=>?_) ?_
 ·refine zV ?_;refine yH 19 h (fun h=>?_) fun h=>?_
  ·refine g5 ?_;refine yL [1,4,5,19,20] [] ?_;refine g5 ?_;obtain⟨x9,hy10,h⟩:=yF h;refine XG hy10 ?_;refine zm ?_;exact⟨(decide (x9.lo<=n2)),(),h,sP⟩
  ·refine g5 ?_;refine yL [1,4,5,19,20] [] ?_;refine xV ?_;exact⟨false,(),h,sP⟩
 ·rintro v7 _ h;refine wX ?_;cases h;exact xT
theorem yga{c1 dev2 r0}(h:(Un c1 dev2).wp (·=r0)):PRow prog 91 [zZ PT.e c1,zJ .u16 dev2] 90 2 (List.map RN.e r0):=by
 refine PRow.intro (sl:=[(0,_),(1,_)]) func91 rfl ntmps91 rfl rfl ?_;intro ctx hK;refine zC ?_;refine ws (aR 90 2 rfl) ?_;refine zH ?_;obtain⟨v3,hy4,h⟩:=zP h;refine PWl.mapN (xf hy4) rfl call70 rfl rfl rfl rfl rfl (fun bs5 ck5 _=>?_);refine g5 ?_;refine ws (LR.getO (eV:=(eL RN.e)) (zv:=([]:List RN)) (q:=dev2) (m:=v3) VI underlying103 ZB zeroValue60 (zRd1 (.slice none 0 0) rfl) rfl rfl rfl rfl rfl rfl) ?_;obtain⟨v6,hy7,h⟩:=zP h;refine ws (LR.rowN (wG hy7) rfl call113 rfl rfl rfl rfl)<|yL [0,1,5,6,7,8,9] [6,9] ?_;refine zC ?_;refine wX ?_;cases h;exact⟨.inr rfl,4,rfl,.inr ⟨9,_,rfl,(by simp),rfl⟩⟩
theorem YI{c1 d2 r0}(h:(XH c1 d2).wp (·=r0)):PFun prog 42 [zZ PT.e c1,.agg (List.map .d (DT.e d2))] (.d (.v (.bool r0))):=by
 refine yB [0,1] func42 ntmps42 ?_;intro ctx hK;refine zV ?_;refine yN (zK h) 17 [] [] (fun v3=>([(4,.d (.v (.bool v3)))],[])) (fun h=>?_) ?_
 ·refine g5 ?_;refine vV ?_;refine qy 8 h (fun h=>?_) fun h=>?_
  ·refine yU ?_;obtain⟨v5,hy6,h⟩:=zP h;refine qt (fun _ U W=>cN (PRow.fun (yga hy6)) U call91 (xY (fun a b=>U a b) rfl rfl) rfl rfl rfl) ?_;refine zy ?_;obtain⟨v7,hy8,h⟩:=zP h;refine qt (fun _ U W=>cN (yfa hy8) U call90 (xY (fun a b=>U a b) rfl rfl) rfl rfl rfl) ?_;refine yU ?_;exact⟨v7,(),h,sP⟩
  ·refine vVa ?_;exact⟨false,(),h,sP⟩
 ·rintro v3 _ h;refine wX ?_;cases h;exact xT
theorem zea{l1 r0}(h:(xYa l1).wp (·=r0)):PRow prog 104 [zZ DT.e l1] 62 2 (List.map PT.e r0):=by
 refine PRow.intro (sl:=[(0,_)]) func104 rfl ntmps104 rfl rfl ?_;intro ctx hK;refine zC ?_;refine ws (aR 62 2 rfl) ?_;refine zL ?_;refine ws (LR.makeMap [.u16] false rfl) ?_;refine xl ?_;obtain⟨hy16,h⟩:=zq h;have hN:=hy16.1;refine PWc.loopRows (bid:=0) (N:=l1.length) (mid:=6) (n:=32) (ks:=[.u16]) (e:=90) (k:=2) (fun i=>[(3,.mp 6),(7,zZ DT.e l1),(8,zJ .i64 (l1.length:Int)),(9,zJ .i64 (i:Int))]) (fun i=>vp kI RN.e (AL.grow [] ((List.take i l1).filterMap vv))) [(3,.mp 6)] [] 0 hK (by decide) (fun i x hx id h=>by simp only[List.mem_cons,List.not_mem_nil,or_false] at hx;rcases hx with rfl | rfl | rfl | rfl <;> first | (simp[PV.has] at h;done) | (simp[PV.has] at h;exact h.symm) | (simp[PV.has] at h;omega)) rfl (fun i=>Uc (fun x d hd=>by simp only[RN.e,List.mem_cons,List.not_mem_nil,or_false] at hd;rcases hd with rfl | rfl <;> exact⟨_,rfl⟩) _) (sP) (fun i hi=>?_) (zO kI (eL RN.e) (AL.grow ([]:List (Int×List RN)) (List.filterMap vv l1))) (by simp only[List.take_length];exact xha _) (fun ctx vm bs ck=>?_) (fun bs ck=>?_)
 ·obtain⟨p,hp⟩:∃ p,l1[i]?=some p:=⟨_,List.getElem?_eq_getElem hi⟩
  have hidx:(0:Int)<=(i:Int)/\l1[(i:Int).toNat]?=some p:=⟨by omega,by simpa using hp⟩
  have htk:=AL.grow_take hp vv;have hwi:=voa (i:=i) (by omega)
  by_cases hd:YB p=true
  ·have hf:vv p=some (p.dev,[(⟨p.n,p.n⟩:RN)]):=by simp[vv,hd]
   have hgood:(wc p).wp (·=true):=by rw[Ub];exact hd
   have hbd:=AL.grow_bound hy16 hp hf;rw[hf] at htk;rcases UN (eK:=kI) (enc:=RN.e) VI (p.dev) (AL.grow [] ((List.take i l1).filterMap vv)) with⟨j,l,h1,h2,h3,h4⟩ | ⟨h1,h2,h3⟩
   ·simp only[h3] at hbd;refine .found (nl:=l.length) (nl':=(List.length (l++[(⟨p.n,p.n⟩:RN)]))) (l:=(List.map RN.e l)) (l':=(List.map RN.e (l++[(⟨p.n,p.n⟩:RN)]))) (by simp) (by simp) h2 (by rw[htk];simp only[AL.grow,Option.toList,List.foldl] at h3 h4 ⊢;rw[h3];exact h4 _) fun ctx vm bs ck hvm=>?_
    have hpf:xE (kI (p.dev)) (ZA vm) 0=some j:=by rw[Vi hvm];exact h1
    have h:(M.bind (M.idx l1 (i:Int)) fun x2=>M.bind (M.det (wc x2)) fun v4=>M.yt ((l.length+List.length ([(⟨x2.n,x2.n⟩:RN)]))*16<=140737488355328)<|M.pure ()).wp (fun _=>True):=⟨p,hidx,_,hgood,hbd,trivial⟩
    refine zF ?_;refine PWc.condT (congrArg (fun b=>some (PV.d (.v (.bool b)))) (decide_eq_true (Int.ofNat_lt.2 hi))) ?_;refine zF ?_;obtain⟨x2,hy3,h⟩:=yF h;have hE:=idxU hy3 hidx;subst hE;refine yZ hy3 ?_;refine zm ?_;obtain⟨v4,hy5,h⟩:=zP h;have hEd:=detU hy5 hgood;refine xN (uB hy5) call72 ?_;refine g5 ?_;refine PWc.condT (congrArg (fun b=>some (PV.d (.v (.bool b)))) hEd)<|uU [3,5,7,8,9] [5,6,50] ?_;refine PWc.regionE [zt [15] [6],zt [16] [5],⟨[17],[],[5],[],[],[],[],[]⟩,zt [18] [6],zt [19] [5],⟨[20],[],[5],[],[],[],[],[]⟩,⟨[21],[],[6],[],[],[50],[],[]⟩,zt [22] [5],⟨[23],[],[5],[],[],[],[],[]⟩,zt [24] [5],⟨[25],[],[5],[],[],[],[],[]⟩,{ws:=[26]},{ws:=[27]},⟨[21,28],[6,50],[6,50],[],[(50,[21])],[50],[],[6]⟩,⟨[],[6],[6,50],[],[],[],[50],[]⟩] (by kernel_rfl) (by kernel_rfl) rfl ?_;refine Wh ?_;refine kp (fun _ U W=>LR.lookupP underlying103 ZB U (W rfl rfl) U rfl hpf rfl) ?_;refine vV ?_;refine kp (fun _ U W=>LR.build (ns:=[_,_]) Wg rfl (w4a (fun a b=>U a b) rfl rfl) rfl) ?_;refine kp (fun _ U W=>LR.buildSliceD [.tmp 26] xw rfl rfl (.cons U rfl rfl<|.nil) (by decide) (by decide)) ?_;obtain⟨hy6,h⟩:=zq h;refine PQe.stepX [21] (fun _ U W ha=>LR.appP (enc:=RN.e) (L:=l) (R:=[(⟨x2.n,x2.n⟩:RN)]) [21] xw underlying60 (U rfl rfl) rfl (W rfl rfl) (W rfl rfl) rfl (fun _ h1 h2=>Src.slT (enc:=RN.e) (R:=[(⟨x2.n,x2.n⟩:RN)]) (xia h1 h2 (U rfl rfl)) (fun _=>rfl)) (fun _=>rfl) hy6 rfl ha) rfl rfl (.inl rfl) rfl ?_;refine ks (fun _ U W=>LR.mapUpdateP underlying103 ZB U (W rfl rfl) U rfl rfl U hpf)<|PQe.nil ?_;refine zH ?_;exact⟨rfl,sO rfl (.c2 rfl rfl rfl rfl<|.cons rfl rfl<|.cons rfl (congrArg (fun z=>PV.d (.v (.int .i64 z))) hwi)<|.nil) (.c2 rfl rfl rfl rfl<|.nil)⟩
   ·simp only[h2,List.length_nil,Nat.zero_add] at hbd;refine .fresh (q:=28) (nl':=(List.length ([(⟨p.n,p.n⟩:RN)]))) (l':=(List.map RN.e ([(⟨p.n,p.n⟩:RN)]))) (by simp) (by decide) (by rw[htk];simp only[AL.grow,Option.toList,List.foldl] at h2 h3 ⊢;rw[h2];exact h3 _) fun ctx vm bs ck hvm=>?_
    have hpf:xE (kI (p.dev)) (ZA vm) 0=none:=by rw[Vi hvm];exact h1
    have h:(M.bind (M.idx l1 (i:Int)) fun x7=>M.bind (M.det (wc x7)) fun v9=>M.yt (List.length ([(⟨x7.n,x7.n⟩:RN)])*16<=140737488355328)<|M.pure ()).wp (fun _=>True):=⟨p,hidx,_,hgood,hbd,trivial⟩
    refine zF ?_;refine PWc.condT (congrArg (fun b=>some (PV.d (.v (.bool b)))) (decide_eq_true (Int.ofNat_lt.2 hi))) ?_;refine zF ?_;obtain⟨x7,hy8,h⟩:=yF h;have hE:=idxU hy8 hidx;subst hE;refine yZ hy8 ?_;refine zm ?_;obtain⟨v9,hy10,h⟩:=zP h;have hEd:=detU hy10 hgood;refine xN (uB hy10) call72 ?_;refine g5 ?_;refine PWc.condT (congrArg (fun b=>some (PV.d (.v (.bool b)))) hEd)<|uU [3,5,7,8,9] [5,6] ?_;refine PWc.regionE [zt [15] [6],zt [16] [5],⟨[17],[],[5],[],[],[],[],[]⟩,zt [18] [6],zt [19] [5],⟨[20],[],[5],[],[],[],[],[]⟩,⟨[21],[],[6],[],[],[],[],[]⟩,zt [22] [5],⟨[23],[],[5],[],[],[],[],[]⟩,zt [24] [5],⟨[25],[],[5],[],[],[],[],[]⟩,{ws:=[26]},{ws:=[27]},⟨[28],[28],[],[28],[],[28],[],[]⟩,⟨[],[6],[6,28],[],[],[],[28],[]⟩] (by kernel_rfl) (by kernel_rfl) rfl ?_;refine Wh ?_;refine kp (fun _ U W=>LR.lookupPN underlying103 ZB U (W rfl rfl) U rfl zeroValue60 rfl hpf) ?_;refine vV ?_;refine kp (fun _ U W=>LR.build (ns:=[_,_]) Wg rfl (w4a (fun a b=>U a b) rfl rfl) rfl) ?_;refine kp (fun _ U W=>LR.buildSliceD [.tmp 26] xw rfl rfl (.cons U rfl rfl<|.nil) (by decide) (by decide)) ?_;obtain⟨hy11,h⟩:=zq h;refine PQe.stepN (fun _ U W hf=>LR.appNilX (enc:=RN.e) (R:=[(⟨x7.n,x7.n⟩:RN)]) xw underlying60 (U rfl rfl) hf (Src.slT (enc:=RN.e) (R:=[(⟨x7.n,x7.n⟩:RN)]) (evObjs (U rfl rfl)) (fun _=>rfl)) (fun _=>rfl) hy11 rfl (jk hf)) rfl (.inl rfl) rfl ?_;refine ks (fun _ U W=>LR.mapUpdatePN underlying103 ZB U (W rfl rfl) U rfl rfl U hpf)<|PQe.nil ?_;refine zH ?_;exact⟨rfl,sO rfl (.c2 rfl rfl rfl rfl<|.cons rfl rfl<|.cons rfl (congrArg (fun z=>PV.d (.v (.int .i64 z))) hwi)<|.nil) (.c2 rfl rfl rfl rfl<|.nil)⟩
  ·have hf:vv p=none:=by simp[vv,hd]
   have hgood:(wc p).wp (·=false):=by rw[Ub];exact Bool.eq_false_iff.2 hd
   rw[hf] at htk;refine .skip (by rw[htk];rfl) fun ctx vm bs ck=>?_
   have h:(M.bind (M.idx l1 (i:Int)) fun x12=>M.bind (M.det (wc x12)) fun v14=>M.pure ()).wp (fun _=>True):=⟨p,hidx,_,hgood,trivial⟩
   refine zF ?_;refine PWc.condT (congrArg (fun b=>some (PV.d (.v (.bool b)))) (decide_eq_true (Int.ofNat_lt.2 hi))) ?_;refine zF ?_;obtain⟨x12,hy13,h⟩:=yF h;have hE:=idxU hy13 hidx;subst hE;refine yZ hy13 ?_;refine zm ?_;obtain⟨v14,hy15,h⟩:=zP h;have hEd:=detU hy15 hgood;refine xN (uB hy15) call72 ?_;refine g5 ?_;refine PWc.condF (congrArg (fun b=>some (PV.d (.v (.bool b)))) hEd) ?_;refine zF ?_;exact⟨rfl,sO rfl (.c2 rfl rfl rfl rfl<|.cons rfl rfl<|.cons rfl (congrArg (fun z=>PV.d (.v (.int .i64 z))) hwi)<|.nil) (.cons rfl rfl<|.nil)⟩
 ·have h:(M.pure ()).wp (fun _=>True):=trivial;refine zF ?_;refine PWc.condF (congrArg (fun b=>some (PV.d (.v (.bool b)))) (decide_eq_false (by omega))) ?_;refine wZ ?_;exact⟨rfl,sP⟩
 ·refine zL ?_;obtain⟨v17,hy18,h⟩:=zP h;refine PWl.frzM [3,30] hK (.cons rfl<|.cons rfl<|.nil) rfl<|ws (LR.rowN (Zi hy18) rfl call69 rfl rfl rfl rfl) ?_;refine zC ?_;refine wX ?_;cases h;exact⟨.inr rfl,2,rfl,.inr ⟨31,_,rfl,(by simp),rfl⟩⟩
theorem wWa{c1 l2 r0}(h:(UG c1 l2).wp (·=r0)):PRow prog 58 [zZ PT.e c1,zZ DT.e l2] 62 2 (List.map PT.e r0):=by
 refine PRow.intro (sl:=[(0,_),(1,_)]) func58 rfl ntmps58 rfl rfl ?_;intro ctx hK;refine zC ?_;refine ws (aR 62 2 rfl) ?_;refine zF ?_;obtain⟨v3,hy4,h⟩:=zP h;refine ws (LR.rowN (zea hy4) rfl call104 rfl rfl rfl rfl) ?_;obtain⟨v5,hy6,h⟩:=zP h;refine PWl.frz [7] hK (.cons rfl<|.nil) rfl (by simp) ?_;refine ws (LR.rowN (jo hy6) rfl call45 rfl rfl rfl rfl)<|yL [0,1,5,6,7,8] [8] ?_;refine zC ?_;refine wX ?_;cases h;exact⟨.inr rfl,4,rfl,.inr ⟨8,_,rfl,(by simp),rfl⟩⟩
theorem ZY{s1 v2 r0}(h:(xb s1 v2).wp (·=r0)):PFun prog 163 [zZ DT.e s1,.agg (List.map .d (DT.e v2))] (zJ .i64 r0):=by
 refine yB [0,1] func163 ntmps163 ?_;intro ctx hK;refine Yu ?_;refine vJ (zK h) 19 [] [] (fun _=>([],[])) (fun h=>?_) ?_
 ·refine g5 ?_;refine zc h 19 [0,3,7] [3] (fun v12=>([(8,zJ .i64 v12)],[])) ?_;rintro N v12 _ h;refine zF ?_;refine zE h (fun h=>?_) fun h=>?_
  ·refine xl ?_;refine yU ?_;obtain⟨x14,hy15,h⟩:=yF h;refine xa hy15 ?_;refine h5 ?_;refine qs (fun _ U W=>LR.eqlAgg U U rfl rfl vTa) ?_;refine h5 ?_;refine zE h (fun h=>?_) fun h=>?_
   ·refine zF ?_;refine wX ?_;cases h;exact xT
   ·refine zF ?_;exact⟨(IntKind.i64.wrap (v12+1)),(),h,sP⟩
  ·refine wZ ?_;exact⟨(),(),h,sP⟩
 ·rintro _ _ h;refine zH ?_;refine wX ?_;cases h;exact xT
theorem uY{s1 v2 r0}(h:(xF s1 v2).wp (·=r0)):PFun prog 139 [zZ DT.e s1,.agg (List.map .d (DT.e v2))] (.d (.v (.bool r0))):=by
 refine yB [0,1] func139 ntmps139 ?_;intro ctx hK;refine xV ?_;obtain⟨v3,hy4,h⟩:=zP h;refine xN (ZY hy4) call163 ?_;refine zL ?_;refine wX ?_;cases h;exact xT
end Go.Proofs
