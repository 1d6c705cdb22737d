/- Side texts. -/
import Derived.WalkSpells
import Derived.Orders
import Derived.Laws.StructEq
import Derived.Laws.Strings
import Derived.MapKept
import Derived.Test.YtehbkmakbdlgnaaGreatADs0
set_option linter.unusedVariables false
set_option linter.unusedSimpArgs false
namespace Go.Ep
open Go.RowKit
section
variable{P:Program}{ctx:Ctx}{Q:PQ}{s:PState}
variable{dst:Option Tmp}{ty:TypeId}{pos:String}{after:Array Edge}{gd:Option (Nat×Bool)}
theorem qe{α β:Type}(f:α->β):∀ (l:List α) (i:Nat),(qd i l).map (fun x=>(x.1,f x.2))=qd i (l.map f)
 | [],_=>rfl
 | x::r,i=>by simp[qd,qe f r]
theorem qf{k:Nat}:∀ (us:List (List Value)) (i j:Nat) (u:List Value) (v:Value),(∀ u∈us,u.length=k)->us[i]?=some u->u[j]?=some v->us.flatten[i*k+j]?=some v
 | [],i,j,u,v,_,h,_=>by simp at h
 | w::r,0,j,u,v,hk,h,hv=>by
  simp at h;subst h;have:j < w.length:=(List.getElem?_eq_some_iff.1 hv).1;rw[Nat.zero_mul,Nat.zero_add,List.flatten_cons,List.getElem?_append_left this];exact hv
 | w::r,i+1,j,u,v,hk,h,hv=>by
  simp at h;have hw:w.length=k:=hk w (by simp);have:=qf r i j u v (fun u hu=>hk u (by simp[hu])) h hv;rw[List.flatten_cons,List.getElem?_append_right (by rw[hw,Nat.add_mul];omega),hw];rw[show(i+1)*k+j - k=i*k+j from by rw[Nat.add_mul];omega];exact this
theorem LR.buildSlice{id n k bs:Nat}{t e:TypeId}{parts:Array (Nat×Operand)}(xs:List Operand){l:List (List DV)}(hE:ElemOK P t e k bs)(hparts:parts=(qd 0 xs).toArray)(hn:n=xs.length)(hel:Elems s k xs l)(hsmall:n*k<=16777216)(hk0:0 < k)(hf:s.fresh id=true) :
  Local P ctx ⟨some id,.buildSlice t n parts,ty,pos,after,gd⟩ s (s.newO id (.row e k l) (.row id l.length)):=
 yW (o:=⟨some id,.buildSlice t n parts,ty,pos,after,gd⟩) fun a w g hg=>by
  obtain⟨us,h1,h2,h3,h4⟩:=hel.real hg;obtain⟨i,z,hi,hz,hsize,hbytes,hzs⟩:=hE.i;subst hparts;subst hn;have hll:l.length=xs.length:=hel.len;have huk:∀ u∈us,u.length=k:=fun u hu=>by
   obtain⟨j,hj,rfl⟩:=List.getElem_of_mem hu;exact(h2 j (xs[j]'(by omega)) us[j] (List.getElem?_eq_getElem (by omega)) (List.getElem?_eq_getElem hj)).2
  have hfl:us.flatten.length=xs.length*k:=by
   rw[<- h1];clear h1 h2 h3 h4
   induction us with
   | nil=>simp
   | cons u r ih=>simp[ih (fun v hv=>huk v (by simp[hv])),huk u (by simp),Nat.add_mul];omega
  have hrun:(Instr.buildSlice t xs.length ((qd 0 xs).toArray.map fun(i,x)=>(i,a.eval x))).run P w=.ok (.slice (some ⟨w.heap.size,0,none⟩) xs.length xs.length) (w.alloc (.cells us.flatten.toArray e)):=by
   have e1:((qd 0 xs).toArray.map fun(i,x)=>(i,a.eval x)).toList=qd 0 (xs.map a.eval):=by simp;exact qe a.eval xs 0
   have hfill:∀ zz:List Value,zz.length=xs.length*k->Instr.fill (fun i=>some (i*k,k)) zz.toArray (qd 0 (xs.map a.eval))=some us.flatten.toArray:=fun zz hzz=>by
    have:=jO (k:=k) (xs.map a.eval) us 0 [] zz (by simp[h1]) (fun j v u hv hu=>by
     simp at hv;obtain⟨x,hx,rfl⟩:=hv;exact h2 j x u hx hu) (by simp) (by simpa using hzz)
    simpa using this
   have hs':∀ w,(sizeOf e).run P w=.ok k w:=hE.sizeOf;unfold Instr.buildSlice;simp only[Sem.run_bind,run_underlying hE.u,Result.andThen_ok,hs',e1];have n1:¬ (xs.length*k > 2 ^ 24):=by omega
   simp only[n1,if_false]
   by_cases h0:xs.length*k=0
   ·have hz0:=hfill [] (by simp[h0]);have e0:(Array.range 0).map (fun _:Nat=>(default:Value))=#[]:=by simp[Array.range_zero']
    simp[h0,hz0,newRow,e0]
   ·have hzz:((Array.range (xs.length*k)).map fun x=>z.cells[x % z.cells.size]!).toList.length=xs.length*k:=by simp
    have:=hfill _ hzz;simp only[Array.toArray_toList] at this;simp[h0,zeroValue,typeInfo,hi,hz,this,newRow]
  have hres:=hg.newRow (id:=id) hf (e:=e) (k:=k) (cap:=xs.length) (l:=l) (cur:=us.flatten) (by omega) (by unfold maxLen;have:xs.length<=16777216:=Nat.le_trans (Nat.le_mul_of_pos_right _ hk0) hsmall;omega) hfl hel.each (fun i cs j x hi hx=>by
   obtain⟨u,v,e1,e2,e3⟩:=h4 i cs j x hi hx;exact⟨v,qf us i j u v huk e1 e2,e3⟩)
  rw[hll] at hres ⊢;exact⟨_,_,by simp only[execOp,Sem.run_bind,hrun,Result.andThen_ok,Sem.run_pure],hres⟩
def PState.sets(s:PState)(p:PV):List Nat->PState
 | []=>s
 | d::r=>(s.put d p).sets p r
theorem VA(p:PV)(js:List Nat):∀ s:PState,(s.sets p js).n=s.n:=by
 induction js with
 | nil=>intro s;rfl
 | cons d r ih=>intro s;simp[PState.sets,ih,PState.put]
theorem VB(p:PV)(js:List Nat):∀ (s:PState) (i:Nat) (q:PV),(s.sets p js).at i=some q->(i∈js/\q=p)\/(s.at i=some q):=by
 induction js with
 | nil=>intro s i q h;exact .inr h
 | cons d r ih=>
  intro s i q h;rcases ih (s.put d p) i q h with⟨h1,h2⟩ | h2
  ·exact .inl ⟨by simp[h1],h2⟩
  ·rcases Jm s d p i q h2 with⟨e,e2⟩ | ⟨_,h3⟩
   ·exact .inl ⟨by simp[e],e2⟩
   ·exact .inr h3
def PState.frz(s:PState)(id:Nat)(l:List (List DV))(js:List Nat):PState:={ n:=s.n,sl:=(s.sets (.d (.sl l)) js).sl,objs:=vB id s.objs }
theorem Sub.frz{id n k:Nat}{e:TypeId}{l:List (List DV)}(js:List Nat)(hK:∀ b,ctx.K b->ctx.S b)(hl:look s.objs id=some (.row e k l))(hn:l.length=n)(hjs:∀ j∈js,s.at j=some (.row id n)):Sub ctx s (s.frz id l js):=by
 rintro a w ⟨g,h⟩;have hF:∀ b,zk ctx g s.objs b->zk ctx g (vB id s.objs) b:=fun b ⟨h1,h2⟩=>⟨h1,fun j o m hj hg=>by
  rw[yJ] at hj
  split at hj
  ·cases hj
  ·exact h2 j o m hj hg⟩
 have hst:yV w w (zk ctx g s.objs):=⟨Nat.le_refl _,fun _ _ _=>rfl⟩
 have hlk:∀ {j:Nat} {o:Ob},look (vB id s.objs) j=some o->j≠id/\look s.objs j=some o:=fun {j o} hj=>by
  rw[yJ] at hj
  split at hj
  ·cases hj
  ·rename_i hne;exact⟨hne,hj⟩
 refine⟨g,⟨h.defers,h.size,?_,?_,?_,?_,h.os,h.tape,h.output,h.grows,h.keep⟩⟩
 ·intro i p hp;have old:s.at i=some p->Rd w g (zk ctx g (vB id s.objs)) p (a.tmps.getD i undef):=fun hq=>(h.slots i p hq).keep hst (fun b hb _=>hF b hb) (fun _ _=>rfl)
  have hp':(s.sets (.d (.sl l)) js).at i=some p:=Zn (by rw[VA];exact Zu (s:=s.frz id l js) hp) (xL (s:=s.frz id l js) hp);rcases VB _ js s i p hp' with⟨h1,rfl⟩ | h2
  ·have hr:=h.slots i _ (hjs i h1);have hob:=h.objs id _ hl;show Rd w g (zk ctx g (vB id s.objs)) (.d (.sl l)) (a.tmps.getD i undef)
   generalize hv:a.tmps.getD i undef=v at hr
   cases hob with
   | rowNil _ _ hgn=>
    cases hr with
    | row _ _ blk cap hgi=>rw[hgn] at hgi;cases hgi
    | rowNil=>exact .d (.nil none 0 (Nat.zero_le _) (fun _=>rfl))
   | row _ _ _ blk' cap' cur hgi hh hlc hcap hcs hkk hr'=>
    cases hr with
    | rowNil _ hgn=>rw[hgn] at hgi;cases hgi
    | row _ _ blk cap hgi'=>
     rw[hgi] at hgi'
     cases hgi'
     subst hn;have hown:=h.own id _ blk' cap' hl hgi;have hfree:zk ctx g (vB id s.objs) blk':=⟨hown.2.elim .inr fun hh=>.inl (hK _ hh),fun j o m hj hgj=>by
      obtain⟨hne,hj'⟩:=hlk hj;exact hne (h.inj j id o _ blk' m cap' hj' hl hgj hgi)⟩
     refine .d (.sl l blk' 0 cap' k (fun i j=>cur.getD (i*k+j) undef) hlc hcap hfree hown.1 hkk ?_ ?_)
     ·intro i j hi hj;have hlt:i*k+j < cur.length:=by rw[hcs];exact vl (by omega) hj
      rw[zU hh];simp[hlt]
     ·intro i cs j x hi hx;obtain⟨u,hu,hd⟩:=hr' i cs j x hi hx;have e:cur.getD (i*k+j) undef=u:=by simp[List.getD,hu]
      show DRd w _ x (cur.getD (i*k+j) undef);rw[e];exact hd.keep hst (fun b hb _=>hF b hb)
  ·exact old h2
 ·intro j o hj;obtain⟨_,hj'⟩:=hlk hj;exact(h.objs j o hj').keep hst (fun b hb _=>hF b hb) (fun _ _ _=>rfl) rfl (fun _ _=>rfl)
 ·intro i j oi oj b n m hi hj;exact h.inj i j oi oj b n m (hlk hi).2 (hlk hj).2
 ·intro j o b n hj;exact h.own j o b n (hlk hj).2
theorem xX{w:World}{kx:IntKind}{i:Int}{y n:Nat}{code:BoundsCode}(hi:i=n)(hn:n<=y):(Instr.sliceBound (.int kx i) y code).run P w=.ok n w:=by
 subst hi;have:(0:Int)<=n/\(n:Int)<=y:=by omega
 simp[Instr.sliceBound,asIntOf,this]
theorem cut_rd{w:World}{S:Nat->Prop}{l:List (List DV)}{ao:Option Addr}{len cap lo hi k:Nat}(h:DRd w S (.sl l) (.slice ao len cap))(hlo:lo<=hi)(hhi:hi<=l.length)(hk:∀ (i:Nat) (cs:List DV),l[i]?=some cs->cs.length=k) :
  DRd w S (.sl ((l.take hi).drop lo)) (.slice (if cap=lo then ao else ao.map (·.add (lo*k))) (hi - lo) (cap - lo)):=by
 have hll:((l.take hi).drop lo).length=hi - lo:=by simp;omega
 by_cases h0:hi - lo=0
 ·have:(l.take hi).drop lo=[]:=List.eq_nil_of_length_eq_zero (by omega);rw[this,h0]
  cases h with
  | nil _ _ hc hn=>exact .nil _ _ (by omega) (fun e=>by
    split at e
    ·omega
    ·cases ao with
     | none=>have:=hn rfl;omega
     | some x=>simp at e)
  | sl _ b off _ k' c hl hcap=>exact .nil _ _ (by omega) (fun e=>by
    split at e
    ·cases e
    ·simp at e)
 ·cases h with
  | nil=>simp at hhi;omega
  | sl _ b off _ k' c hl hcap hS hb hkk hc hr=>
   have hk':k'=k:=by
    have hlt:0 < l.length:=by omega
    rw[<- hkk 0 _ (List.getElem?_eq_getElem hlt),hk 0 _ (List.getElem?_eq_getElem hlt)]
   subst hk';have hne:¬ cap=lo:=by omega
   have hget:∀ i,i < hi - lo->((l.take hi).drop lo)[i]?=l[lo+i]?:=fun i hi'=>by
    rw[List.getElem?_drop,List.getElem?_take,if_pos (by omega)]
   rw[if_neg hne];simp only[Option.map_some,Addr.add_lit];rw[<- hll];refine .sl _ b (off+lo*k') (cap - lo) k' (fun i j=>c (lo+i) j) (by omega) (by omega) hS hb ?_ ?_ ?_
   ·intro i cs hi';have:i < hi - lo:=by rw[<- hll];exact(List.getElem?_eq_some_iff.1 hi').1
    rw[hget i this] at hi';exact hkk _ cs hi'
   ·intro i j hi' hj;have:=hc (lo+i) j (by omega) hj;rw[Nat.add_mul] at this;rw[<- this]
    congr 2
    omega
   ·intro i cs j x hi' hx;have:i < hi - lo:=by rw[<- hll];exact(List.getElem?_eq_some_iff.1 hi').1
    rw[hget i this] at hi';exact hr _ cs j x hi' hx
section
variable{x lo hi:Operand}{l:List (List DV)}{k m n:Nat}{t e:TypeId}{k1 k2:IntKind}{i j:Int}(hu:P.underlying t=some (.slice e))(hs:∀ w,(sizeOf e).run P w=.ok k w)(hx:s.ev x=some (.d (.sl l)))(hk:∀ (i:Nat) (cs:List DV),l[i]?=some cs->cs.length=k)
include hu hs hx hk
theorem LR.sliceL(h1:s.ev lo=some (.d (.v (.int k1 i))))(hi':i=m)(hn:m<=l.length) :
  Local P ctx ⟨dst,.slice t x (some lo) none none,ty,pos,after,gd⟩ s (s.putD dst (.d (.sl (l.drop m)))):=
 zG (o:=⟨dst,.slice t x (some lo) none none,ty,pos,after,gd⟩) fun a w g hg=>by
  have h:=hg.ev hx
  generalize hv:a.eval x=v at h
  have hd:DRd w (zk ctx g s.objs) (.sl l) v:=by cases h with | d h=>exact h
  obtain⟨ao,cap,rfl,hlc⟩:∃ ao cap,v=.slice ao l.length cap/\l.length<=cap:=by cases hd with | nil a c=>exact⟨a,c,rfl,by simp⟩ | sl _ b off cap k c hl=>exact⟨_,cap,rfl,hl⟩
  have hcut:=cut_rd hd hn (Nat.le_refl l.length) hk;rw[List.take_length] at hcut;refine⟨_,?_,.d hcut⟩;simp[execOp,hv,wq hg h1,Instr.sliceAt,Instr.slice,Instr.sliceBounds,run_underlying hu,hs,xX (P:=P) hi' hn,Result.andThen]
end
end
end Go.Ep
namespace Go.Ep
open Go.RowKit
section
variable{P:Program}{ctx:Ctx}{Q:PQ}{s:PState}
variable{dst:Option Tmp}{ty:TypeId}{pos:String}{after:Array Edge}{gd:Option (Nat×Bool)}
theorem LR.extract{x:Operand}{n:Nat}{ps:List PV}{p:PV}(hx:s.ev x=some (.tup ps))(hp:ps[n]?=some p):Local P ctx ⟨dst,.extract x n,ty,pos,after,gd⟩ s (s.putD dst p):=
 zG (o:=⟨dst,.extract x n,ty,pos,after,gd⟩) fun a w g hg=>by
  have h:=hg.ev hx
  generalize hv:a.eval x=v at h
  cases h with
  | tup _ us hl hr=>
   have hlt:n < us.length:=by rw[<- hl];exact(List.getElem?_eq_some_iff.1 hp).1
   refine⟨us[n],?_,hr n p _ hp (List.getElem?_eq_getElem hlt)⟩;simp[execOp,hv,Instr.extract,hlt]
theorem LR.nilCheckRef{x:Operand}{id o:Nat}(hx:s.ev x=some (.ref id o)):Local P ctx ⟨dst,.nilCheck x,ty,pos,after,gd⟩ s (s.putD dst (.ref id o)):=
 zG (o:=⟨dst,.nilCheck x,ty,pos,after,gd⟩) fun a w g hg=>by
  have h:=hg.ev hx
  generalize hv:a.eval x=v at h
  cases h with
  | ref _ _ blk n hgi=>exact⟨_,by simp[execOp,hv],.ref id o blk n hgi⟩
def YP(P:Program)(t:TypeId)(places:List (Nat×Nat))(zs:List Value):Prop:=∀ parts,P.built t parts=Instr.fill (fun i=>places.toArray[i]?) zs.toArray parts
def wDa(places:List (Nat×Nat)):List PV->List (Nat×PV)->Option (List PV)
 | cs,[]=>some cs
 | cs,(i,p)::r=>
  match places[i]?,p.parts with
  | some (off,size),some ps=>if ps.length=size/\off+size<=cs.length then wDa places (cs.take off++ps++cs.drop (off+size)) r else none
  | _,_=>none
theorem yMa{places:List (Nat×Nat)}{w:World}{g:zb}{S:Nat->Prop}:∀ (ps:List (Nat×PV)) (rs:List (Nat×Value)) (cs:List PV) (us:List Value) (ns:List PV),ps.length=rs.length ->
  (∀ (j:Nat) (p:Nat×PV) (r:Nat×Value),ps[j]?=some p->rs[j]?=some r->p.1=r.1/\Rd w g S p.2 r.2)->cs.length=us.length ->
  (∀ (i:Nat) (p:PV) (u:Value),cs[i]?=some p->us[i]?=some u->Rd w g S p u)->(∀ u∈us,u.oneCell'=true)->wDa places cs ps=some ns ->
  ∃ vs:List Value,Instr.fill (fun i=>places.toArray[i]?) us.toArray rs=some vs.toArray/\ns.length=vs.length/\(∀ (i:Nat) (p:PV) (u:Value),ns[i]?=some p->vs[i]?=some u->Rd w g S p u)/\∀ u∈vs,u.oneCell'=true
 | [],rs,cs,us,ns,hl,_,hcu,hr,h1,hf=>by
  have:rs=[]:=List.eq_nil_of_length_eq_zero hl.symm;subst this;simp[wDa] at hf;subst hf;exact⟨us,by simp[Instr.fill],hcu,hr,h1⟩
 | (i,p)::ps,rs,cs,us,ns,hl,hpr,hcu,hr,h1,hf=>by
  cases rs with
  | nil=>simp at hl
  | cons r rs=>
   obtain⟨ri,rv⟩:=r;obtain⟨e1,hp⟩:=hpr 0 (i,p) (ri,rv) rfl rfl;simp only at e1 hp;subst e1;unfold wDa at hf
   cases hpl:places[i]? with
   | none=>simp[hpl] at hf
   | some os=>
    obtain⟨off,size⟩:=os
    cases hpp:p.parts with
    | none=>simp[hpl,hpp] at hf
    | some qs=>
     simp only[hpl,hpp] at hf
     split at hf
     ·rename_i hc
      obtain⟨hqs,hfit⟩:=hc;obtain⟨vs,hv1,hv2,hv3,hv4⟩:=hp.parts hpp;have hvl:vs.length=size:=by omega
      have hset:=zIa vs off 0 us.toArray (by simp;omega);have e2:(rv.cells.zipIdx.foldl (fun cs (c,j)=>cs.setIfInBounds (off+j) c) us.toArray)=(us.take off++vs++us.drop (off+size)).toArray:=by
       apply Array.ext';rw[hv1];have e1:(vs.toArray.zipIdx).foldl (fun cs (c,j)=>cs.setIfInBounds (off+j) c) us.toArray=(vs.zipIdx 0).foldl (fun cs (c,j)=>cs.setIfInBounds (off+j) c) us.toArray:=by
        rw[<- Array.foldl_toList];simp
       rw[e1,hset];simp[hvl]
      obtain⟨xs,hx1,hx2,hx3,hx4⟩:=yMa ps rs (cs.take off++qs++cs.drop (off+size)) (us.take off++vs++us.drop (off+size)) ns (by simpa using hl) (fun j p' r' h1 h2=>hpr (j+1) p' r' (by simpa using h1) (by simpa using h2))
       (by simp;omega) (by
        intro t q u hq hu;rw[List.append_assoc,List.getElem?_append] at hq hu;have l1:(cs.take off).length=off:=by simp;omega
        have l2:(us.take off).length=off:=by simp;omega
        rw[l1] at hq;rw[l2] at hu
        by_cases h3:t < off
        ·rw[if_pos h3] at hq hu;simp only[List.getElem?_take,h3,if_true] at hq hu;exact hr t q u hq hu
        ·rw[if_neg h3,List.getElem?_append] at hq hu
         by_cases h4:t - off < size
         ·rw[if_pos (by omega)] at hq hu;exact hv3 _ q u hq hu
         ·rw[if_neg (by omega),List.getElem?_drop] at hq hu;rw[hqs] at hq;rw[hvl] at hu;exact hr _ q u hq hu) (by
        intro u hu;simp only[List.append_assoc,List.mem_append] at hu;rcases hu with hu | hu | hu
        ·exact h1 u (List.mem_of_mem_take hu)
        ·exact hv4 u hu
        ·exact h1 u (List.mem_of_mem_drop hu)) hf
      refine⟨xs,?_,hx2,hx3,hx4⟩;unfold Instr.fill;have hsz:rv.cells.size=size:=by rw[hv1];simpa using hvl
      have hpl':places.toArray[i]?=some (off,size):=by simpa using hpl
      simp only[hpl',hsz,ne_eq,not_true_eq_false];rw[if_neg (by simp;omega),e2];exact hx1
     ·cases hf
def PState.evp(s:PState):List (Nat×Operand)->Option (List (Nat×PV))
 | []=>some []
 | (i,x)::r=>match s.ev x,s.evp r with | some p,some l=>some ((i,p)::l) | _,_=>none
theorem yNa : ∀ {xs:List (Nat×Operand)} {ps:List (Nat×PV)},s.evp xs=some ps->ps.length=xs.length
 | [],ps,h=>by simp[PState.evp] at h;subst h;rfl
 | (i,x)::r,ps,h=>by
  unfold PState.evp at h
  cases h1:s.ev x <;> cases h2:s.evp r <;> simp[h1,h2] at h
  subst h;simp[yNa h2]
theorem yOa : ∀ {xs:List (Nat×Operand)} {ps:List (Nat×PV)},s.evp xs=some ps->∀ {j:Nat} {p:Nat×PV} {x:Nat×Operand},ps[j]?=some p->xs[j]?=some x->p.1=x.1/\s.ev x.2=some p.2
 | [],ps,h,j,p,x,_,hx=>by simp at hx
 | (i,y)::r,ps,h,j,p,x,hp,hx=>by
  unfold PState.evp at h
  cases h1:s.ev y <;> cases h2:s.evp r <;> simp[h1,h2] at h
  subst h
  cases j with
  | zero=>simp at hp hx;subst hp;subst hx;exact⟨rfl,h1⟩
  | succ j=>simp at hp hx;exact yOa h2 hp hx
theorem LR.build{t:TypeId}{places:List (Nat×Nat)}{zs:List Value}{parts:Array (Nat×Operand)}{ps:List (Nat×PV)}{ns:List PV}(hB:YP P t places zs)(hz1:(zs.all Value.oneCell')=true)(hps:s.evp parts.toList=some ps)(hns:wDa places (zs.map zpv) ps=some ns) :
  Local P ctx ⟨dst,.build t parts,ty,pos,after,gd⟩ s (s.putD dst (.agg ns)):=
 zG (o:=⟨dst,.build t parts,ty,pos,after,gd⟩) fun a w g hg=>by
  have hz1':∀ u∈zs,u.oneCell'=true:=by simpa using hz1
  obtain⟨vs,h1,h2,h3,h4⟩:=yMa (w:=w) (g:=g) (S:=zk ctx g s.objs) ps (parts.toList.map fun x=>(x.1,a.eval x.2)) (zs.map zpv) zs ns (by simpa using yNa hps) (by
   intro j p r hp hr;rw[List.getElem?_map] at hr
   cases hx:parts.toList[j]? with
   | none=>simp[hx] at hr
   | some x=>
    simp[hx] at hr;subst hr;obtain⟨e1,e2⟩:=yOa hps hp hx;exact⟨e1,hg.ev e2⟩) (by simp) (by
   intro i p u hp hu;simp[hu] at hp;subst hp;exact zpv_rd w g _ u (hz1' u (List.mem_of_getElem? hu))) hz1' hns
  refine⟨.agg vs.toArray,?_,.agg ns vs h2 h3 h4⟩;have hb:P.built t (parts.map fun(i,x)=>(i,a.eval x)).toList=some vs.toArray:=by
   rw[hB];simpa using h1
  have hrun:=run_build w t (parts.map fun(i,x)=>(i,a.eval x)) vs.toArray hb;simp only[execOp,Sem.run_bind,hrun,Result.andThen_ok,Sem.run_pure]
theorem uw{o:Oper}{t:PState}(h:∀ a w g,RelG ctx g s a w->∃ f args,(execOp a.eval o).run P w=.ok (.enter f args) w/\Calls P f args w (fun e w'=>∃ v,e=.returned v/\Rel ctx t (a.put o.dst v) w')):Local P ctx o s t:=by
 rintro a w ⟨g,hg⟩ K Qx hK;obtain⟨f,args,hrun,hc⟩:=h a w g hg;unfold Oper.wp;rw[hrun];exact hc.mono fun e w' ⟨v,he,hr⟩=>by subst he;exact hK _ _ hr
theorem wv{o:Oper}{x:Operand}{f:FuncId}{args:Array Operand}{ats:Array TypeId}{a:Act}(ho:o.op=.call ⟨.value x,args,ats⟩)(hx:a.eval x=.func (.func f) #[] #[])(he:∀ args w,(callFunc f args).run P w=.ok (.enter f args) w)(w:World) :
  (execOp a.eval o).run P w=.ok (.enter f (args.map a.eval)) w:=by
 simp[execOp,ho,resolve,Deferred.ofValue,invoke,hx,he]
theorem Xb{g:zb}{a:Act}{w:World}(hg:RelG ctx g s a w){b:Nat}(h:zk ctx g s.objs b\/w.heap.size<=b):zk ctx g s.objs b:=by
 rcases h with h | h
 ·exact h
 ·exact⟨.inr (Nat.le_trans hg.grows h),fun id o n hl hgi=>by have:=(hg.own id o b n hl hgi).1;omega⟩
theorem VC{xs:List Operand}{ps:List PV}(hps:s.evs xs=some ps)(hd:PV.isData.isDataL ps=true){a:Act}{w:World}{g:zb}(hg:RelG ctx g s a w) :
  ps.length=(xs.map a.eval).length/\∀ (i:Nat) (p:PV) (v:Value),ps[i]?=some p->(xs.map a.eval)[i]?=some v->Rd w g0 (zk ctx g s.objs) p v:=by
 refine⟨by simpa using yLa hps,fun i p v hp hv=>?_⟩;rw[List.getElem?_map] at hv
 cases hx:xs[i]? with
 | none=>simp[hx] at hv
 | some x=>
  simp[hx] at hv;subst hv;exact(hg.ev (qc hps hp hx)).data (YO hd hp) g0
theorem LR.callAt{x:Operand}{xs:List Operand}{ats:Array TypeId}{f:FuncId}{ps:List PV}{r:PV}(hc:∀ a w g,RelG ctx g s a w->FunAt P f ps r w (zk ctx g s.objs))(hx:s.ev x=some (.d (.v (.func (.func f) #[] #[]))))(he:∀ args w,(callFunc f args).run P w=.ok (.enter f args) w)
  (hps:s.evs xs=some ps) (hd:PV.isData.isDataL ps=true) (hr:r.isData=true) :
  Local P ctx ⟨dst,.call ⟨.value x,xs.toArray,ats⟩,ty,pos,after,gd⟩ s (s.putD dst r):=
 uw (o:=⟨dst,.call ⟨.value x,xs.toArray,ats⟩,ty,pos,after,gd⟩) fun a w g hg=>by
  obtain⟨hlen,hreal⟩:=VC hps hd hg;refine⟨f,_,wv (o:=⟨dst,.call ⟨.value x,xs.toArray,ats⟩,ty,pos,after,gd⟩) rfl (Vz hg hx) he w,?_⟩;rw[List.map_toArray];refine(hc a w g hg _ hlen hreal).mono fun e w' ⟨u,he,hb,hru⟩=>⟨u,he,g,?_⟩
  exact(hg.below hb).put dst ((hru.data hr g).keep ⟨Nat.le_refl _,fun _ _ _=>rfl⟩ (fun b hb' _=>Xb hg hb') (fun _ _=>rfl))
theorem LR.call{x:Operand}{xs:List Operand}{ats:Array TypeId}{f:FuncId}{ps:List PV}{r:PV}(hc:PFun P f ps r)(hx:s.ev x=some (.d (.v (.func (.func f) #[] #[]))))(he:∀ args w,(callFunc f args).run P w=.ok (.enter f args) w)
  (hps:s.evs xs=some ps) (hd:PV.isData.isDataL ps=true) (hr:r.isData=true) :
  Local P ctx ⟨dst,.call ⟨.value x,xs.toArray,ats⟩,ty,pos,after,gd⟩ s (s.putD dst r):=LR.callAt (fun _ w g _=>hc w (zk ctx g s.objs)) hx he hps hd hr
theorem LR.callRowAt{id:Nat}{x:Operand}{xs:List Operand}{ats:Array TypeId}{f:FuncId}{ps:List PV}{e:TypeId}{k:Nat}{l:List (List DV)}(hc:∀ a w g,RelG ctx g s a w->RwAt P f ps e k l w (zk ctx g s.objs))(hx:s.ev x=some (.d (.v (.func (.func f) #[] #[]))))(he:∀ args w,(callFunc f args).run P w=.ok (.enter f args) w)
  (hps:s.evs xs=some ps) (hd:PV.isData.isDataL ps=true) (hf:s.fresh id=true) :
  Local P ctx ⟨some id,.call ⟨.value x,xs.toArray,ats⟩,ty,pos,after,gd⟩ s (s.newO id (.row e k l) (.row id l.length)):=
 uw (o:=⟨some id,.call ⟨.value x,xs.toArray,ats⟩,ty,pos,after,gd⟩) fun a w g hg=>by
  obtain⟨hlen,hreal⟩:=VC hps hd hg;refine⟨f,_,wv (o:=⟨some id,.call ⟨.value x,xs.toArray,ats⟩,ty,pos,after,gd⟩) rfl (Vz hg hx) he w,?_⟩;rw[List.map_toArray];refine(hc a w g hg _ hlen hreal).mono fun en w' ⟨u,he,hb,hru⟩=>⟨u,he,?_⟩
  cases hru with
  | nil=>
   exact⟨upd g id none,(hg.new hb hf none (fun b n e=>by cases e) (.row e k []) (.rowNil e k (zQ _ _ _))).put (some id) (.rowNil id (zQ _ _ _))⟩
  | row _ blk cap cur hbase hh hlc hcap hcs hk hr=>
   have hlt:blk < w'.heap.size:=(Array.getElem?_eq_some_iff.1 hh).1;refine⟨upd g id (some (blk,cap)),(hg.new hb hf (some (blk,cap)) (fun b n e=>by cases e;exact⟨hbase,hlt⟩) (.row e k l) ?_).put (some id) (.row id _ blk cap (zQ _ _ _))⟩;refine .row e k l blk cap cur (zQ _ _ _) hh hlc hcap hcs hk fun i cs j x hi hx=>?_
   obtain⟨u,hu,hd⟩:=hr i cs j x hi hx;refine⟨u,hu,hd.keep ⟨Nat.le_refl _,fun _ _ _=>rfl⟩ fun b ⟨h1,h2⟩ hblt=>?_⟩;have hfr:=Xb hg h1;refine⟨hfr.1,fun j o m hj hgj=>?_⟩;rw[zD] at hj
   by_cases ej:j=id
   ·subst ej;rw[zQ] at hgj;cases hgj;exact h2 rfl
   ·rw[if_neg ej] at hj;rw[ya ej] at hgj;exact hfr.2 j o m hj hgj
theorem LR.callRow{id:Nat}{x:Operand}{xs:List Operand}{ats:Array TypeId}{f:FuncId}{ps:List PV}{e:TypeId}{k:Nat}{l:List (List DV)}(hc:PRow P f ps e k l)(hx:s.ev x=some (.d (.v (.func (.func f) #[] #[]))))(he:∀ args w,(callFunc f args).run P w=.ok (.enter f args) w)
  (hps:s.evs xs=some ps) (hd:PV.isData.isDataL ps=true) (hf:s.fresh id=true) :
  Local P ctx ⟨some id,.call ⟨.value x,xs.toArray,ats⟩,ty,pos,after,gd⟩ s (s.newO id (.row e k l) (.row id l.length)):=LR.callRowAt (fun _ w g _=>hc w (zk ctx g s.objs)) hx he hps hd hf
inductive Res (P:Program) (s:PState):ResultVar->PV->Prop
 | tmp {t:Tmp} {p:PV} (h:s.at t=some p) (hd:p.isData=true):Res P s (.tmp t) p
 | row {t:Tmp} {id n k:Nat} {e:TypeId} {l:List (List DV)} (h:s.at t=some (.row id n)) (hl:look s.objs id=some (.row e k l)) (hn:l.length=n):Res P s (.tmp t) (.d (.sl l))
 | map {t:Tmp} {id:Nat} {ks:List IntKind} {ag:Bool} {m:List (List Int×List DV)} {bs:List Nat} {ck:Nat} (h:s.at t=some (.mp id)) (hl:look s.objs id=some (.map ks ag m bs ck)):Res P s (.tmp t) (.md ks ag m)
 | agg {t T k id:Nat} {T0:TypeId} {cs:List PV} (ha:∀ w,(isAgg T).run P w=.ok true w) (hs:∀ w,(sizeOf T).run P w=.ok k w) (h:s.at t=some (.ref id 0)) (hl:look s.objs id=some (.cells T0 cs)) (hk:cs.length=k) (hd:PV.isData.isDataL cs=true):Res P s (.cell t T) (.agg cs)
 | cell {t T id:Nat} {T0:TypeId} {p:PV} (ha:∀ w,(isAgg T).run P w=.ok false w) (h:s.at t=some (.ref id 0)) (hl:look s.objs id=some (.cells T0 [p])) (hd:p.isData=true):Res P s (.cell t T) p
inductive ResL (P:Program) (s:PState):List ResultVar->List PV->Prop
 | nil:ResL P s [] []
 | cons {r:ResultVar} {p:PV} {rs:List ResultVar} {ps:List PV} (h:Res P s r p) (t:ResL P s rs ps):ResL P s (r::rs) (p::ps)
def yPa : List PV->PV
 | [p]=>p
 | ps=>.tup ps
def Ends(P:Program)(fn:Func)(r:PV):PQ:=fun e s=>(e=.normal\/e=.ret)/\∃ ps,ResL P s fn.results.toList ps/\yPa ps=r
theorem row_data{g:zb}{a:Act}{w:World}(hg:RelG ctx g s a w)(hK:∀ b,ctx.K b->ctx.S b){id n k:Nat}{e:TypeId}{l:List (List DV)}{v:Value}(hr:Rd w g (zk ctx g s.objs) (.row id n) v)(hl:look s.objs id=some (.row e k l))(hn:l.length=n) :
  DRd w (fun b=>ctx.S b\/ctx.w0.heap.size<=b) (.sl l) v:=by
 have hob:=hg.objs id _ hl
 cases hob with
 | rowNil _ _ hgn=>
  cases hr with
  | row _ _ blk cap hgi=>rw[hgn] at hgi;cases hgi
  | rowNil=>exact .nil none 0 (Nat.zero_le _) (fun _=>rfl)
 | row _ _ _ blk' cap' cur hgi hh hlc hcap hcs hkk hr'=>
  cases hr with
  | rowNil _ hgn=>rw[hgn] at hgi;cases hgi
  | row _ _ blk cap hgi'=>
   rw[hgi] at hgi'
   cases hgi'
   subst hn;have hown:=hg.own id _ blk' cap' hl hgi;refine .sl l blk' 0 cap' k (fun i j=>cur.getD (i*k+j) undef) hlc hcap (hown.2.elim .inr fun hh=>.inl (hK _ hh)) hown.1 hkk ?_ ?_
   ·intro i j hi hj;have hlt:i*k+j < cur.length:=by rw[hcs];exact vl (by omega) hj
    rw[zU hh];simp[hlt]
   ·intro i cs j x hi hx;obtain⟨u,hu,hd⟩:=hr' i cs j x hi hx;have e:cur.getD (i*k+j) undef=u:=by simp[List.getD,hu]
    show DRd w _ x (cur.getD (i*k+j) undef);rw[e];exact hd.keep ⟨Nat.le_refl _,fun _ _ _=>rfl⟩ (fun b hb _=>hb.1)
def zJa(tmps:Array Value):ResultVar->Sem Value
 | .tmp t=>pure (tmps.getD t undef)
 | .cell a t=>do loadVar t (<- asAddr (tmps.getD a undef))
theorem UB(fn:Func)(tmps:Array Value):results fn tmps=(do let vs <- fn.results.mapM (zJa tmps);pure (if h:vs.size=1 then vs[0] else .tuple vs)):=by
 unfold results
 congr 1
theorem res_real{g:zb}{a:Act}{w:World}(hg:RelG ctx g s a w)(hK:∀ b,ctx.K b->ctx.S b){rv:ResultVar}{p:PV}(h:Res P s rv p) :
  ∃ v,(zJa a.tmps rv).run P w=.ok v w/\Rd w g0 (fun b=>ctx.S b\/ctx.w0.heap.size<=b) p v:=by
 have weak:∀ {q:PV} {v:Value},Rd w g (zk ctx g s.objs) q v->q.isData=true->Rd w g0 (fun b=>ctx.S b\/ctx.w0.heap.size<=b) q v:=fun h hd=>
  (h.keep (w':=w) (g':=g) (S':=fun b=>ctx.S b\/ctx.w0.heap.size<=b) ⟨Nat.le_refl _,fun _ _ _=>rfl⟩ (fun b hb _=>hb.1) (fun _ _=>rfl)).data hd g0
 cases h with
 | @tmp t _ h hd=>exact⟨_,rfl,weak (hg.slots t _ h) hd⟩
 | @row t id n k e l h hl hn=>exact⟨_,rfl,.d (row_data hg hK (hg.slots t _ h) hl hn)⟩
 | @map t id ks ag m bs ck h hl=>
  have hr:=hg.slots t _ h;show ∃ v,(pure (a.tmps.getD t undef):Sem Value).run P w=.ok v w/\_
  generalize hv:a.tmps.getD t undef=v at hr
  refine⟨v,rfl,?_⟩
  cases hr with
  | mpNil _ hgn=>
   cases hg.objs id _ hl with
   | map _ _ _ _ _ blk' n' es h' hh hm=>rw[hgn] at h';cases h'
  | mp _ blk n hgi=>
   cases hg.objs id _ hl with
   | map _ _ _ _ _ blk' n' es h' hh hm=>
    rw[hgi] at h'
    cases h'
    have hown:=hg.own id _ blk n hl hgi;exact .md ks ag m bs ck blk es (hown.2.elim .inr fun hh=>.inl (hK _ hh)) hown.1 hh (hm.keep ⟨Nat.le_refl _,fun _ _ _=>rfl⟩ (fun b hb _=>hb.1))
 | @agg t T k id T0 cs ha hs h hl hk hd=>
  have hr:=hg.slots t _ h
  generalize hv:a.tmps.getD t undef=v at hr
  cases hr with
  | ref _ _ blk n hgi=>
   cases hg.objs id _ hl with
   | cells _ _ blk' n' us h' hh hlen hr' h1=>
    rw[hgi] at h'
    cases h'
    refine⟨.agg us.toArray,?_,?_⟩
    ·have:=uv (P:=P) (us:=us) ha (by rw[<- hlen,hk];exact hs) (w:=w) (b:=blk) (o:=0) (fun j u hu=>by rw[Nat.zero_add,zU hh];exact hu);show(do loadVar T (<- asAddr (a.tmps.getD t undef)):Sem Value).run P w=_;rw[hv];simp only[asAddr,Sem.run_bind,Sem.run_pure,Result.andThen_ok];exact this
    ·exact weak (.agg cs us hlen hr' h1) (by simpa[PV.isData] using hd)
 | @cell t T id T0 p ha h hl hd=>
  have hr:=hg.slots t _ h
  generalize hv:a.tmps.getD t undef=v at hr
  cases hr with
  | ref _ _ blk n hgi=>
   cases hg.objs id _ hl with
   | cells _ _ blk' n' us h' hh hlen hr' h1=>
    rw[hgi] at h'
    cases h'
    have hlt:0 < us.length:=by rw[<- hlen];simp
    have hu:us[0]?=some us[0]:=List.getElem?_eq_getElem hlt;refine⟨us[0],?_,weak (hr' 0 p _ rfl hu) hd⟩;have:=vr (P:=P) ha (w:=w) (ad:=⟨blk,0,none⟩) (u:=us[0]) (by rw[zU hh];exact hu);show(do loadVar T (<- asAddr (a.tmps.getD t undef)):Sem Value).run P w=_;rw[hv];simp only[asAddr,Sem.run_bind,Sem.run_pure,Result.andThen_ok];exact this
theorem zKa{g:zb}{a:Act}{w:World}(hg:RelG ctx g s a w)(hK:∀ b,ctx.K b->ctx.S b){rs:List ResultVar}{ps:List PV}(h:ResL P s rs ps) :
  ∃ vs:List Value,(rs.mapM (zJa a.tmps)).run P w=.ok vs w/\ps.length=vs.length /\
   ∀ (i:Nat) (p:PV) (v:Value),ps[i]?=some p->vs[i]?=some v->Rd w g0 (fun b=>ctx.S b\/ctx.w0.heap.size<=b) p v:=by
 induction h with
 | nil=>exact⟨[],by simp,rfl,by simp⟩
 | cons h _ ih=>
  obtain⟨vs,h1,h2,h3⟩:=ih;obtain⟨v,hv1,hv2⟩:=res_real hg hK h;refine⟨v::vs,?_,by simp[h2],?_⟩
  ·simp only[List.mapM_cons,Sem.run_bind,hv1,h1,Result.andThen_ok,Sem.run_pure]
  ·intro i p u hp hu
   cases i with
   | zero=>simp at hp hu;subst hp;subst hu;exact hv2
   | succ i=>simp at hp hu;exact h3 i p u hp hu
def args : Nat->List PV->List (Nat×PV)
 | _,[]=>[]
 | i,p::r=>(i,p)::args (i+1) r
theorem qg : ∀ {ps:List PV} {b i:Nat} {p:PV},xt (args b ps) i=some p->∃ j,i=b+j/\ps[j]?=some p
 | [],b,i,p,h=>by simp[args,xt] at h
 | q::r,b,i,p,h=>by
  rw[args,yC] at h
  by_cases e:b=i
  ·rw[if_pos e] at h;exact⟨0,by omega,by simpa using h⟩
  ·rw[if_neg e] at h;obtain⟨j,h1,h2⟩:=qg h;exact⟨j+1,by omega,by simpa using h2⟩
theorem VD{w:World}{S K:Nat->Prop}{ps:List PV}{vs:List Value}{n:Nat}(hlen:ps.length=vs.length)(hreal:∀ (i:Nat) (p:PV) (v:Value),ps[i]?=some p->vs[i]?=some v->Rd w g0 S p v)(hnn:vs.length<=n) :
  RelG ⟨w,S,K⟩ g0 ⟨n,args 0 ps,[]⟩ { tmps:=vs.toArray++Array.replicate (n - vs.toArray.size) undef,defers:=[] } w:=by
 refine⟨rfl,by simp;omega,?_,by simp[look],by simp[look],by simp[look],rfl,rfl,rfl,Nat.le_refl _,fun _ _ _=>rfl⟩;intro i p hp;obtain⟨j,h1,h2⟩:=qg (xL hp);have e:i=j:=by omega
 subst e;have hi':i < vs.length:=by rw[<- hlen];exact(List.getElem?_eq_some_iff.1 h2).1
 have hv:vs[i]?=some vs[i]:=List.getElem?_eq_getElem hi';have e:(vs.toArray++Array.replicate (n - vs.toArray.size) undef).getD i undef=vs[i]:=by
  simp[Array.getD_eq_getD_getElem?,Array.getElem?_append,hi']
 rw[e];exact(hreal i p _ h2 hv).keep (w':=w) (g':=g0) ⟨Nat.le_refl _,fun _ _ _=>rfl⟩ (fun b hb _=>⟨.inl hb,fun id o n hl=>by simp[look] at hl⟩) (fun _ _=>rfl)
theorem FunAt.intro{w:World}{S:Nat->Prop}{f:FuncId}{fn:Func}{c:Code}{ps:List PV}{r:PV}{n:Nat}{sl:List (Nat×PV)}(hf:P.funcs[f]?=some fn)(hb:fn.body=some c)(hn:fn.ntmps=n)(hsl:args 0 ps=sl)(hpn:Nat.ble ps.length n=true)
  (body:PWc P ⟨w,S,fun _=>False⟩ c (Ends P fn r) ⟨n,sl,[]⟩):FunAt P f ps r w S:=by
 intro vs hlen hreal
 let ctx:Ctx:=⟨w,S,fun _=>False⟩
 have hK:∀ b,¬ ctx.K b:=fun _ h=>h
 refine calls_of_wp hf hb ?_;subst hsl;have hrel:RelG ctx g0 ⟨n,args 0 ps,[]⟩ { tmps:=vs.toArray++Array.replicate (fn.ntmps - vs.toArray.size) undef,defers:=[] } w:=by
  rw[hn];exact VD hlen hreal (by rw[<- hlen];exact Nat.le_of_ble_eq_true hpn)
 refine wp_mono (body _ w ⟨g0,hrel⟩) fun e a' w' ⟨t,⟨he,qs,hres,hq⟩,g,hg⟩=>?_
 have main:a'.defers=[]/\∃ v,(results fn a'.tmps).run P w'=.ok v w'/\(∃ u,Ending.returned v=.returned u/\Below w.heap.size w w'/\Rd w' g0 (fun b=>S b\/w.heap.size<=b) r u):=by
  obtain⟨us,h1,h2,h3⟩:=zKa hg (fun b h=>(hK b h).elim) hres;have hbel:Below w.heap.size w w':=⟨hg.os,hg.tape,hg.output,hg.grows,fun k hk=>hg.keep k hk (hK k)⟩
  have hrun:(results fn a'.tmps).run P w'=.ok (if h:us.toArray.size=1 then us.toArray[0] else .tuple us.toArray) w':=by
   rw[UB,Array.mapM_eq_mapM_toList];simp only[Sem.run_bind,Sem.run_map,h1,Result.andThen_ok,Sem.run_pure]
  refine⟨hg.defers,_,hrun,_,rfl,hbel,?_⟩;subst hq
  match qs,us,h2,h3 with
  | [p],[u],_,h3=>exact h3 0 p u rfl rfl
  | [],[],_,h3=>exact .tup [] [] rfl (by simp)
  | p::q::ps,u::v::us,h2,h3=>
   have hne:¬ (u::v::us).toArray.size=1:=by simp
   rw[dif_neg hne];exact .tup _ _ h2 h3
 rcases he with rfl | rfl
 ·exact main
 ·exact main
theorem PFun.intro{f:FuncId}{fn:Func}{c:Code}{ps:List PV}{r:PV}{n:Nat}{sl:List (Nat×PV)}(hf:P.funcs[f]?=some fn)(hb:fn.body=some c)(hn:fn.ntmps=n)(hsl:args 0 ps=sl)(hpn:Nat.ble ps.length n=true)
  (body:∀ ctx:Ctx,(∀ b,ctx.K b->ctx.S b)->PWc P ctx c (Ends P fn r) ⟨n,sl,[]⟩):PFun P f ps r:=fun w S=>FunAt.intro hf hb hn hsl hpn (body ⟨w,S,fun _=>False⟩ fun _ h=>h.elim)
end
end Go.Ep
namespace Go.Ep
theorem fI : type_of% @PFun.intro:=@PFun.intro
theorem xT{P:Program}{fn:Func}{r p:PV}{s:PState}(hr:ResL P s fn.results.toList [p]:=by exact .cons (.tmp rfl rfl) .nil)(h:yPa [p]=r:=by exact rfl):Ends P fn r .ret s:=⟨.inr rfl,_,hr,h⟩
end Go.Ep
namespace Go.Ep
open Go.RowKit
inductive Fgt (s:PState):List (Nat×PV)->Prop
 | nil:Fgt s []
 | cons {i:Nat} {p q:PV} {t:List (Nat×PV)} (h:s.at i=some p) (e:p=q) (r:Fgt s t):Fgt s ((i,q)::t)
theorem Fgt.get{s:PState}{t:List (Nat×PV)}(h:Fgt s t):∀ (i:Nat) (p:PV),xt t i=some p->s.at i=some p:=by
 induction h with
 | nil=>intro i p h;simp[xt] at h
 | cons h e _ ih=>
  intro i p hp;rw[yC] at hp
  split at hp
  ·rename_i e2;subst e2;subst e;rw[h];exact hp
  ·exact ih i p hp
inductive OFgt (so:List (Nat×Ob)):List (Nat×Ob)->Prop
 | nil:OFgt so []
 | cons {id:Nat} {o o':Ob} {to:List (Nat×Ob)} (h:look so id=some o') (e:o'=o) (r:OFgt so to):OFgt so ((id,o)::to)
theorem OFgt.get{so to:List (Nat×Ob)}(h:OFgt so to):∀ id o,look to id=some o->look so id=some o:=by
 induction h with
 | nil=>intro id o h;simp[look] at h
 | cons h e _ ih=>
  intro j o' hj;subst e;unfold look at hj
  split at hj
  ·rename_i ej;subst ej;rw[h];exact hj
  ·exact ih j o' hj
theorem Sub.of{ctx:Ctx}{s:PState}{n:Nat}{tl:List (Nat×PV)}{to:List (Nat×Ob)}(hn:s.n=n)(h:Fgt s tl)(ho:OFgt s.objs to):Sub ctx s ⟨n,tl,to⟩:=Sub.drop (s:=s) (t:=⟨n,tl,to⟩) hn (fun i p hp=>h.get i p (xL hp)) ho.get
theorem qh{α:Type}{enc:α->List DV}{k:Nat}(henc:∀ x,(enc x).length=k)(L:List α):∀ (i:Nat) (cs:List DV),(L.map enc)[i]?=some cs->cs.length=k:=by
 intro i cs h;rw[List.getElem?_map] at h
 cases hx:L[i]? with
 | none=>simp[hx] at h
 | some x=>simp[hx] at h;subst h;exact henc x
section
variable{P:Program}{ctx:Ctx}{Q:PQ}{s:PState}
variable{dst:Option Tmp}{ty:TypeId}{pos:String}{after:Array Edge}{gd:Option (Nat×Bool)}
theorem LR.allocZ{id:Nat}{T:TypeId}{z:Value}{zs:List Value}{cs:List PV}(hz:∀ w,(zeroValue T).run P w=.ok z w)(hzs:z.cells=zs.toArray)(h1:(zs.all Value.oneCell')=true)(hcs:zs.map zpv=cs)(hf:s.fresh id=true) :
  Local P ctx ⟨some id,.alloc T,ty,pos,after,gd⟩ s (s.newO id (.cells T cs) (.ref id 0)):=by
 subst hcs;exact LR.alloc hz hzs h1 hf
theorem LR.storeB{x y:Operand}{id o k:Nat}{T T0:TypeId}{cs ps ns:List PV}{p:PV}(hs:∀ w,(sizeOf T).run P w=.ok k w)(hx:s.ev x=some (.ref id o))(hy:s.ev y=some p)(hp:p.parts=some ps)(hk:ps.length=k)
  (hl:look s.objs id=some (.cells T0 cs)) (hlen:Nat.ble (o+k) cs.length=true) (hns:cs.take o++ps++cs.drop (o+k)=ns) :
  Local P ctx ⟨none,.store T x y,ty,pos,after,gd⟩ s (s.setO id (.cells T0 ns)):=LR.store hs hx hy hp hk hl (Nat.le_of_ble_eq_true hlen) hns
theorem LR.storeRpB{x y:Operand}{id i o k m:Nat}{T T0:TypeId}{l:List (List DV)}{cs ys ns:List DV}{p:PV}(hs:∀ w,(sizeOf T).run P w=.ok m w)(hx:s.ev x=some (.rp id i o k))(hy:s.ev y=some p)(hp:p.dparts=some ys)(hm:ys.length=m)
  (hl:look s.objs id=some (.row T0 k l)) (hi:l[i]?=some cs) (hlen:Nat.ble (o+m) k=true) (hns:cs.take o++ys++cs.drop (o+m)=ns) :
  Local P ctx ⟨none,.store T x y,ty,pos,after,gd⟩ s (s.setO id (.row T0 k (l.set i ns))):=LR.storeRp hs hx hy (PV.dparts_parts hp) hm hl hi (Nat.le_of_ble_eq_true hlen) hns
theorem PWl.eqlNil{ops:Array Oper}{rest:List Oper}{x:Operand}{l:List (List DV)}{t t' e:TypeId}(hu:P.underlying t=some (.slice e))(hx:s.ev x=some (.d (.sl l)))(hg:gd=none)
  (h:∀ b:Bool,(b=true->l=[])->PWl P ctx ops Q rest (s.putD dst (.d (.v (.bool b))))):PWl P ctx ops Q (⟨dst,.binOp .eql t x (.const (.slice none 0 0)) t',ty,pos,after,gd⟩::rest) s:=by
 rintro a w ⟨g,hr⟩;have hv:=hr.ev hx;obtain⟨ao,n,c,he,hn⟩:∃ ao n c,a.eval x=.slice ao n c/\(ao=none->l=[]):=by
  cases hv with
  | d hd=>
   generalize a.eval x=v at hd
   cases hd with
   | nil ao cap=>exact⟨ao,0,cap,rfl,fun _=>rfl⟩
   | sl _ b off cap=>exact⟨_,_,cap,rfl,fun e=>by cases e⟩
 refine wpList_plain hg fun K hK=>?_
 have hrun:=Lib.run_eql_slice_nil (P:=P) w t e ao n c 0 0 hu;unfold Oper.wp;have:(execOp a.eval ⟨dst,.binOp .eql t x (.const (.slice none 0 0)) t',ty,pos,after,gd⟩).run P w=.ok (.value (.bool ao.isNone)) w:=by
  have hc:a.eval (.const (.slice none 0 0))=.slice none 0 0:=rfl;simp only[execOp,he,hc,eqGuard_at_slice,Sem.run_bind,Sem.run_pure,Result.andThen_ok,hrun]
 rw[this];exact hK _ _ (h ao.isNone (fun e=>hn (by simpa using e)) _ _ ⟨g,hr.put dst (.d (.v _ rfl))⟩)
theorem PWc.condT{c:Operand}{x y:Code}(hc:s.ev c=some (.d (.v (.bool true))))(h:PWc P ctx x Q s):PWc P ctx (.cond c x y) Q s:=PWc.cond hc (fun _=>h) (fun e=>by cases e)
theorem PWc.condF{c:Operand}{x y:Code}(hc:s.ev c=some (.d (.v (.bool false))))(h:PWc P ctx y Q s):PWc P ctx (.cond c x y) Q s:=PWc.cond hc (fun e=>by cases e) (fun _=>h)
theorem PWl.split{ops:Array Oper}{rest:List Oper}{d:Nat}{b:Bool}(hs:s.at d=some (.d (.v (.bool b))))(ht:b=true->PWl P ctx ops Q rest (s.put d (.d (.v (.bool true)))))(hf:b=false->PWl P ctx ops Q rest (s.put d (.d (.v (.bool false))))):PWl P ctx ops Q rest s:=by
 refine PWl.sub (t:=s.put d (.d (.v (.bool b)))) (Sub.drop rfl (fun i p hp=>?_) (fun _ _ h=>h)) ?_
 ·rcases Jm s d _ i p hp with⟨rfl,rfl⟩ | ⟨_,h2⟩
  ·exact hs
  ·exact h2
 ·cases b with
  | true=>exact ht rfl
  | false=>exact hf rfl
theorem PWc.keep{c:Code}{n:Nat}{tl:List (Nat×PV)}(hn:s.n=n)(h:Fgt s tl)(k:PWc P ctx c Q ⟨n,tl,s.objs⟩):PWc P ctx c Q s:=
 PWc.sub (Sub.drop (t:=⟨n,tl,s.objs⟩) hn (fun i p hp=>h.get i p (xL hp)) (fun _ _ h=>h)) k
theorem PWl.keep{ops:Array Oper}{l:List Oper}{n:Nat}{tl:List (Nat×PV)}(hn:s.n=n)(h:Fgt s tl)(k:PWl P ctx ops Q l ⟨n,tl,s.objs⟩):PWl P ctx ops Q l s:=
 PWl.sub (Sub.drop (t:=⟨n,tl,s.objs⟩) hn (fun i p hp=>h.get i p (xL hp)) (fun _ _ h=>h)) k
inductive AllRow (s:PState) (id n:Nat):List Nat->Prop
 | nil:AllRow s id n []
 | cons {j:Nat} {js:List Nat} (h:s.at j=some (.row id n)) (r:AllRow s id n js):AllRow s id n (j::js)
theorem AllRow.get{id n:Nat}{js:List Nat}(h:AllRow s id n js):∀ j∈js,s.at j=some (.row id n):=by
 induction h with
 | nil=>intro j hj;cases hj
 | cons h _ ih=>
  intro j hj;rcases List.mem_cons.1 hj with rfl | hj
  ·exact h
  ·exact ih j hj
theorem PWl.frz{ops:Array Oper}{rest:List Oper}{id n k:Nat}{e:TypeId}{l:List (List DV)}(js:List Nat)(hK:∀ b,ctx.K b->ctx.S b)(hjs:AllRow s id n js)(hl:look s.objs id=some (.row e k l))(hn:l.length=n)(h:PWl P ctx ops Q rest (s.frz id l js)):PWl P ctx ops Q rest s:=
 PWl.sub (Sub.frz js hK hl hn hjs.get) h
def yQa(fn:Func)(e:TypeId)(k:Nat)(l:List (List DV)):PQ:=fun en s=>(en=.normal\/en=.ret)/\∃ t,fn.results=#[.tmp t]/\((l=[]/\s.at t=some (.d (.v (.slice none 0 0))))\/∃ id n,s.at t=some (.row id n)/\l.length=n/\look s.objs id=some (.row e k l))
theorem RwAt.intro{w:World}{S:Nat->Prop}{f:FuncId}{fn:Func}{c:Code}{ps:List PV}{e:TypeId}{k:Nat}{l:List (List DV)}{n:Nat}{sl:List (Nat×PV)}(hf:P.funcs[f]?=some fn)(hb:fn.body=some c)(hn:fn.ntmps=n)(hsl:args 0 ps=sl)(hpn:Nat.ble ps.length n=true)
  (body:PWc P ⟨w,S,fun _=>False⟩ c (yQa fn e k l) ⟨n,sl,[]⟩):RwAt P f ps e k l w S:=by
 intro vs hlen hreal
 let ctx:Ctx:=⟨w,S,fun _=>False⟩
 have hK:∀ b,¬ ctx.K b:=fun _ h=>h
 refine calls_of_wp hf hb ?_;subst hsl;have hrel:RelG ctx g0 ⟨n,args 0 ps,[]⟩ { tmps:=vs.toArray++Array.replicate (fn.ntmps - vs.toArray.size) undef,defers:=[] } w:=by
  rw[hn];exact VD hlen hreal (by rw[<- hlen];exact Nat.le_of_ble_eq_true hpn)
 refine wp_mono (body _ w ⟨g0,hrel⟩) fun en a' w' ⟨s,⟨he,t,hres,hcase⟩,g,hg⟩=>?_
 have hbel:Below w.heap.size w w':=⟨hg.os,hg.tape,hg.output,hg.grows,fun k hk=>hg.keep k hk (hK k)⟩
 have main:a'.defers=[]/\∃ v,(results fn a'.tmps).run P w'=.ok v w'/\(∃ u,Ending.returned v=.returned u/\Below w.heap.size w w'/\RowRd w' S w.heap.size e k l u):=by
  refine⟨hg.defers,_,results_tmp hres _ _ _,_,rfl,hbel,?_⟩;rcases hcase with⟨rfl,hs⟩ | ⟨id,m,hs,hlm,hl⟩
  ·have:=(hg.slots t _ hs).of_v;rw[this];exact .nil
  ·have hr:=hg.slots t _ hs
   generalize hv:a'.tmps.getD t undef=v at hr
   cases hg.objs id _ hl with
   | rowNil _ _ hgn=>
    cases hr with
    | row _ _ blk cap hgi=>rw[hgn] at hgi;cases hgi
    | rowNil=>exact .nil
   | row _ _ _ blk' cap' cur hgi hh hlc hcap hcs hkk hr'=>
    cases hr with
    | rowNil _ hgn=>rw[hgn] at hgi;cases hgi
    | row _ _ blk cap hgi'=>
     rw[hgi] at hgi'
     cases hgi'
     subst hlm;have hown:=hg.own id _ blk' cap' hl hgi;refine .row l blk' cap' cur (hown.2.resolve_right (hK _)) hh hlc hcap hcs hkk fun i cs j x hi hx=>?_
     obtain⟨u,hu,hd⟩:=hr' i cs j x hi hx;exact⟨u,hu,hd.keep ⟨Nat.le_refl _,fun _ _ _=>rfl⟩ fun b ⟨h1,h2⟩ _=>⟨h1,fun eb=>by subst eb;exact h2 id _ cap' hl hgi⟩⟩
 rcases he with rfl | rfl
 ·exact main
 ·exact main
theorem PRow.intro{f:FuncId}{fn:Func}{c:Code}{ps:List PV}{e:TypeId}{k:Nat}{l:List (List DV)}{n:Nat}{sl:List (Nat×PV)}(hf:P.funcs[f]?=some fn)(hb:fn.body=some c)(hn:fn.ntmps=n)(hsl:args 0 ps=sl)(hpn:Nat.ble ps.length n=true)
  (body:∀ ctx:Ctx,(∀ b,ctx.K b->ctx.S b)->PWc P ctx c (yQa fn e k l) ⟨n,sl,[]⟩):PRow P f ps e k l:=fun w S=>RwAt.intro hf hb hn hsl hpn (body ⟨w,S,fun _=>False⟩ fun _ h=>h.elim)
end
end Go.Ep
namespace Go.Ep
theorem sO : type_of% @Sub.of:=@Sub.of
theorem wL : type_of% @PWl.split:=@PWl.split
theorem sB : type_of% @LR.storeB:=@LR.storeB
theorem Fgt.c2{s:PState}{i j:Nat}{p q p' q':PV}{t:List (Nat×PV)}(h:s.at i=some p)(e:p=q)(h':s.at j=some p')(e':p'=q')(r:Fgt s t):Fgt s ((i,q)::(j,q')::t):=.cons h e (.cons h' e' r)
theorem Fgt.c4{s:PState}{i j k l:Nat}{p q p' q' p2 q2 p3 q3:PV}{t:List (Nat×PV)}(h:s.at i=some p)(e:p=q)(h':s.at j=some p')(e':p'=q')(h2:s.at k=some p2)(e2:p2=q2)(h3:s.at l=some p3)(e3:p3=q3)(r:Fgt s t):Fgt s ((i,q)::(j,q')::(k,q2)::(l,q3)::t):=.c2 h e h' e' (.c2 h2 e2 h3 e3 r)
theorem OFgt.c2{so:List (Nat×Ob)}{i j:Nat}{p q p' q':Ob}{t:List (Nat×Ob)}(h:look so i=some p)(e:p=q)(h':look so j=some p')(e':p'=q')(r:OFgt so t):OFgt so ((i,q)::(j,q')::t):=.cons h e (.cons h' e' r)
theorem OFgt.c4{so:List (Nat×Ob)}{i j k l:Nat}{p q p' q' p2 q2 p3 q3:Ob}{t:List (Nat×Ob)}(h:look so i=some p)(e:p=q)(h':look so j=some p')(e':p'=q')(h2:look so k=some p2)(e2:p2=q2)(h3:look so l=some p3)(e3:p3=q3)(r:OFgt so t):OFgt so ((i,q)::(j,q')::(k,q2)::(l,q3)::t):=.c2 h e h' e' (.c2 h2 e2 h3 e3 r)
theorem sP{ctx:Ctx}{s:PState}{n:Nat}{tl:List (Nat×PV)}{to:List (Nat×Ob)}(hn:s.n=n:=by exact rfl)(h:Fgt s tl:=by repeat' constructor)(ho:OFgt s.objs to:=by repeat' constructor):Sub ctx s ⟨n,tl,to⟩:=Sub.of hn h ho
end Go.Ep
namespace Go.Ep
open Go.RowKit
def xC(o:Oper):Operand->Bool
 | .tmp t=>o.op.operands.toList.any fun x=>match x with | .tmp u=>Nat.beq u t | _=>false
 | _=>true
def vBa(P:Program)(ctx:Ctx)(o:Oper)(s:PState)(p:PV):Prop:=
 ∀ s':PState,(∀ {x q},xC o x=true->s.ev x=some q->s'.ev x=some q)->(∀ {id ob},look s.objs id=some ob->look s'.objs id=some ob)->Local P ctx o s' (s'.putD o.dst p)
inductive PQl (P:Program) (ctx:Ctx) (ops:Array Oper) (Q:PState->Prop):List Oper->PState->Prop
 | fin {s t:PState} (h:Q t) (hs:Sub ctx s t):PQl P ctx ops Q [] s
 | step {s:PState} {o:Oper} {rest:List Oper} {p:PV} (hl:vBa P ctx o s p) (hg:o.guard=none) (h:PQl P ctx ops Q rest (s.putD o.dst p)):PQl P ctx ops Q (o::rest) s
 | guardT {s:PState} {o:Oper} {rest:List Oper} {p:PV} {j d:Nat} {b:Bool} (hl:vBa P ctx o s p) (hg:o.guard=some (j,b)) (hd:(ops[j]?).bind (·.dst)=some d) (hs:s.at d=some (.d (.v (.bool b))))
   (h:PQl P ctx ops Q rest (s.putD o.dst p)):PQl P ctx ops Q (o::rest) s
 | guardF {s:PState} {o:Oper} {rest:List Oper} {j d:Nat} {b c:Bool} (hg:o.guard=some (j,b)) (hd:(ops[j]?).bind (·.dst)=some d) (hs:s.at d=some (.d (.v (.bool c)))) (hbc:c≠b)
   (h:PQl P ctx ops Q rest (s.putD o.dst .und)):PQl P ctx ops Q (o::rest) s
 | guardU {s:PState} {o:Oper} {rest:List Oper} {j d:Nat} {b:Bool} (hg:o.guard=some (j,b)) (hd:(ops[j]?).bind (·.dst)=some d) (hs:s.at d=some .und)
   (h:PQl P ctx ops Q rest (s.putD o.dst .und)):PQl P ctx ops Q (o::rest) s
section
variable{P:Program}{ctx:Ctx}{ops:Array Oper}{Q:PState->Prop}
theorem PQl.nil{s:PState}(h:Q s):PQl P ctx ops Q [] s:=.fin h (Sub.refl _)
def Same(s t:PState):Prop:=s.n=t.n/\(∀ i,s.at i=t.at i)/\s.objs=t.objs
theorem Same.ev{s t:PState}(h:Same s t)(x:Operand):s.ev x=t.ev x:=by
 cases x with
 | tmp i=>exact h.2.1 i
 | const v=>cases v <;> rfl
 | func f=>rfl
 | global g=>rfl
theorem YQ(s:PState)(i:Nat):s.at i=if i < s.n then xt s.sl i else none:=by
 unfold PState.at
 by_cases h:i < s.n
 ·have:Nat.blt i s.n=true:=by simpa[Nat.blt_eq] using h
  rw[this,if_pos h];rfl
 ·have:Nat.blt i s.n=false:=by
   cases hb:Nat.blt i s.n with
   | false=>rfl
   | true=>exact absurd (by simpa[Nat.blt_eq] using hb) h
  rw[this,if_neg h];rfl
theorem VE(s:PState)(d:Nat)(p:PV)(i:Nat):(s.put d p).at i=if i < s.n then (if d=i then some p else s.at i) else none:=by
 rw[YQ,YQ];simp only[PState.put,yC]
 by_cases h:i < s.n <;> simp[h]
theorem Same.putD{s t:PState}(h:Same s t)(d:Option Nat)(p:PV):Same (s.putD d p) (t.putD d p):=by
 cases d with
 | none=>exact h
 | some d=>exact⟨h.1,fun i=>by simp only[PState.putD,VE,h.1,h.2.1],h.2.2⟩
theorem Same.sub{s t:PState}(h:Same s t):Sub ctx s t:=Sub.drop h.1 (fun i p hp=>by rw[h.2.1];exact hp) (fun id o ho=>by rw[h.2.2];exact ho)
theorem PQl.same{l:List Oper}{t:PState}(h:PQl P ctx ops Q l t):∀ {s:PState},Same s t->PQl P ctx ops Q l s:=by
 induction h with
 | fin h hs=>intro s he;exact .fin h (Sub.trans he.sub hs)
 | step hl hg _ ih=>intro s he;exact .step (fun s' h1 h2=>hl s' (fun hx hq=>h1 hx (by rw[he.ev];exact hq)) (fun ho=>h2 (by rw[he.2.2];exact ho))) hg (ih (he.putD _ _))
 | guardT hl hg hd hs _ ih=>intro s he;exact .guardT (fun s' h1 h2=>hl s' (fun hx hq=>h1 hx (by rw[he.ev];exact hq)) (fun ho=>h2 (by rw[he.2.2];exact ho))) hg hd (by rw[he.2.1];exact hs) (ih (he.putD _ _))
 | guardF hg hd hs hbc _ ih=>intro s he;exact .guardF hg hd (by rw[he.2.1];exact hs) hbc (ih (he.putD _ _))
 | guardU hg hd hs _ ih=>intro s he;exact .guardU hg hd (by rw[he.2.1];exact hs) (ih (he.putD _ _))
theorem PQl.split{s:PState}{rest:List Oper}{d:Nat}{b:Bool}(hs:s.at d=some (.d (.v (.bool b))))(ht:b=true->PQl P ctx ops Q rest (s.put d (.d (.v (.bool true)))))(hf:b=false->PQl P ctx ops Q rest (s.put d (.d (.v (.bool false))))):PQl P ctx ops Q rest s:=by
 have e:Same s (s.put d (.d (.v (.bool b)))):=by
  refine⟨rfl,fun i=>?_,rfl⟩;rw[VE]
  by_cases hi:i < s.n
  ·rw[if_pos hi]
   by_cases hd:d=i
   ·subst hd;rw[if_pos rfl];exact hs
   ·rw[if_neg hd]
  ·rw[if_neg hi,YQ,if_neg hi]
 cases b with
 | true=>exact(ht rfl).same e
 | false=>exact(hf rfl).same e
def Yields(P:Program)(ctx:Ctx)(ops:Array Oper)(o:Oper)(s:PState)(p:PV):Prop:=
 ((o.guard=none\/∃ j b d,o.guard=some (j,b)/\(ops[j]?).bind (·.dst)=some d/\s.at d=some (.d (.v (.bool b))))/\vBa P ctx o s p) \/
 (∃ j b c d,o.guard=some (j,b)/\(ops[j]?).bind (·.dst)=some d/\s.at d=some (.d (.v (.bool c)))/\c≠b/\p=.und) \/
 (∃ j b d,o.guard=some (j,b)/\(ops[j]?).bind (·.dst)=some d/\s.at d=some .und/\p=.und)
inductive Lex (P:Program) (ctx:Ctx) (ops:Array Oper):List Oper->PState->List PV->PState->Prop
 | nil {s:PState}:Lex P ctx ops [] s [] s
 | cons {o:Oper} {rest:List Oper} {s t:PState} {p:PV} {ps:List PV} (y:Yields P ctx ops o s p) (h:Lex P ctx ops rest (s.putD o.dst p) ps t):Lex P ctx ops (o::rest) s (p::ps) t
theorem PQl.lex{l:List Oper}{s:PState}(h:PQl P ctx ops Q l s):∃ ps t,Lex P ctx ops l s ps t/\∃ u,Q u/\Sub ctx t u:=by
 induction h with
 | fin h hs=>exact⟨[],_,.nil,_,h,hs⟩
 | step hl hg _ ih=>obtain⟨ps,t,h1,h2⟩:=ih;exact⟨_,t,.cons (.inl ⟨.inl hg,hl⟩) h1,h2⟩
 | guardT hl hg hd hs _ ih=>obtain⟨ps,t,h1,h2⟩:=ih;exact⟨_,t,.cons (.inl ⟨.inr ⟨_,_,_,hg,hd,hs⟩,hl⟩) h1,h2⟩
 | guardF hg hd hs hbc _ ih=>obtain⟨ps,t,h1,h2⟩:=ih;exact⟨_,t,.cons (.inr (.inl ⟨_,_,_,_,hg,hd,hs,hbc,rfl⟩)) h1,h2⟩
 | guardU hg hd hs _ ih=>obtain⟨ps,t,h1,h2⟩:=ih;exact⟨_,t,.cons (.inr (.inr ⟨_,_,_,hg,hd,hs,rfl⟩)) h1,h2⟩
theorem Yields.run{o:Oper}{s s':PState}{p:PV}(y:Yields P ctx ops o s p)(hn:s'.n=s.n)(ho:s'.objs=s.objs)(hl:∀ t,t∈o.looksAt ops->xt s'.sl t=xt s.sl t){i:Nat}(hi:ops[i]?=some o)
  {a:Act} {w:World} (hr:Rel ctx s' a w) {K:Act->World->Prop} {Qx:Exit->Act->World->Prop} (hK:∀ a' w',Rel ctx (s'.putD o.dst p) a' w'->K a' w'):wpOp P ops Qx i K a w:=by
 have hat:∀ t,t∈o.looksAt ops->s'.at t=s.at t:=fun t ht=>by rw[YQ,YQ,hn,hl t ht]
 unfold wpOp;simp only[hi];rcases y with⟨hg,hd⟩ | ⟨j,b,c,d,hg,hd,hs,hbc,rfl⟩ | ⟨j,b,d,hg,hd,hs,rfl⟩
 ·have hloc:Local P ctx o s' (s'.putD o.dst p):=by
   refine hd s' (fun {x q} hx hq=>?_) (fun h=>by rw[ho];exact h)
   cases x with
   | tmp t=>
    show s'.at t=some q;rw[hat t ?_]
    ·exact hq
    ·simp only[xC,List.any_eq_true] at hx;obtain⟨x,hx1,hx2⟩:=hx;unfold Oper.looksAt;refine List.mem_append_left _ (List.mem_filterMap.2 ⟨x,hx1,?_⟩)
     cases x with
     | tmp u=>simp only at hx2;rw[Nat.eq_of_beq_eq_true hx2]
     | _=>simp at hx2
   | const v=>cases v <;> exact hq
   | func f=>exact hq
   | global g=>exact hq
  have hw:Region.wanted o (yielded ops a.tmps)=true:=by
   rcases hg with hg | ⟨j,b,d,hg,hd2,hs⟩
   ·simp[Region.wanted,hg]
   ·obtain⟨g,hrg⟩:=hr;have hs':s'.at d=some (.d (.v (.bool b))):=by
     rw[hat d (by unfold Oper.looksAt;rw[hg];refine List.mem_append_right _ ?_;simp[hd2])];exact hs
    simp[Region.wanted,hg,ur hrg hd2 hs']
  rw[if_pos hw];exact .inl (hloc a w hr K Qx hK)
 ·obtain⟨g,hrg⟩:=hr;have hs':s'.at d=some (.d (.v (.bool c))):=by
   rw[hat d (by unfold Oper.looksAt;rw[hg];refine List.mem_append_right _ ?_;simp[hd])];exact hs
  have hw:Region.wanted o (yielded ops a.tmps)=false:=by simp[Region.wanted,hg,ur hrg hd hs',hbc]
  rw[hw];exact hK _ _ ⟨g,hrg.put o.dst Rd.und⟩
 ·obtain⟨g,hrg⟩:=hr;have hs':s'.at d=some .und:=by
   rw[hat d (by unfold Oper.looksAt;rw[hg];refine List.mem_append_right _ ?_;simp[hd])];exact hs
  have hw:Region.wanted o (yielded ops a.tmps)=false:=by simp[Region.wanted,hg,Wb hrg hd hs']
  rw[hw];exact hK _ _ ⟨g,hrg.put o.dst Rd.und⟩
def YR(ops:Array Oper)(i:Nat):Option Nat:=(ops[i]?).bind (·.dst)
structure Holds(ops:Array Oper)(ps:List PV)(s0:PState)(L:Nat->Prop)(s:PState):Prop where
 n:s.n=s0.n
 objs:s.objs=s0.objs
 done:∀ j t,L j->YR ops j=some t->xt s.sl t=ps[j]?
 else_:∀ t,(∀ j,L j->YR ops j≠some t)->xt s.sl t=xt s0.sl t
def Inj(ops:Array Oper):Prop:=∀ i j t,YR ops i=some t->YR ops j=some t->i=j
theorem Holds.step{ps:List PV}{s0 s:PState}{L L':Nat->Prop}(h:Holds ops ps s0 L s)(hinj:Inj ops){i:Nat}{o:Oper}{p:PV}(hi:ops[i]?=some o)(hp:ps[i]?=some p)(hL:∀ j,L' j↔L j\/j=i):Holds ops ps s0 L' (s.putD o.dst p):=by
 have hd:YR ops i=o.dst:=by simp[YR,hi]
 refine⟨by rw[uG];exact h.n,by rw[yl];exact h.objs,?_,?_⟩
 ·intro j t hj ht;rcases(hL j).1 hj with hj | rfl
  ·cases hdst:o.dst with
   | none=>exact h.done j t hj ht
   | some d=>
    simp only[PState.putD,PState.put,yC]
    by_cases e:d=t
    ·subst e;have:j=i:=hinj j i d ht (by rw[hd,hdst]);subst this;rw[if_pos rfl,hp]
    ·rw[if_neg e];exact h.done j t hj ht
  ·rw[hd] at ht;simp only[ht,PState.putD,PState.put,yC,if_true,hp]
 ·intro t ht;have h1:=h.else_ t fun j hj=>ht j ((hL j).2 (.inl hj))
  have h2:=ht i ((hL i).2 (.inr rfl));rw[hd] at h2
  cases hdst:o.dst with
  | none=>exact h1
  | some d=>
   rw[hdst] at h2;simp only[PState.putD,PState.put,yC];rw[if_neg (fun e=>h2 (by rw[e]))];exact h1
theorem Lex.at_{ops:Array Oper}(hinj:Inj ops):∀ {rest:List Oper} {s t s0:PState} {ps pre:List PV} {all:List PV} {b:Nat},Lex P ctx ops rest s ps t->all=pre++ps->pre.length=b->(∀ i,rest[i]?=ops[b+i]?)->Holds ops all s0 (· < b) s ->
  (∀ i o,rest[i]?=some o->∃ S p,all[b+i]?=some p/\Holds ops all s0 (· < b+i) S/\Yields P ctx ops o S p)/\Holds ops all s0 (· < b+rest.length) t:=by
 intro rest
 induction rest with
 | nil=>
  intro s t s0 ps pre all b h _ _ _ hh
  cases h
  exact⟨by simp,by simpa using hh⟩
 | cons o rest ih=>
  intro s t s0 ps pre all b h hall hb hops hh
  cases h with
  | @cons _ _ _ _ p ps y h=>
   have hi:ops[b]?=some o:=by have:=hops 0;simpa using this.symm
   have hp:all[b]?=some p:=by subst hall;subst hb;simp
   have hst:=hh.step hinj hi hp (L':=(· < b+1)) (fun j=>by omega);obtain⟨h1,h2⟩:=ih (b:=b+1) (pre:=pre++[p]) h (by simp[hall]) (by simp[hb]) (fun i=>by have:=hops (i+1);rw[show b+1+i=b+(i+1) by omega,<- this];simp) hst;refine⟨fun i o' ho=>?_,by rw[List.length_cons,show b+(rest.length+1)=b+1+rest.length by omega];exact h2⟩
   cases i with
   | zero=>simp at ho;subst ho;exact⟨s,p,hp,hh,y⟩
   | succ i=>
    simp at ho;obtain⟨S,q,e1,e2,e3⟩:=h1 i o' ho;exact⟨S,q,by rw[<- e1];congr 1;omega,by rw[show b+(i+1)=b+1+i by omega];exact e2,e3⟩
def UY(ops:Array Oper):Bool:=
 (List.range ops.size).all (fun i=>(List.range ops.size).all fun j=>match YR ops i,YR ops j with | some d,some e=>Nat.beq i j||!Nat.beq d e | _,_=>true) &&
 (List.range ops.size).all fun i=>match ops[i]? with
  | none=>true
  | some o=>o.after.toList.all (fun e=>Nat.blt e.on i||!Region.binds .any e) &&
   (o.looksAt ops).all fun t=>(List.range ops.size).all fun j=>match YR ops j with
    | some d=>bif Nat.beq d t then Nat.blt j i&&o.after.toList.any (fun e=>Region.binds .any e&&Nat.beq e.on j) else true
    | none=>true
theorem Jr(h:UY ops=true):Inj ops:=by
 intro i j t hi hj;simp only[UY,Bool.and_eq_true,List.all_eq_true,List.mem_range] at h;have hlt:∀ {k t},YR ops k=some t->k < ops.size:=fun {k t} hk=>by
  unfold YR at hk
  cases ho:ops[k]? with
  | none=>rw[ho] at hk;simp at hk
  | some o=>exact(Array.getElem?_eq_some_iff.1 ho).1
 have:=h.1 i (hlt hi) j (hlt hj);rw[hi,hj] at this;simpa using this
theorem yRa(h:UY ops=true){i:Nat}{o:Oper}(hi:ops[i]?=some o):∀ e∈o.after,Region.binds .any e=true->e.on < i:=by
 simp only[UY,Bool.and_eq_true,List.all_eq_true,List.mem_range] at h;have:=h.2 i (Array.getElem?_eq_some_iff.1 hi).1;rw[hi] at this;simp only[Bool.and_eq_true,List.all_eq_true] at this;intro e he hb;have:=this.1 e (by simpa using he);simpa[Nat.blt_eq,hb] using this
theorem zLa(h:UY ops=true){i:Nat}{o:Oper}(hi:ops[i]?=some o){t:Nat}(ht:t∈o.looksAt ops){j:Nat}(hj:YR ops j=some t):j < i/\∃ e∈o.after,Region.binds .any e=true/\e.on=j:=by
 simp only[UY,Bool.and_eq_true,List.all_eq_true,List.mem_range] at h;have h1:=h.2 i (Array.getElem?_eq_some_iff.1 hi).1;rw[hi] at h1;simp only[Bool.and_eq_true,List.all_eq_true,List.mem_range] at h1;have hlt:j < ops.size:=by
  unfold YR at hj
  cases ho:ops[j]? with
  | none=>rw[ho] at hj;simp at hj
  | some o=>exact(Array.getElem?_eq_some_iff.1 ho).1
 have h2:=h1.2 t ht j hlt;rw[hj] at h2;simp only[Nat.beq_refl,cond_true,Bool.and_eq_true,List.any_eq_true] at h2;obtain⟨h3,e,he,h4,h5⟩:=h2;exact⟨by simpa[Nat.blt_eq] using h3,e,by simpa using he,h4,Nat.eq_of_beq_eq_true h5⟩
theorem vU{listed:Array Bool}{i:Nat}:i∈Region.ready .any ops listed↔i < ops.size/\listed.getD i true=false/\∃ o,ops[i]?=some o/\∀ e∈o.after,Region.binds .any e=true->listed.getD e.on false=true:=by
 unfold Region.ready;simp only[List.mem_filter,List.mem_range,Bool.and_eq_true,Bool.not_eq_true'];refine and_congr_right fun hlt=>and_congr_right fun _=>?_
 cases ho:ops[i]? with
 | none=>simp
 | some o=>
  simp only[Option.map_some,Option.getD_some,Array.all_eq_true_iff_forall_mem,Option.some.injEq,exists_eq_left'];refine forall_congr' fun e=>forall_congr' fun _=>?_
  cases hb:Region.binds .any e <;> simp
theorem VF{l:List Bool}:∀ {i:Nat},l[i]?=some false->(l.set i true).count false+1=l.count false:=by
 induction l with
 | nil=>intro i h;simp at h
 | cons x r ih=>
  intro i h
  cases i with
  | zero=>simp at h;subst h;simp
  | succ i=>
   simp at h;have:=ih h;simp only[List.set_cons_succ,List.count_cons];omega
theorem vCa{ps:List PV}{s0 S:PState}{Qx:Exit->Act->World->Prop}(hB:UY ops=true)(_hlen:ps.length=ops.size)
  (hY:∀ i o,ops[i]?=some o->∃ T p,ps[i]?=some p/\Holds ops ps s0 (· < i) T/\Yields P ctx ops o T p) (hS:Holds ops ps s0 (· < ops.size) S)
  (hQ:∀ a w,Rel ctx S a w->Qx .normal a w):∀ (fuel:Nat) (listed:Array Bool) (s:PState) (a:Act) (w:World),listed.size=ops.size->listed.toList.count false<=fuel->Holds ops ps s0 (fun j=>listed.getD j false=true) s->Rel ctx s a w ->
   wpAny P .any ops Qx fuel listed a w:=by
 have hinj:=Jr hB
 -- all are listed where none is ready
 have hall:∀ listed:Array Bool,listed.size=ops.size->Region.ready .any ops listed=[]->∀ i,i < ops.size->listed.getD i false=true:=by
  intro listed hsz hr i
  induction i using Nat.strongRecOn with
  | _ i ih=>
   intro hi
   cases hb:listed.getD i false with
   | true=>rfl
   | false=>
    have hlt:i < listed.size:=by omega
    have hmem:i∈Region.ready .any ops listed:=by
     refine vU.2 ⟨hi,?_,ops[i],Array.getElem?_eq_getElem hi,fun e he hbe=>?_⟩
     ·simp[Array.getD,hlt] at hb ⊢;exact hb
     ·have:=yRa hB (Array.getElem?_eq_getElem hi) e he hbe;exact ih e.on this (by omega)
    rw[hr] at hmem
    cases hmem
 have hfin:∀ (listed:Array Bool) (s:PState) (a:Act) (w:World),listed.size=ops.size->Holds ops ps s0 (fun j=>listed.getD j false=true) s->Rel ctx s a w->Region.ready .any ops listed=[]->Qx .normal a w:=by
  intro listed s a w hsz hh hr hrdy;have ha:=hall listed hsz hrdy;have hlt:∀ {k t},YR ops k=some t->k < ops.size:=fun {k t} hk=>by
   unfold YR at hk
   cases ho:ops[k]? with
   | none=>rw[ho] at hk;simp at hk
   | some o=>exact(Array.getElem?_eq_some_iff.1 ho).1
  have hg:∀ t,xt s.sl t=xt S.sl t:=by
   intro t
   by_cases hex:∃ j,YR ops j=some t
   ·obtain⟨j,hj⟩:=hex;rw[hh.done j t (ha j (hlt hj)) hj,hS.done j t (hlt hj) hj]
   ·have hex':∀ j,YR ops j≠some t:=fun j hj=>hex ⟨j,hj⟩
    rw[hh.else_ t (fun j _=>hex' j),hS.else_ t (fun j _=>hex' j)]
  refine hQ a w (Same.sub (s:=s) (t:=S) ⟨by rw[hh.n,hS.n],fun i=>by rw[YQ,YQ,hh.n,hS.n,hg],by rw[hh.objs,hS.objs]⟩ a w hr)
 intro fuel
 induction fuel with
 | zero=>
  intro listed s a w hsz hc hh hr;have hrdy:Region.ready .any ops listed=[]:=by
   apply List.eq_nil_iff_forall_not_mem.2;intro i hi;obtain⟨h1,h2,_⟩:=vU.1 hi;have hlt:i < listed.size:=by omega
   have hm:false∈listed.toList:=by
    simp[Array.getD,hlt] at h2;rw[<- h2];simp
   have:=List.count_pos_iff.2 hm;omega
  exact⟨hrdy,hfin listed s a w hsz hh hr hrdy⟩
 | succ fuel ih=>
  intro listed s a w hsz hc hh hr;refine⟨hfin listed s a w hsz hh hr,fun i hi=>?_⟩;obtain⟨h1,h2,o,ho,he⟩:=vU.1 hi;have hlt:i < listed.size:=by omega
  have hli:listed[i]=false:=by simpa[Array.getD,hlt] using h2
  obtain⟨T,p,hp,hT,y⟩:=hY i o ho;refine y.run (hh.n.trans hT.n.symm) (hh.objs.trans hT.objs.symm) (fun t ht=>?_) ho hr fun a' w' hr'=>?_
  ·by_cases hex:∃ j,YR ops j=some t
   ·obtain⟨j,hj⟩:=hex;obtain⟨hji,e,he1,he2,he3⟩:=zLa hB ho ht hj;subst he3;rw[hh.done _ t (he e he1 he2) hj,hT.done _ t hji hj]
   ·have hex':∀ j,YR ops j≠some t:=fun j hj=>hex ⟨j,hj⟩
    rw[hh.else_ t (fun j _=>hex' j),hT.else_ t (fun j _=>hex' j)]
  ·refine ih _ _ a' w' (by simpa using hsz) ?_ (hh.step hinj ho hp (fun j=>?_)) hr'
   ·have:=VF (l:=listed.toList) (i:=i) (by simp[hlt,hli]);simp only[Array.toList_setIfInBounds];omega
   ·by_cases hj:j=i
    ·subst hj;simp[Array.getD,hlt]
    ·have:(listed.setIfInBounds i true).getD j false=listed.getD j false:=by
      simp[Array.getD_eq_getD_getElem?,Ne.symm hj]
     rw[this];simp[hj]
end
theorem PWc.regionD{P:Program}{ctx:Ctx}{Q:PQ}{s:PState}{id:Nat}{l:List Oper}(hm:P.follows .mixedOrders=true)(hB:UY l.toArray=true)(h:PQl P ctx l.toArray (Q .normal) l s):PWc P ctx (.region id l.toArray true) Q s:=by
 intro a w ⟨g,hr⟩;obtain⟨ps,t,hlex,u,hu,hsub⟩:=h.lex;have hinj:=Jr hB;have h0:Holds l.toArray ps s (· < 0) s:=⟨rfl,rfl,fun j t hj=>absurd hj (Nat.not_lt_zero _),fun _ _=>rfl⟩
 obtain⟨h1,h2⟩:=hlex.at_ hinj (all:=ps) (pre:=[]) (b:=0) (s0:=s) rfl rfl (fun i=>by simp) h0;have hpl:ps.length=l.toArray.size:=by
  have:∀ {ops:Array Oper} {l:List Oper} {s t:PState} {ps:List PV},Lex P ctx ops l s ps t->ps.length=l.length:=by
   intro ops l s t ps h
   induction h with
   | nil=>rfl
   | cons _ _ ih=>simp[ih]
  simpa using this hlex
 refine wp_region_any hm ?_;refine vCa (ps:=ps) (s0:=s) (S:=t) hB hpl (fun i o ho=>?_) (by simpa using h2) (fun a w hr=>⟨u,hu,hsub a w hr⟩) _ _ s a _ (by simp) ?_ ?_ ⟨g,hr.below (Below.refl _ w).drew⟩
 ·obtain⟨S,p,e1,e2,e3⟩:=h1 i o (by simpa using ho);exact⟨S,p,by simpa using e1,by simpa using e2,e3⟩
 ·simp
 ·refine⟨rfl,rfl,fun j t hj=>?_,fun _ _=>rfl⟩;simp[Array.getD] at hj
theorem xY{o:Oper}{s s':PState}(he:∀ {x q},xC o x=true->s.ev x=some q->s'.ev x=some q):∀ {xs:List Operand} {ps:List PV},xs.all (xC o)=true->s.evs xs=some ps->s'.evs xs=some ps
 | [],ps,_,h=>h
 | x::r,ps,hr,h=>by
  simp only[List.all_cons,Bool.and_eq_true] at hr;unfold PState.evs at h ⊢
  cases h1:s.ev x <;> cases h2:s.evs r <;> simp[h1,h2] at h
  rw[he hr.1 h1,xY he hr.2 h2];simp[h]
theorem w4a{o:Oper}{s s':PState}(he:∀ {x q},xC o x=true->s.ev x=some q->s'.ev x=some q):∀ {xs:List (Nat×Operand)} {ps:List (Nat×PV)},xs.all (fun x=>xC o x.2)=true->s.evp xs=some ps->s'.evp xs=some ps
 | [],ps,_,h=>h
 | (i,x)::r,ps,hr,h=>by
  simp only[List.all_cons,Bool.and_eq_true] at hr;unfold PState.evp at h ⊢
  cases h1:s.ev x <;> cases h2:s.evp r <;> simp[h1,h2] at h
  rw[he hr.1 h1,w4a he hr.2 h2];simp[h]
section
variable{P:Program}{ctx:Ctx}{s:PState}
variable{dst:Option Tmp}{ty:TypeId}{pos:String}{after:Array Edge}{gd:Option (Nat×Bool)}
theorem RelG.newData{g:zb}{a:Act}{w:World}(hg:RelG ctx g s a w){e k cap:Nat}{l:List (List DV)}{cur:List Value}(hlc:l.length<=cap)(hcap:cap<=maxLen)(hcs:cur.length=cap*k)
  (hk:∀ (i:Nat) (cs:List DV),l[i]?=some cs->cs.length=k) (hr:∀ (i:Nat) (cs:List DV) (j:Nat) (x:DV),l[i]?=some cs->cs[j]?=some x->∃ u,cur[i*k+j]?=some u/\DRd w (zk ctx g s.objs) x u) :
  Rel ctx (s.putD dst (.d (.sl l))) (a.put dst (.slice (some ⟨w.heap.size,0,none⟩) l.length cap)) (w.alloc (.cells cur.toArray e)):=by
 have hb:=Below.alloc1 w (.cells cur.toArray e);have hg':=hg.below hb;refine⟨g,hg'.put dst (.d ?_)⟩;have hst:yV w (w.alloc (.cells cur.toArray e)) (zk ctx g s.objs):=⟨hb.size,fun b _ hlt=>hb.block b hlt⟩
 refine .sl l w.heap.size 0 cap k (fun i j=>cur.getD (i*k+j) undef) hlc hcap (Xb hg (.inr (Nat.le_refl _))) (by simp) hk ?_ ?_
 ·intro i j hi hj;have hlt:i*k+j < cur.length:=by rw[hcs];exact vl (by omega) hj
  rw[zU (heap_alloc_new w _)];simp[hlt]
 ·intro i cs j x hi hx;obtain⟨u,hu,hd⟩:=hr i cs j x hi hx;have e:cur.getD (i*k+j) undef=u:=by simp[List.getD,hu]
  show DRd _ _ x (cur.getD (i*k+j) undef);rw[e];exact hd.keep hst (fun b hb _=>hb)
theorem WV{t e k bs:Nat}(hE:ElemOK P t e k bs){xs:List Operand}{us:List (List Value)}{a:Act}(hul:us.length=xs.length)(h2:∀ (i:Nat) (x:Operand) (u:List Value),xs[i]?=some x->us[i]?=some u->(a.eval x).cells=u.toArray/\u.length=k)
  (hsmall:xs.length*k<=16777216) (w:World) :
  (Instr.buildSlice t xs.length ((qd 0 xs).toArray.map fun(i,x)=>(i,a.eval x))).run P w=.ok (.slice (some ⟨w.heap.size,0,none⟩) xs.length xs.length) (w.alloc (.cells us.flatten.toArray e))/\us.flatten.length=xs.length*k/\∀ u∈us,u.length=k:=by
 obtain⟨i,z,hi,hz,hsize,hbytes,hzs⟩:=hE.i;have huk:∀ u∈us,u.length=k:=fun u hu=>by
  obtain⟨j,hj,rfl⟩:=List.getElem_of_mem hu;exact(h2 j (xs[j]'(by omega)) us[j] (List.getElem?_eq_getElem (by omega)) (List.getElem?_eq_getElem hj)).2
 have hfl:us.flatten.length=xs.length*k:=by
  rw[<- hul];clear hul h2
  induction us with
  | nil=>simp
  | cons u r ih=>simp[ih (fun v hv=>huk v (by simp[hv])),huk u (by simp),Nat.add_mul];omega
 refine⟨?_,hfl,huk⟩;have e1:((qd 0 xs).toArray.map fun(i,x)=>(i,a.eval x)).toList=qd 0 (xs.map a.eval):=by simp;exact qe a.eval xs 0
 have hfill:∀ zz:List Value,zz.length=xs.length*k->Instr.fill (fun i=>some (i*k,k)) zz.toArray (qd 0 (xs.map a.eval))=some us.flatten.toArray:=fun zz hzz=>by
  have:=jO (k:=k) (xs.map a.eval) us 0 [] zz (by simp[hul]) (fun j v u hv hu=>by
   simp at hv;obtain⟨x,hx,rfl⟩:=hv;exact h2 j x u hx hu) (by simp) (by simpa using hzz)
  simpa using this
 have hs':∀ w,(sizeOf e).run P w=.ok k w:=hE.sizeOf;unfold Instr.buildSlice;simp only[Sem.run_bind,run_underlying hE.u,Result.andThen_ok,hs',e1];have n1:¬ (xs.length*k > 2 ^ 24):=by omega
 simp only[n1,if_false]
 by_cases h0:xs.length*k=0
 ·have hz0:=hfill [] (by simp[h0]);have e0:(Array.range 0).map (fun _:Nat=>(default:Value))=#[]:=by simp[Array.range_zero']
  simp[h0,hz0,newRow,e0]
 ·have hzz:((Array.range (xs.length*k)).map fun x=>z.cells[x % z.cells.size]!).toList.length=xs.length*k:=by simp
  have:=hfill _ hzz;simp only[Array.toArray_toList] at this;simp[h0,zeroValue,typeInfo,hi,hz,this,newRow]
theorem LR.buildSliceD{n k bs:Nat}{t e:TypeId}{parts:Array (Nat×Operand)}(xs:List Operand){l:List (List DV)}(hE:ElemOK P t e k bs)(hparts:parts=(qd 0 xs).toArray)(hn:n=xs.length)(hel:Elems s k xs l)(hsmall:n*k<=16777216)(hk0:0 < k) :
  Local P ctx ⟨dst,.buildSlice t n parts,ty,pos,after,gd⟩ s (s.putD dst (.d (.sl l))):=
 yW (o:=⟨dst,.buildSlice t n parts,ty,pos,after,gd⟩) fun a w g hg=>by
  obtain⟨us,h1,h2,h3,h4⟩:=hel.real hg;subst hparts;subst hn;have hll:l.length=xs.length:=hel.len;obtain⟨hrun,hfl,huk⟩:=WV (P:=P) hE h1 h2 hsmall w;have hres:=hg.newData (dst:=dst) (e:=e) (k:=k) (cap:=xs.length) (l:=l) (cur:=us.flatten) (by omega) (by unfold maxLen;have:xs.length<=16777216:=Nat.le_trans (Nat.le_mul_of_pos_right _ hk0) hsmall;omega) hfl hel.each (fun i cs j x hi hx=>by
   obtain⟨u,v,e1,e2,e3⟩:=h4 i cs j x hi hx;exact⟨v,qf us i j u v huk e1 e2,e3⟩)
  rw[hll] at hres;exact⟨_,_,by simp only[execOp,Sem.run_bind,hrun,Result.andThen_ok,Sem.run_pure],hres⟩
end
end Go.Ep
namespace Go.Ep
theorem qS : type_of% @PQl.step:=@PQl.step
theorem qF : type_of% @PQl.guardF:=@PQl.guardF
theorem qT : type_of% @PQl.guardT:=@PQl.guardT
theorem qU : type_of% @PQl.guardU:=@PQl.guardU
theorem qN : type_of% @PQl.nil:=@PQl.nil
theorem wD : type_of% @PWc.regionD:=@PWc.regionD
theorem kF{P:Program}{ctx:Ctx}{ops:Array Oper}{Q:PState->Prop}{s:PState}{o:Oper}{rest:List Oper}{j d:Nat}{b c:Bool}(h:PQl P ctx ops Q rest (s.putD o.dst .und))(hg:o.guard=some (j,b):=by exact rfl)(hd:(ops[j]?).bind (·.dst)=some d:=by exact rfl)(hs:s.at d=some (.d (.v (.bool c))):=by exact rfl)(hbc:c≠b:=by decide):PQl P ctx ops Q (o::rest) s:=PQl.guardF hg hd hs hbc h
theorem kU{P:Program}{ctx:Ctx}{ops:Array Oper}{Q:PState->Prop}{s:PState}{o:Oper}{rest:List Oper}{j d:Nat}{b:Bool}(h:PQl P ctx ops Q rest (s.putD o.dst .und))(hg:o.guard=some (j,b):=by exact rfl)(hd:(ops[j]?).bind (·.dst)=some d:=by exact rfl)(hs:s.at d=some .und:=by exact rfl):PQl P ctx ops Q (o::rest) s:=PQl.guardU hg hd hs h
def DL9(P:Program)(ctx:Ctx)(o:Oper)(s:PState)(p:PV):Prop:=∀ s':PState,(∀ {x:Operand} {q:PV} (_:xC o x=true:=by exact rfl) (_:s.ev x=some q:=by exact rfl),s'.ev x=some q)->(∀ {id:Nat} {ob:Ob},look s.objs id=some ob->look s'.objs id=some ob)->Local P ctx o s' (s'.putD o.dst p)
theorem qs{P:Program}{ctx:Ctx}{ops:Array Oper}{Q:PState->Prop}{s:PState}{o:Oper}{rest:List Oper}{p:PV}(hl:DL9 P ctx o s p)(h:PQl P ctx ops Q rest (s.putD o.dst p))(hg:o.guard=none:=by exact rfl):PQl P ctx ops Q (o::rest) s:=PQl.step hl hg h
theorem rdM{dst:Option Tmp}{x:Operand}{ty:TypeId}{pos:String}{after:Array Edge}{gd:Option (Nat×Bool)}:xC ⟨dst,.move x,ty,pos,after,gd⟩ x=true:=by cases x <;> simp[xC,Op.operands]
theorem qm{P:Program}{ctx:Ctx}{ops:Array Oper}{Q:PState->Prop}{s:PState}{rest:List Oper}{dst:Option Tmp}{ty:TypeId}{pos:String}{after:Array Edge}{gd:Option (Nat×Bool)}{x:Operand}{p:PV}(h:PQl P ctx ops Q rest (s.putD dst p))(hx:s.ev x=some p:=by exact rfl)(hg:gd=none:=by exact rfl):PQl P ctx ops Q (⟨dst,.move x,ty,pos,after,gd⟩::rest) s:=PQl.step (fun _ he _=>LR.move (he rdM hx)) hg h
theorem qt{P:Program}{ctx:Ctx}{ops:Array Oper}{Q:PState->Prop}{s:PState}{o:Oper}{rest:List Oper}{p:PV}{j d:Nat}{b:Bool}(hl:DL9 P ctx o s p)(h:PQl P ctx ops Q rest (s.putD o.dst p))(hg:o.guard=some (j,b):=by exact rfl)(hd:(ops[j]?).bind (·.dst)=some d:=by exact rfl)(hs:s.at d=some (.d (.v (.bool b))):=by exact rfl):PQl P ctx ops Q (o::rest) s:=PQl.guardT hl hg hd hs h
end Go.Ep
namespace Go.Ep
open Go.RowKit
section
variable{P:Program}{ctx:Ctx}{s:PState}
variable{dst:Option Tmp}{ty:TypeId}{pos:String}{after:Array Edge}{gd:Option (Nat×Bool)}
theorem VG(a b:ByteArray):(a.toList==b.toList)=decide (a=b):=by
 rw[ByteArray.toList_eq,ByteArray.toList_eq];obtain⟨⟨x⟩⟩:=a;obtain⟨⟨y⟩⟩:=b
 by_cases h:x=y
 ·subst h;simp
 ·have h2:¬ (⟨⟨x⟩⟩:ByteArray)=⟨⟨y⟩⟩:=fun e=>h (by cases e;rfl)
  simp[h,h2]
theorem LR.eqlStr{x y:Operand}{m n:ByteArray}{t t':TypeId}(hx:s.ev x=some (.d (.v (.string m))))(hy:s.ev y=some (.d (.v (.string n)))) :
  Local P ctx ⟨dst,.binOp .eql t x y t',ty,pos,after,gd⟩ s (s.putD dst (.d (.v (.bool (decide (m=n)))))):=
 zG (o:=⟨dst,.binOp .eql t x y t',ty,pos,after,gd⟩) fun a w _ hg=>⟨_,by simp[execOp,Vz hg hx,Vz hg hy,eqGuard_at_string,binOp_string_eql,VG],.d (.v _ rfl)⟩
theorem LR.neqStr{x y:Operand}{m n:ByteArray}{t t':TypeId}(hx:s.ev x=some (.d (.v (.string m))))(hy:s.ev y=some (.d (.v (.string n)))) :
  Local P ctx ⟨dst,.binOp .neq t x y t',ty,pos,after,gd⟩ s (s.putD dst (.d (.v (.bool (!decide (m=n)))))):=
 zG (o:=⟨dst,.binOp .neq t x y t',ty,pos,after,gd⟩) fun a w _ hg=>⟨.bool (!decide (m=n)),by
  have:(binOp .neq t (.string m) (.string n))=pure (.bool (!(m.toList==n.toList))):=by simp[binOp,Op.stringOp]
  simp[execOp,Vz hg hx,Vz hg hy,eqGuard_at_string,this,VG],.d (.v _ rfl)⟩
theorem ySa{t:TypeId}(hu:P.underlying t=some .bool)(m n:Bool)(w:World):(binOp .eql t (.bool m) (.bool n)).run P w=.ok (.bool (m==n)) w/\(binOp .neq t (.bool m) (.bool n)).run P w=.ok (.bool (!(m==n))) w:=by
 constructor <;> simp[binOp,Op.equal,Op.maxDepth,run_equalIn_bool' w 9999 t m n hu]
theorem LR.eqlBool{x y:Operand}{m n:Bool}{t t':TypeId}(hu:P.underlying t=some .bool)(hx:s.ev x=some (.d (.v (.bool m))))(hy:s.ev y=some (.d (.v (.bool n)))) :
  Local P ctx ⟨dst,.binOp .eql t x y t',ty,pos,after,gd⟩ s (s.putD dst (.d (.v (.bool (m==n))))):=
 zG (o:=⟨dst,.binOp .eql t x y t',ty,pos,after,gd⟩) fun a w _ hg=>⟨.bool (m==n),by simp[execOp,Vz hg hx,Vz hg hy,eqGuard_at_bool,(ySa hu m n w).1],.d (.v _ rfl)⟩
def vals : List PV->Option (List Value)
 | []=>some []
 | .d (.v x)::r=>match vals r with | some l=>some (x::l) | none=>none
 | _::_=>none
theorem xGa : ∀ {cs:List PV} {l:List Value},vals cs=some l->cs=l.map fun x=>.d (.v x)
 | [],l,h=>by simp[vals] at h;subst h;rfl
 | .d (.v x)::r,l,h=>by
  unfold vals at h
  cases hr:vals r with
  | none=>simp[hr] at h
  | some l'=>simp[hr] at h;subst h;simp[xGa hr]
 | .d (.sl _)::_,_,h=>by simp[vals] at h
 | .junk::_,_,h=>by simp[vals] at h
 | .und::_,_,h=>by simp[vals] at h
 | .agg _::_,_,h=>by simp[vals] at h
 | .tup _::_,_,h=>by simp[vals] at h
 | .ref _ _::_,_,h=>by simp[vals] at h
 | .row _ _::_,_,h=>by simp[vals] at h
 | .rp _ _ _ _::_,_,h=>by simp[vals] at h
 | .pc _ _ _ _::_,_,h=>by simp[vals] at h
 | .ep _ _::_,_,h=>by simp[vals] at h
 | .mp _::_,_,h=>by simp[vals] at h
 | .md _ _ _::_,_,h=>by simp[vals] at h
theorem Rd.vals{w:World}{g:zb}{S:Nat->Prop}{cs:List PV}{l:List Value}{u:Value}(h:Rd w g S (.agg cs) u)(hv:Ep.vals cs=some l):u=.agg l.toArray:=by
 cases h with
 | agg _ us hl hr h1=>
  have e:=xGa hv;subst e
  congr 2
  apply List.ext_getElem?;intro i;simp at hl
  by_cases hi:i < us.length
  ·have hi2:i < l.length:=by omega
   have:=hr i (.d (.v l[i])) us[i] (by simp[hi2]) (List.getElem?_eq_getElem hi);rw[List.getElem?_eq_getElem hi,List.getElem?_eq_getElem hi2,this.of_v]
  ·rw[List.getElem?_eq_none (by omega),List.getElem?_eq_none (by omega)]
def wEa(P:Program)(t:TypeId)(us vs:List Value)(b:Bool):Prop:=P.eqGuardType P.depth t=false/\∀ w,(Op.equalIn 10000 t (.agg us.toArray) (.agg vs.toArray)).run P w=.ok b w
theorem LR.eqlAgg{x y:Operand}{ps qs:List PV}{us vs:List Value}{b:Bool}{t t':TypeId}(hx:s.ev x=some (.agg ps))(hy:s.ev y=some (.agg qs))(hu:vals ps=some us)(hv:vals qs=some vs)(he:wEa P t us vs b) :
  Local P ctx ⟨dst,.binOp .eql t x y t',ty,pos,after,gd⟩ s (s.putD dst (.d (.v (.bool b)))):=
 zG (o:=⟨dst,.binOp .eql t x y t',ty,pos,after,gd⟩) fun a w _ hg=>⟨.bool b,by
  simp only[execOp,(hg.ev hx).vals hu,(hg.ev hy).vals hv,Sem.run_bind,run_eqGuard_agg w _ _ _ _ _ _ he.1,Result.andThen_ok,run_eql_struct,he.2,Sem.run_pure],.d (.v _ rfl)⟩
theorem LR.neqAgg{x y:Operand}{ps qs:List PV}{us vs:List Value}{b:Bool}{t t':TypeId}(hx:s.ev x=some (.agg ps))(hy:s.ev y=some (.agg qs))(hu:vals ps=some us)(hv:vals qs=some vs)(he:wEa P t us vs b) :
  Local P ctx ⟨dst,.binOp .neq t x y t',ty,pos,after,gd⟩ s (s.putD dst (.d (.v (.bool (!b))))):=
 zG (o:=⟨dst,.binOp .neq t x y t',ty,pos,after,gd⟩) fun a w _ hg=>⟨.bool (!b),by
  simp only[execOp,(hg.ev hx).vals hu,(hg.ev hy).vals hv,Sem.run_bind,run_eqGuard_agg w _ _ _ _ _ _ he.1,Result.andThen_ok,run_neq_struct,he.2,Sem.run_pure],.d (.v _ rfl)⟩
theorem LR.convInt{x:Operand}{k k':IntKind}{n m:Int}{src t:TypeId}(hd:P.underlying t=some (.int k'))(hs:(P.underlying src).isSome=true)(hx:s.ev x=some (.d (.v (.int k n))))(hm:k'.wrap n=m) :
  Local P ctx ⟨dst,.convert src t x,ty,pos,after,gd⟩ s (s.putD dst (.d (.v (.int k' m)))):=
 zG (o:=⟨dst,.convert src t x,ty,pos,after,gd⟩) fun a w _ hg=>⟨.int k' m,by
  subst hm;obtain⟨u,hu⟩:=Option.isSome_iff_exists.1 hs;simp[execOp,wq hg hx,convert,run_underlying hd,run_underlying hu,Conv.intToInt,Result.andThen],.d (.v _ rfl)⟩
end
end Go.Ep
namespace Go.Ep
section
variable{P:Program}{ctx:Ctx}{Q:PQ}{s:PState}
theorem PWc.frz{c:Code}{id n k:Nat}{e:TypeId}{l:List (List DV)}(js:List Nat)(hK:∀ b,ctx.K b->ctx.S b)(hjs:AllRow s id n js)(hl:look s.objs id=some (.row e k l))(hn:l.length=n)(h:PWc P ctx c Q (s.frz id l js)):PWc P ctx c Q s:=
 PWc.sub (Sub.frz js hK hl hn hjs.get) h
theorem PWc.re{c:Code}{n:Nat}{tl:List (Nat×PV)}{to:List (Nat×Ob)}(hn:s.n=n)(h:Fgt s tl)(ho:OFgt s.objs to)(k:PWc P ctx c Q ⟨n,tl,to⟩):PWc P ctx c Q s:=PWc.sub (Sub.of hn h ho) k
theorem LR.lenMap{dst:Option Tmp}{ty:TypeId}{pos:String}{after:Array Edge}{gd:Option (Nat×Bool)}{α:Type}{enc:α->List DV}{L:List α}{x:Operand}{t e:TypeId}(hu:P.underlying t=some (.slice e))(hx:s.ev x=some (.d (.sl (L.map enc)))) :
  Local P ctx ⟨dst,.call ⟨.builtin .len,#[x],#[t]⟩,ty,pos,after,gd⟩ s (s.putD dst (.d (.v (.int .i64 L.length)))):=by
 have:=LR.lenSl (P:=P) (ctx:=ctx) (dst:=dst) (ty:=ty) (pos:=pos) (after:=after) (gd:=gd) hu hx
 rwa [List.length_map] at this
end
end Go.Ep
namespace Go.Ep
theorem lM : type_of% @LR.lenMap:=@LR.lenMap
theorem wz{P:Program}{ctx:Ctx}{Q:PQ}{s:PState}{c:Code}{n:Nat}{tl:List (Nat×PV)}{to:List (Nat×Ob)}(k:PWc P ctx c Q ⟨n,tl,to⟩)(hn:s.n=n:=by exact rfl)(h:Fgt s tl:=by repeat' constructor)(ho:OFgt s.objs to:=by repeat' constructor):PWc P ctx c Q s:=PWc.re hn h ho k
end Go.Ep
namespace Go.Ep
open Go.RowKit
abbrev Mp:=List (List Int×List DV)
def xE(ns:List Int):Mp->Nat->Option Nat
 | [],_=>none
 | (m,_)::r,i=>if m=ns then some i else xE ns r (i+1)
def JZ : Mp->List Int->Option (List DV)
 | [],_=>none
 | (m,cs)::r,ns=>if m=ns then some cs else JZ r ns
def wFa : Mp->List Int->List DV->Mp
 | [],ns,v=>[(ns,v)]
 | (m,cs)::r,ns,v=>if m=ns then (m,v)::r else (m,cs)::wFa r ns v
def mdel : Mp->List Int->Mp
 | [],_=>[]
 | (m,cs)::r,ns=>if m=ns then r else (m,cs)::mdel r ns
def bset(m:Mp)(ns:List Int)(bs:List Nat)(ck:Nat):List Nat:=match JZ m ns with | some _=>bs | none=>bs++[ck]
def vDa(m:Mp)(ns:List Int)(ck:Nat):Nat:=match JZ m ns with | some _=>ck | none=>ck+1
def yIa : List IntKind->List Int->PV
 | [k],[n]=>.d (.v (.int k n))
 | ks,ns=>.agg (List.zipWith (fun k n=>.d (.v (.int k n))) ks ns)
def elP(ag:Bool)(cs:List DV):PV:=match ag with
 | true=>.agg (cs.map .d)
 | false=>match cs with | x::_=>.d x | []=>.junk
theorem XC(ns:List Int):∀ (m:Mp) (i j:Nat),xE ns m i=some j->∃ k,j=i+k/\∃ cs,m[k]?=some (ns,cs)/\JZ m ns=some cs
 | [],i,j,h=>by simp[xE] at h
 | (n,cs)::r,i,j,h=>by
  unfold xE at h
  by_cases e:n=ns
  ·subst e;rw[if_pos rfl] at h;cases h;exact⟨0,rfl,cs,rfl,by simp[JZ]⟩
  ·rw[if_neg e] at h;obtain⟨k,h1,cs',h2,h3⟩:=XC ns r (i+1) j h;exact⟨k+1,by omega,cs',by simpa using h2,by simp[JZ,e,h3]⟩
theorem Xc(ns:List Int):∀ (m:Mp) (i:Nat),xE ns m i=none->JZ m ns=none
 | [],i,h=>rfl
 | (n,cs)::r,i,h=>by
  unfold xE at h
  by_cases e:n=ns
  ·rw[if_pos e] at h;cases h
  ·rw[if_neg e] at h;simp[JZ,e,Xc ns r (i+1) h]
theorem vI(ns:List Int):∀ (m:Mp) (i:Nat),xE ns m i=(xE ns m 0).map (i+·)
 | [],i=>rfl
 | (n,cs)::r,i=>by
  unfold xE
  by_cases e:n=ns
  ·simp[e]
  ·rw[if_neg e,if_neg e,vI ns r (i+1),vI ns r 1]
   cases xE ns r 0 with
   | none=>rfl
   | some j=>simp;omega
structure KeyOK(P:Program)(kt:TypeId)(ks:List IntKind):Prop where
 check:∀ (w:World) (e:Bool) (ns:List Int),ns.length=ks.length->(Instr.checkKey e 10000 kt (uq ks ns)).run P w=.ok () w
 find:∀ (w:World) (ns:List Int) (m:Mp) (es:List MapEntry),ns.length=ks.length->es.length=m.length->(∀ (i:Nat) (e:MapEntry) (n:List Int) (c:List DV),es[i]?=some e->m[i]?=some (n,c)->e.key=uq ks n/\n.length=ks.length) ->
  (Instr.findKey kt (uq ks ns) es).run P w=.ok ((xE ns m 0).bind fun i=>(es[i]?).map fun e=>(i,e.val)) w
section
variable{P:Program}
theorem jP(k:IntKind)(n:Int):∀ (m:Mp) (es:List MapEntry) (i:Nat),es.length=m.length->(∀ (i:Nat) (e:MapEntry) (n:List Int) (c:List DV),es[i]?=some e->m[i]?=some (n,c)->e.key=uq [k] n/\n.length=1) ->
  Instr.findNow (.int k) (.int k n) es i=some ((xE [n] m 0).bind fun j=>(es[j]?).map fun e=>(i+j,e.val))
 | [],es,i,hl,_=>by
  have:es=[]:=List.eq_nil_of_length_eq_zero hl;subst this;simp[Instr.findNow,xE]
 | (ns,c)::m,[],i,hl,_=>by simp at hl
 | (ns,c)::m,e::es,i,hl,h=>by
  obtain⟨hk,hn⟩:=h 0 e ns c rfl rfl;obtain⟨a,rfl⟩:∃ a,ns=[a]:=by
   match ns,hn with
   | [a],_=>exact⟨a,rfl⟩
  have ih:=jP k n m es (i+1) (by simpa using hl) (fun j e' n' c' h1 h2=>h (j+1) e' n' c' (by simpa using h1) (by simpa using h2));unfold Instr.findNow;simp only[hk,uq,Instr.sameNow,if_true]
  by_cases e1:n=a
  ·subst e1;simp[xE]
  ·have e2:¬ [a]=[n]:=fun h=>e1 (by simpa using h.symm)
   have e3:(n==a)=false:=by simpa using e1
   simp only[e3];rw[ih];show some _=some ((if [a]=[n] then some 0 else xE [n] m (0+1)).bind _);rw[if_neg e2,vI [n] m (0+1)]
   cases xE [n] m 0 with
   | none=>rfl
   | some j=>
    simp only[Option.map_some,Option.bind_some,Nat.zero_add,Nat.add_comm 1 j,List.getElem?_cons_succ]
    cases es[j]? with
    | none=>rfl
    | some x=>simp;omega
theorem KeyOK.int{kt:TypeId}{k:IntKind}(hu:P.underlying kt=some (.int k)):KeyOK P kt [k]:=by
 refine⟨fun w e ns hn=>?_,fun w ns m es hn hl h=>?_⟩
 ·obtain⟨a,rfl⟩:∃ a,ns=[a]:=by
   match ns,hn with
   | [a],_=>exact⟨a,rfl⟩
  exact MapKept.run_checkKey (k:=.int k a) hu rfl e 9999
 ·obtain⟨a,rfl⟩:∃ a,ns=[a]:=by
   match ns,hn with
   | [a],_=>exact⟨a,rfl⟩
  have:=jP k a m es 0 hl (fun i e n c h1 h2=>by have:=h i e n c h1 h2;exact⟨this.1,by simpa using this.2⟩);simp[uq,Instr.findKey,run_underlying hu,this]
theorem xHa{w:World}{g:zb}{S:Nat->Prop}{ag:Bool}{cs:List DV}{us:List Value}(hl:us.length=cs.length)(h1:ag=false->cs.length=1)(ho:∀ u∈us,u.oneCell'=true)(hr:∀ (j:Nat) (x:DV) (u:Value),cs[j]?=some x->us[j]?=some u->DRd w S x u) :
  Rd w g S (elP ag cs) (elV ag us):=by
 cases ag with
 | true=>
  refine .agg _ us (by simp[hl]) (fun i p u hp hu=>?_) ho;rw[List.getElem?_map] at hp
  cases hx:cs[i]? with
  | none=>simp[hx] at hp
  | some x=>simp[hx] at hp;subst hp;exact .d (hr i x u hx hu)
 | false=>
  match cs,us,h1 rfl,hl with
  | [x],[u],_,_=>exact .d (hr 0 x u rfl rfl)
theorem yTa(w:World)(g:zb)(S:Nat->Prop)(ks:List IntKind)(ns:List Int):Rd w g S (yIa ks ns) (uq ks ns):=by
 have agg:Rd w g S (.agg (List.zipWith (fun k n=>PV.d (.v (.int k n))) ks ns)) (.agg (List.zipWith Value.int ks ns).toArray):=by
  refine .agg _ (List.zipWith Value.int ks ns) (by simp) (fun i p u hp hu=>?_) ?_
  ·rw[List.getElem?_zipWith] at hp hu
   cases h1:ks[i]? <;> cases h2:ns[i]? <;> simp[h1,h2] at hp hu
   subst hp;subst hu;exact .d (.v _ rfl)
  ·intro u hu;obtain⟨i,hi,rfl⟩:=List.getElem_of_mem hu;simp
   rfl
 rcases ks with _ | ⟨k,_ | ⟨k2,ks⟩⟩ <;> rcases ns with _ | ⟨n,_ | ⟨n2,ns⟩⟩ <;> first | exact agg | exact .d (.v _ rfl)
theorem Zo{w:World}{g:zb}{S:Nat->Prop}{ks:List IntKind}{ns:List Int}{u:Value}(h:Rd w g S (yIa ks ns) u):u=uq ks ns:=by
 have hv:∀ (ks:List IntKind) (ns:List Int),vals (List.zipWith (fun k n=>PV.d (.v (.int k n))) ks ns)=some (List.zipWith Value.int ks ns):=by
  intro ks
  induction ks with
  | nil=>intro ns;simp[vals]
  | cons k ks ih=>intro ns;cases ns with
   | nil=>simp[vals]
   | cons n ns=>simp[vals,ih ns]
 have ha:=hv ks ns;rcases ks with _ | ⟨k,_ | ⟨k2,ks⟩⟩ <;> rcases ns with _ | ⟨n,_ | ⟨n2,ns⟩⟩ <;> first | exact Rd.vals h ha | exact h.of_v
theorem Js{w:World}{S:Nat->Prop}{g:zb}{t kt et:TypeId}{ks:List IntKind}{ag:Bool}{m:Mp}{bs:List Nat}{ck b:Nat}{es:Array MapEntry}{ns:List Int}{z:Value}{zs:List DV}(hu:P.underlying t=some (.map kt et))(K:KeyOK P kt ks)(hn:ns.length=ks.length)
  (hh:w.heap[b]?=some (.map es ck)) (hm:MapRd w S ks ag m bs ck es) (hz:∀ w,(zeroValue et).run P w=.ok z w) (hzr:Rd w g S (elP ag zs) z) (ok:Bool) :
  ∃ v,(Instr.lookup t (.map (some b)) (uq ks ns) ok).run P w=.ok (if ok then .tuple #[v,.bool (JZ m ns).isSome] else v) w/\Rd w g S (elP ag ((JZ m ns).getD zs)) v:=by
 have hf:=K.find w ns m es.toList hn (by simpa using hm.size) (fun i e n c h1 h2=>by
  obtain⟨e',us,g1,g2,g3,g4,g5,g6,g7,g8⟩:=hm.ent i n c h2;have:e'=e:=by simp at h1;rw[g1] at h1;cases h1;rfl
  subst this;exact⟨g2,g7⟩)
 cases hp:xE ns m 0 with
 | none=>
  have hg:=Xc ns m 0 hp;rw[hp] at hf;refine⟨z,?_,by rw[hg];exact hzr⟩;simp only[Instr.lookup,Sem.run_bind,run_underlying hu,Result.andThen_ok,MapKept.run_getObj_map hh,Sem.run_pure,K.check w _ ns hn,hf,Option.bind_none,hz,hg,Option.isSome_none]
 | some j=>
  obtain⟨k,h1,cs,h2,h3⟩:=XC ns m 0 j hp;have hjk:j=k:=by omega
  subst hjk;obtain⟨e,us,g1,g2,g3,g4,g5,g6,g7,g8⟩:=hm.ent j ns cs h2;rw[hp] at hf;have he:es.toList[j]?=some e:=by simpa using g1
  refine⟨e.val,?_,by rw[h3,g3];exact xHa g4 g5 g6 g8⟩;simp only[Option.bind_some,he,Option.map_some] at hf;simp only[Instr.lookup,Sem.run_bind,run_underlying hu,Result.andThen_ok,MapKept.run_getObj_map hh,Sem.run_pure,K.check w _ ns hn,hf,h3,Option.isSome_some]
theorem Jb{w:World}{t kt et:TypeId}{ks:List IntKind}{ns:List Int}{z:Value}(hu:P.underlying t=some (.map kt et))(K:KeyOK P kt ks)(hn:ns.length=ks.length)(hz:∀ w,(zeroValue et).run P w=.ok z w)(ok:Bool) :
  (Instr.lookup t (.map none) (uq ks ns) ok).run P w=.ok (if ok then .tuple #[z,.bool false] else z) w:=by
 have hf:=K.find w ns [] [] hn rfl (by simp);simp only[xE,Option.bind_none] at hf;simp only[Instr.lookup,Sem.run_bind,run_underlying hu,Result.andThen_ok,Sem.run_pure,K.check w _ ns hn,hf,hz]
end
section
variable{P:Program}{ctx:Ctx}{Q:PQ}{s:PState}
variable{dst:Option Tmp}{ty:TypeId}{pos:String}{after:Array Edge}{gd:Option (Nat×Bool)}
section
variable{x kx:Operand}{t kt et:TypeId}{ks:List IntKind}{ag:Bool}{m:Mp}{ns:List Int}{z:Value}{zs:List DV}{p:PV}
 (hu:P.underlying t=some (.map kt et)) (K:KeyOK P kt ks) (hz:∀ w,(zeroValue et).run P w=.ok z w) (hzr:∀ (w:World) (g:zb) (S:Nat->Prop),Rd w g S (elP ag zs) z) (hk:s.ev kx=some (yIa ks ns)) (hn:ns.length=ks.length) (hp:elP ag ((JZ m ns).getD zs)=p)
include hu K hz hzr hk hn hp
theorem LR.lookupO{id:Nat}{bs:List Nat}{ck:Nat}(hx:s.ev x=some (.mp id))(hl:look s.objs id=some (.map ks ag m bs ck)):Local P ctx ⟨dst,.lookup t x kx false,ty,pos,after,gd⟩ s (s.putD dst p):=
 zG (o:=⟨dst,.lookup t x kx false,ty,pos,after,gd⟩) fun a w g hg=>by
  have h:=hg.ev hx
  generalize hv:a.eval x=v at h
  cases h with
  | mpNil _ hgn=>
   cases hg.objs id _ hl with
   | map _ _ _ _ _ blk' n' es h' hh hm=>rw[hgn] at h';cases h'
  | mp _ blk n hgi=>
   cases hg.objs id _ hl with
   | map _ _ _ _ _ blk' n' es h' hh hm=>
    rw[hgi] at h';cases h';obtain⟨v,h1,h2⟩:=Js (g:=g) hu K hn hh hm hz (hzr w g _) false;refine⟨v,?_,hp▸h2⟩;simp only[execOp,hv,Zo (hg.ev hk),Sem.run_bind,h1,Result.andThen_ok,Sem.run_pure]
    rfl
theorem LR.lookupD(hx:s.ev x=some (.md ks ag m)):Local P ctx ⟨dst,.lookup t x kx false,ty,pos,after,gd⟩ s (s.putD dst p):=
 zG (o:=⟨dst,.lookup t x kx false,ty,pos,after,gd⟩) fun a w g hg=>by
  have h:=hg.ev hx
  generalize hv:a.eval x=v at h
  cases h with
  | md _ _ _ bs ck b es hS hb hh hm=>
   obtain⟨v,h1,h2⟩:=Js (g:=g) hu K hn hh hm hz (hzr w g _) false;refine⟨v,?_,hp▸h2⟩;simp only[execOp,hv,Zo (hg.ev hk),Sem.run_bind,h1,Result.andThen_ok,Sem.run_pure]
   rfl
  | mdNil=>
   refine⟨z,?_,hp▸hzr w g _⟩;simp only[execOp,hv,Zo (hg.ev hk),Sem.run_bind,Jb (w:=w) hu K hn hz false,Result.andThen_ok,Sem.run_pure]
   rfl
end
end
end Go.Ep
