/- Side texts. -/
import GoSem.Core.View
import Derived.Test.YtoilkhcaggjlmaaGreatADs1
set_option linter.unusedVariables false
set_option linter.unusedSimpArgs false
namespace Go.Ep
open Go.RowKit
def MapNew(w:World)(S:Nat->Prop)(base:Nat)(ks:List IntKind)(ag:Bool)(m:Mp)(u:Value):Prop:=
 ∃ blk es bs ck,u=.map (some blk)/\base<=blk/\w.heap[blk]?=some (.map es ck)/\MapRd w (fun b=>(S b\/base<=b)/\b≠blk) ks ag m bs ck es
def PMap(P:Program)(f:FuncId)(ps:List PV)(ks:List IntKind)(ag:Bool)(m:Mp):Prop:=
 ∀ (w:World) (S:Nat->Prop) (vs:List Value),ps.length=vs.length->(∀ (i:Nat) (p:PV) (v:Value),ps[i]?=some p->vs[i]?=some v->Rd w g0 S p v) ->
  Calls P f vs.toArray w (fun en w'=>∃ u,en=.returned u/\Below w.heap.size w w'/\MapNew w' S w.heap.size ks ag m u)
theorem PMap.fun{P:Program}{f:FuncId}{ps:List PV}{ks:List IntKind}{ag:Bool}{m:Mp}(h:PMap P f ps ks ag m):PFun P f ps (.md ks ag m):=
 fun w S vs hl hv=>(h w S vs hl hv).mono fun _ w' ⟨u,he,hb,blk,es,bs,ck,hu,h1,h2,h3⟩=>⟨u,he,hb,by
  subst hu;exact .md ks ag m bs ck blk es (.inr h1) (Array.getElem?_eq_some_iff.1 h2).1 h2 (h3.keep ⟨Nat.le_refl _,fun _ _ _=>rfl⟩ (fun b hb _=>hb.1))⟩
def EndsMap(fn:Func)(ks:List IntKind)(ag:Bool)(m:Mp):PQ:=fun en s=>(en=.normal\/en=.ret)/\∃ t id bs ck,fn.results=#[.tmp t]/\s.at t=some (.mp id)/\look s.objs id=some (.map ks ag m bs ck)
section
variable{P:Program}{ctx:Ctx}{Q:PQ}{s:PState}
variable{dst:Option Tmp}{ty:TypeId}{pos:String}{after:Array Edge}{gd:Option (Nat×Bool)}
theorem PMap.intro{f:FuncId}{fn:Func}{c:Code}{ps:List PV}{ks:List IntKind}{ag:Bool}{m:Mp}{n:Nat}{sl:List (Nat×PV)}(hf:P.funcs[f]?=some fn)(hb:fn.body=some c)(hn:fn.ntmps=n)(hsl:args 0 ps=sl)(hpn:Nat.ble ps.length n=true)
  (body:∀ ctx:Ctx,(∀ b,ctx.K b->ctx.S b)->PWc P ctx c (EndsMap fn ks ag m) ⟨n,sl,[]⟩):PMap P f ps ks ag m:=by
 intro w S vs hlen hreal
 let ctx:Ctx:=⟨w,S,fun _=>False⟩
 have hK:∀ b,¬ ctx.K b:=fun _ h=>h
 refine calls_of_wp hf hb ?_;subst hsl;have hrel:RelG ctx g0 ⟨n,args 0 ps,[]⟩ { tmps:=vs.toArray++Array.replicate (fn.ntmps - vs.toArray.size) undef,defers:=[] } w:=by
  rw[hn];exact Wh hlen hreal (by rw[<- hlen];exact Nat.le_of_ble_eq_true hpn)
 refine wp_mono (body ctx (fun b h=>(hK b h).elim) _ w ⟨g0,hrel⟩) fun en a' w' ⟨s,⟨he,t,id,bs,ck,hres,hs,hl⟩,g,hg⟩=>?_
 have hbel:Below w.heap.size w w':=⟨hg.os,hg.tape,hg.output,hg.grows,fun k hk=>hg.keep k hk (hK k)⟩
 have main:a'.defers=[]/\∃ v,(results fn a'.tmps).run P w'=.ok v w'/\(∃ u,Ending.returned v=.returned u/\Below w.heap.size w w'/\MapNew w' S w.heap.size ks ag m u):=by
  refine⟨hg.defers,_,results_tmp hres _ _ _,_,rfl,hbel,?_⟩;have hr:=hg.slots t _ hs
  generalize hv:a'.tmps.getD t undef=v at hr
  cases hr with
  | mpNil _ hgn=>
   cases hg.objs id _ hl with
   | map _ _ _ _ _ blk' n' es h' hh hm=>rw[hgn] at h';cases h'
  | mp _ blk n hgi=>
   cases hg.objs id _ hl with
   | map _ _ _ _ _ blk' n' es h' hh hm=>
    rw[hgi] at h'
    cases h'
    have hown:=hg.own id _ blk n hl hgi;exact⟨blk,es,bs,ck,rfl,hown.2.resolve_right (hK _),hh,hm.keep ⟨Nat.le_refl _,fun _ _ _=>rfl⟩ (fun b ⟨h1,h2⟩ _=>⟨h1,fun eb=>by subst eb;exact h2 id _ n hl hgi⟩)⟩
 rcases he with rfl | rfl
 ·exact main
 ·exact main
theorem PWl.callMap{ops:Array Oper}{rest:List Oper}{id:Nat}{x:Operand}{xs:List Operand}{ats:Array TypeId}{f:FuncId}{ps:List PV}{ks:List IntKind}{ag:Bool}{m:Mp}(hc:PMap P f ps ks ag m)(hx:s.ev x=some (.d (.v (.func (.func f) #[] #[]))))(he:∀ args w,(callFunc f args).run P w=.ok (.enter f args) w)
  (hps:s.evs xs=some ps) (hd:PV.isData.isDataL ps=true) (hf:s.fresh id=true) (hgd:gd=none)
  (h:∀ bs ck,bs.length=m.length->PWl P ctx ops Q rest (s.newO id (.map ks ag m bs ck) (.mp id))):PWl P ctx ops Q (⟨some id,.call ⟨.value x,xs.toArray,ats⟩,ty,pos,after,gd⟩::rest) s:=by
 rintro a w ⟨g,hg⟩;refine wpList_plain hgd fun K hK=>?_
 obtain⟨hlen,hreal⟩:=Wg hps hd hg;unfold Oper.wp;rw[xW (o:=⟨some id,.call ⟨.value x,xs.toArray,ats⟩,ty,pos,after,gd⟩) rfl (Xu hg hx) he w];rw[List.map_toArray];refine(hc w (zZ ctx g s.objs) _ hlen hreal).mono fun en w' ⟨u,he,hb,blk,es,bs,ck,hu,hbase,hh,hm⟩=>?_
 subst he;subst hu;have hlt:blk < w'.heap.size:=(Array.getElem?_eq_some_iff.1 hh).1;have hlen:bs.length=m.length:=by rw[hm.stamps];simp[hm.size]
 refine hK _ _ (h bs ck hlen _ _ ⟨upd g id (some (blk,0)),(hg.new hb hf (some (blk,0)) (fun b n e=>by cases e;exact⟨hbase,hlt⟩) (.map ks ag m bs ck) ?_).put (some id) (.mp id blk 0 (zF _ _ _))⟩);refine .map ks ag m bs ck blk 0 es (zF _ _ _) hh (hm.keep ⟨Nat.le_refl _,fun _ _ _=>rfl⟩ fun b ⟨h1,h2⟩ hblt=>?_);have hfr:=XH hg h1;refine⟨hfr.1,fun j o mm hj hgj=>?_⟩;rw[zC] at hj
 by_cases ej:j=id
 ·subst ej;rw[zF] at hgj;cases hgj;exact h2 rfl
 ·rw[if_neg ej] at hj;rw[zh ej] at hgj;exact hfr.2 j o mm hj hgj
def PState.frzM(s:PState)(id:Nat)(ks:List IntKind)(ag:Bool)(m:Mp)(js:List Nat):PState:={ n:=s.n,sl:=(s.sets (.md ks ag m) js).sl,objs:=uL id s.objs }
theorem Sub.frzM{id:Nat}{ks:List IntKind}{ag:Bool}{m:Mp}{bs:List Nat}{ck:Nat}(js:List Nat)(hK:∀ b,ctx.K b->ctx.S b)(hl:look s.objs id=some (.map ks ag m bs ck))(hjs:∀ j∈js,s.at j=some (.mp id)):Sub ctx s (s.frzM id ks ag m js):=by
 rintro a w ⟨g,h⟩;have hF:∀ b,zZ ctx g s.objs b->zZ ctx g (uL id s.objs) b:=fun b ⟨h1,h2⟩=>⟨h1,fun j o m hj hg=>by
  rw[yb] at hj
  split at hj
  ·cases hj
  ·exact h2 j o m hj hg⟩
 have hst:zx w w (zZ ctx g s.objs):=⟨Nat.le_refl _,fun _ _ _=>rfl⟩
 have hlk:∀ {j:Nat} {o:Ob},look (uL id s.objs) j=some o->j≠id/\look s.objs j=some o:=fun {j o} hj=>by
  rw[yb] at hj
  split at hj
  ·cases hj
  ·rename_i hne;exact⟨hne,hj⟩
 refine⟨g,⟨h.defers,h.size,?_,?_,?_,?_,h.os,h.tape,h.output,h.grows,h.keep⟩⟩
 ·intro i p hp;have old:s.at i=some p->Rd w g (zZ ctx g (uL id s.objs)) p (a.tmps.getD i undef):=fun hq=>(h.slots i p hq).keep hst (fun b hb _=>hF b hb) (fun _ _=>rfl)
  have hp':(s.sets (.md ks ag m) js).at i=some p:=Xw (by rw[We];exact Yp (s:=s.frzM id ks ag m js) hp) (xI (s:=s.frzM id ks ag m js) hp);rcases Wf _ js s i p hp' with⟨h1,rfl⟩ | h2
  ·have hr:=h.slots i _ (hjs i h1);show Rd w g (zZ ctx g (uL id s.objs)) (.md ks ag m) (a.tmps.getD i undef)
   generalize hv:a.tmps.getD i undef=v at hr
   cases hr with
   | mpNil _ hgn=>
    cases h.objs id _ hl with
    | map _ _ _ _ _ blk' n' es h' hh hm=>rw[hgn] at h';cases h'
   | mp _ blk n hgi=>
    cases h.objs id _ hl with
    | map _ _ _ _ _ blk' n' es h' hh hm=>
     rw[hgi] at h'
     cases h'
     have hown:=h.own id _ blk n hl hgi;have hfree:zZ ctx g (uL id s.objs) blk:=⟨hown.2.elim .inr fun hh=>.inl (hK _ hh),fun j o mm hj hgj=>by
      obtain⟨hne,hj'⟩:=hlk hj;exact hne (h.inj j id o _ blk mm n hj' hl hgj hgi)⟩
     exact .md ks ag m bs ck blk es hfree hown.1 hh (hm.keep hst (fun b hb _=>hF b hb))
  ·exact old h2
 ·intro j o hj;obtain⟨_,hj'⟩:=hlk hj;exact(h.objs j o hj').keep hst (fun b hb _=>hF b hb) (fun _ _ _=>rfl) rfl (fun _ _=>rfl)
 ·intro i j oi oj b n m hi hj;exact h.inj i j oi oj b n m (hlk hi).2 (hlk hj).2
 ·intro j o b n hj;exact h.own j o b n (hlk hj).2
inductive AllMp (s:PState) (id:Nat):List Nat->Prop
 | nil:AllMp s id []
 | cons {j:Nat} {js:List Nat} (h:s.at j=some (.mp id)) (r:AllMp s id js):AllMp s id (j::js)
theorem AllMp.get{id:Nat}{js:List Nat}(h:AllMp s id js):∀ j∈js,s.at j=some (.mp id):=by
 induction h with
 | nil=>intro j hj;cases hj
 | cons h _ ih=>
  intro j hj;rcases List.mem_cons.1 hj with rfl | hj
  ·exact h
  ·exact ih j hj
theorem PWl.frzM{ops:Array Oper}{rest:List Oper}{id:Nat}{ks:List IntKind}{ag:Bool}{m:Mp}{bs:List Nat}{ck:Nat}(js:List Nat)(hK:∀ b,ctx.K b->ctx.S b)(hjs:AllMp s id js)(hl:look s.objs id=some (.map ks ag m bs ck))(h:PWl P ctx ops Q rest (s.frzM id ks ag m js)):PWl P ctx ops Q rest s:=
 PWl.sub (Sub.frzM js hK hl hjs.get) h
end
theorem zRd1(x:Value)(h:x.oneCell'=true):∀ (w:World) (g:zR) (S:Nat->Prop),Rd w g S (elP false [zdv x]) x:=fun w _ S=>.d (QP w S x h)
theorem zRdA(us:List Value)(h:us.all Value.oneCell'=true):∀ (w:World) (g:zR) (S:Nat->Prop),Rd w g S (elP true (us.map zdv)) (.agg us.toArray):=fun w g S=>by
 have h':∀ u∈us,u.oneCell'=true:=by simpa using h
 refine .agg _ us (by simp) (fun i p u hp hu=>?_) h';simp[hu] at hp;subst hp;exact .d (QP w S u (h' u (List.mem_of_getElem? hu)))
end Go.Ep
namespace Go.Ep
open Go.RowKit
structure SortLaw{α:Type}(P:Program)(f g:FuncId)(k:Nat)(enc:α->List Value)(lt:α->α->Bool):Prop where
 nil:∀ w:World,Calls P f #[.slice none 0 0,.func (.func g) #[] #[]] w fun e w'=>e=.returned (.tuple #[])/\Below w.heap.size w w'
 row:∀ (w:World) (blk cap:Nat) (l:List α) (T:TypeId) (cur:List Value),w.heap[blk]?=some (.cells cur.toArray T (0,0))->l.length<=cap->cur.length=cap*k->l.length < 4611686018427387904 ->
  (∀ (i:Nat) (x:α) (j:Nat) (u:Value),l[i]?=some x->(enc x)[j]?=some u->cur[i*k+j]?=some u) ->
  Calls P f #[.slice (some ⟨blk,0,none⟩) l.length cap,.func (.func g) #[] #[]] w fun e w'=>e=.returned (.tuple #[])/\∃ (l':List α) (cur':List Value),l'.Perm l/\l'.Pairwise (fun x y=>lt y x=false) /\
   w'.heap[blk]?=some (.cells cur'.toArray T (0,0))/\cur'.length=cur.length/\(∀ (i:Nat) (x:α) (j:Nat) (u:Value),l'[i]?=some x->(enc x)[j]?=some u->cur'[i*k+j]?=some u) /\
   w'.os=w.os/\w'.tape=w.tape/\w'.output=w.output/\w.heap.size<=w'.heap.size/\∀ b,b < w.heap.size->b≠blk->w'.heap[b]?=w.heap[b]?
section
variable{P:Program}{ctx:Ctx}{Q:PQ}{s:PState}
variable{dst:Option Tmp}{ty:TypeId}{pos:String}{after:Array Edge}{gd:Option (Nat×Bool)}
theorem PWl.sortFn{α:Type}{ops:Array Oper}{rest:List Oper}{id n k:Nat}{e:TypeId}{fx x gx:Operand}{ats:Array TypeId}{f g:FuncId}{enc:α->List Value}{encD:α->List DV}{lt:α->α->Bool}{l:List α}(hS:SortLaw P f g k enc lt)
  (henc:∀ y,encD y=(enc y).map .v) (h1:∀ y,∀ u∈enc y,u.oneCell'=true) (hk:∀ y,(enc y).length=k) (hfx:s.ev fx=some (.d (.v (.func (.func f) #[] #[])))) (he:∀ args w,(callFunc f args).run P w=.ok (.enter f args) w) (hx:s.ev x=some (.row id n)) (hgx:s.ev gx=some (.d (.v (.func (.func g) #[] #[]))))
  (hl:look s.objs id=some (.row e k (l.map encD))) (hn:l.length=n) (hlen:l.length < 4611686018427387904) (hgd:gd=none)
  (h:∀ l':List α,l'.Perm l->l'.Pairwise (fun x y=>lt y x=false)->PWl P ctx ops Q rest ((s.setO id (.row e k (l'.map encD))).putD dst (.tup []))) :
  PWl P ctx ops Q (⟨dst,.call ⟨.value fx,#[x,gx],ats⟩,ty,pos,after,gd⟩::rest) s:=by
 rintro a w ⟨gh,hg⟩;refine wpList_plain hgd fun K hK=>?_
 have hxv:=hg.ev hx;have hob:=hg.objs id _ hl;unfold Oper.wp;rw[xW (o:=⟨dst,.call ⟨.value fx,#[x,gx],ats⟩,ty,pos,after,gd⟩) rfl (Xu hg hfx) he w]
 generalize hv:a.eval x=v at hxv
 have hargs:(#[x,gx]:Array Operand).map a.eval=#[v,.func (.func g) #[] #[]]:=by simp[hv,Xu hg hgx]
 rw[hargs]
 generalize hL:l.map encD=L at hob
 cases hob with
 | rowNil _ _ hgn=>
  have hl0:l=[]:=by simpa using hL
  subst hl0
  cases hxv with
  | row _ _ blk cap hgi=>rw[hgn] at hgi;cases hgi
  | rowNil=>
   refine(hS.nil w).mono fun en w' ⟨hen,hb⟩=>?_
   subst hen;have hsub:Sub ctx s (s.setO id (.row e k ([].map encD))):=Sub.drop rfl (fun i p hp=>hp) (fun j o hj=>by
    simp only[PState.setO,zC] at hj
    split at hj
    ·rename_i ej;subst ej;cases hj;rw[hl]
    ·exact hj)
   obtain⟨g2,hg2⟩:=hsub a w' ⟨gh,hg.below hb⟩;exact hK _ _ (h [] (List.Perm.refl _) List.Pairwise.nil _ _ ⟨g2,hg2.put dst (.tup [] [] rfl (by simp))⟩)
 | row _ _ _ blk' cap' cur hgi hh hlc hcap hcs hkk hr'=>
  cases hxv with
  | rowNil _ hgn=>rw[hgn] at hgi;cases hgi
  | row _ _ blk cap hgi'=>
   rw[hgi] at hgi'
   cases hgi'
   subst hL;subst hn;have hcells:∀ (i:Nat) (y:α) (j:Nat) (u:Value),l[i]?=some y->(enc y)[j]?=some u->cur[i*k+j]?=some u:=by
    intro i y j u hi hu;obtain⟨v,hv1,hv2⟩:=hr' i (encD y) j (.v u) (by simp[hi]) (by rw[henc];simp[hu])
    cases hv2 with
    | v _ _=>exact hv1
   refine(hS.row w blk' cap' l e cur hh (by simpa using hlc) hcs hlen hcells).mono fun en w' ⟨hen,l',cur',hperm,hsort,hh',hcl,hc',hos,htape,hout,hsz,hother⟩=>?_
   subst hen;have hown:=hg.own id _ blk' cap' hl hgi;have hst:zx w w' (zZ ctx gh s.objs):=⟨hsz,fun b ⟨_,h2⟩ hlt=>hother b hlt fun eb=>by subst eb;exact h2 id _ cap' hl hgi⟩
   have hpl:l'.length=l.length:=hperm.length_eq;have hwr:=hg.wrote hl hgi (w':=w') hos htape hout hsz hother hown.2 (ob:=.row e k (l'.map encD)) (.row e k _ blk' cap' cur' hgi hh' (by simpa[hpl] using hlc) hcap (by rw[hcl];exact hcs)
    (fun i cs hi=>by
     rw[List.getElem?_map] at hi
     cases hy:l'[i]? with
     | none=>simp[hy] at hi
     | some y=>simp[hy] at hi;subst hi;rw[henc];simp[hk])
    (fun i cs j d hi hd=>by
     rw[List.getElem?_map] at hi
     cases hy:l'[i]? with
     | none=>simp[hy] at hi
     | some y=>
      simp[hy] at hi;subst hi;rw[henc,List.getElem?_map] at hd
      cases hu:(enc y)[j]? with
      | none=>simp[hu] at hd
      | some u=>simp[hu] at hd;subst hd;exact⟨u,hc' i y j u hy hu,.v u (h1 y u (List.mem_of_getElem? hu))⟩))
   exact hK _ _ (h l' hperm hsort _ _ ⟨gh,hwr.put dst (.tup [] [] rfl (by simp))⟩)
end
end Go.Ep
namespace Go.Ep
open Go.RowKit
section
variable{P:Program}{ctx:Ctx}{Q:PQ}{s:PState}
variable{dst:Option Tmp}{ty:TypeId}{pos:String}{after:Array Edge}{gd:Option (Nat×Bool)}
abbrev pNil : PV:=.d (.v (.slice none 0 0))
theorem LR.capNil{x:Operand}{t e:TypeId}(hu:P.underlying t=some (.slice e))(hx:s.ev x=some pNil) :
  Local P ctx ⟨dst,.call ⟨.builtin .cap,#[x],#[t]⟩,ty,pos,after,gd⟩ s (s.putD dst (.d (.v (.int .i64 0)))):=
 zD (o:=⟨dst,.call ⟨.builtin .cap,#[x],#[t]⟩,ty,pos,after,gd⟩) fun a w g hg=>⟨.int .i64 0,by
  simp[execOp,resolve,invoke,builtin,Xu hg hx,Builtin.cap_,run_underlying hu,Result.andThen,goInt],.d (.v _ rfl)⟩
theorem LR.lenNil{x:Operand}{t e:TypeId}(hu:P.underlying t=some (.slice e))(hx:s.ev x=some pNil) :
  Local P ctx ⟨dst,.call ⟨.builtin .len,#[x],#[t]⟩,ty,pos,after,gd⟩ s (s.putD dst (.d (.v (.int .i64 0)))):=
 zD (o:=⟨dst,.call ⟨.builtin .len,#[x],#[t]⟩,ty,pos,after,gd⟩) fun a w g hg=>⟨.int .i64 0,by
  simp[execOp,resolve,invoke,builtin,Xu hg hx,Builtin.len_,run_underlying hu,Result.andThen,goInt],.d (.v _ rfl)⟩
theorem LR.sliceNil{x hi:Operand}{t e k:Nat}{kx:IntKind}(hu:P.underlying t=some (.slice e))(hs:∀ w,(sizeOf e).run P w=.ok k w)(hx:s.ev x=some pNil)(hh:s.ev hi=some (.d (.v (.int kx 0)))) :
  Local P ctx ⟨dst,.slice t x none (some hi) none,ty,pos,after,gd⟩ s (s.putD dst pNil):=
 zD (o:=⟨dst,.slice t x none (some hi) none,ty,pos,after,gd⟩) fun a w g hg=>⟨.slice none 0 0,by
  simp[execOp,Xu hg hx,xz hg hh,Instr.sliceAt,Instr.slice,Instr.sliceBounds,run_underlying hu,hs,xJ (P:=P) (show(0:Int)=(0:Nat) from rfl) (show 0<=0 from Nat.le_refl _),Result.andThen],.d (.v _ rfl)⟩
theorem VQ(w:World)(t ti ty e:TypeId)(i:TypeInfo)(z:Value)(hu:P.underlying t=some (.slice e))(hti:P.underlying ti=some (.int .i64))(hi:P.info? e=some i)(hz:i.zero=some z)(n:Nat)(h0:0 < n)(h63:(n:Int)<=9223372036854775807)(h48:n*i.bytes<=281474976710656)(hsz:i.size=z.cells.size) :
  (Builtin.append_ #[t,ti] ty #[.slice none 0 0,.int .i64 n]).run P w=.ok (.slice (some ⟨w.heap.size,0,none⟩) n (grownCap w n 0 e)) (w.drew.alloc (.cells (Builtin.zeroCells z.cells n++Builtin.zeroCells z.cells (grownCap w n 0 e - n)) e)):=by
 have hn:n≠0:=by omega
 have h63':¬ (9223372036854775807 < (n:Int)):=by omega
 have h48':¬ (281474976710656 < Builtin.nextslicecap n 0*i.bytes):=by rw[nextslicecap_zero h0];omega
 have hw:IntKind.i64.wrap (n:Int)=n:=QN (by omega) h63;have hneg:¬ ((n:Int) < 0):=by omega
 have h48i:¬ (281474976710656 < (n:Int)*(i.bytes:Int)):=by
  rw[<- Int.natCast_mul];omega
 by_cases hk:n*i.size=0
 ·have hzc:z.cells.size=0:=by
   rw[hsz] at hk;rcases Nat.mul_eq_zero.1 hk with h | h
   ·omega
   ·exact h
  have he:Builtin.zeroCells z.cells n=#[]:=by
   apply Array.eq_empty_of_size_eq_zero;simp[Yk,hzc]
  simp[Builtin.append_,run_underlying hu,run_underlying hti,sizeOf,typeInfo,zeroValue,hi,hz,Builtin.lenOf,hn,h63',h48',h48i,hw,hneg,Question.forced,run_firstCells_none,newRow,grownCap,asInt,asIntOf,he]
 ·simp[Builtin.append_,run_underlying hu,run_underlying hti,sizeOf,typeInfo,zeroValue,hi,hz,Builtin.lenOf,hn,h63',h48',h48i,hw,hneg,Question.forced,run_firstCells_none,newRow,grownCap,asInt,asIntOf,hk]
theorem LR.appendMake{id n k bs:Nat}{t ti e:TypeId}{x y:Operand}{z:Value}{zs:List Value}(hE:ElemOK P t e k bs)(hti:P.underlying ti=some (.int .i64))(hzv:∀ w,(zeroValue e).run P w=.ok z w)(hzc:z.cells=zs.toArray)(h1:(zs.all Value.oneCell')=true)
  (hx:s.ev x=some pNil) (hy:s.ev y=some (.d (.v (.int .i64 n)))) (h0:0 < n) (hb:n*bs<=140737488355328) (hn:n<=140737488355328) (hf:s.fresh id=true) :
  Local P ctx ⟨some id,.call ⟨.builtin .append,#[x,y],#[t,ti]⟩,ty,pos,after,gd⟩ s (s.newO id (.row e k (List.replicate n (zs.map zdv))) (.row id n)):=
 yA (o:=⟨some id,.call ⟨.builtin .append,#[x,y],#[t,ti]⟩,ty,pos,after,gd⟩) fun a w g hg=>by
  obtain⟨i,z',hi,hz,hsize,hbytes,hzs⟩:=hE.i;have hzz:z'=z:=by
   have:=hzv w;simp[zeroValue,typeInfo,hi,hz] at this;exact this
  subst hzz;have hzl:zs.length=k:=by rw[hzc] at hzs;simpa using hzs
  have hge:=grownCap_ge w n 0 e;have hcm:=grownCap_le_maxLen w n 0 e (by unfold maxLen;omega);have hrun:=VQ (P:=P) w t ti ty e i z' hE.u hti hi hz n h0 (by omega) (by rw[hbytes];omega) (by rw[hsize,hzs]);have hdr:RelG ctx g s a w.drew:=hg.below ((Below.refl _ w).drew);have hres:=hdr.newRow (id:=id) hf (e:=e) (k:=k) (cap:=grownCap w n 0 e) (l:=List.replicate n (zs.map zdv)) (cur:=(Builtin.zeroCells z'.cells n++Builtin.zeroCells z'.cells (grownCap w n 0 e - n)).toList) (by simpa using hge) hcm (by
    rw[Array.toList_append,List.length_append,UQ,UQ,hzs,<- Nat.add_mul];congr 1;omega)
   (fun j cs hj=>by
    rw[List.getElem?_replicate] at hj
    split at hj
    ·simp at hj;subst hj;simpa using hzl
    ·cases hj)
   (fun j cs t x hj hx=>by
    rw[List.getElem?_replicate] at hj
    split at hj
    ·rename_i hjn
     simp only[Option.some.injEq] at hj;subst hj;have ht:t < zs.length:=by have:=(List.getElem?_eq_some_iff.1 hx).1;simpa using this
     have hlt:j*k+t < n*k:=vL hjn (by omega);simp[ht] at hx;subst hx;refine⟨zs[t],?_,QP _ _ _ (by simp at h1;exact h1 _ (List.getElem_mem ht))⟩;have e2:(j*k+t) % k=t:=by rw[Nat.mul_comm,Nat.mul_add_mod,Nat.mod_eq_of_lt (by omega)]
     rw[Array.toList_append,List.getElem?_append_left (by rw[UQ,hzs];exact hlt)];simp[Builtin.zeroCells,hlt,hzc,hzl,e2];rw[List.getElem?_eq_getElem ht];rfl
    ·cases hj)
  simp only[List.length_replicate,Array.toArray_toList] at hres;refine⟨_,_,?_,hres⟩;simp[execOp,resolve,invoke,builtin,Xu hg hx,Xu hg hy,hrun,Result.andThen]
theorem LR.cutRow{x hi:Operand}{id n m k:Nat}{t e:TypeId}{l:List (List DV)}{kx:IntKind}{j:Int}(js:List Nat)(hu:P.underlying t=some (.slice e))(hs:∀ w,(sizeOf e).run P w=.ok k w)(hx:s.ev x=some (.row id n))(hl:look s.objs id=some (.row e k l))(hn:l.length=n)
  (hh:s.ev hi=some (.d (.v (.int kx j)))) (hj:j=m) (hm:m<=n) (ha:(s.junks js).alone id=true) :
  Local P ctx ⟨dst,.slice t x none (some hi) none,ty,pos,after,gd⟩ s (((s.junks js).setO id (.row e k (l.take m))).putD dst (.row id m)):=
 yA (o:=⟨dst,.slice t x none (some hi) none,ty,pos,after,gd⟩) fun a w g hg=>by
  have hxv:=hg.ev hx;have hob:=hg.objs id _ hl;have hgj:=hg.junks js;have hlj:look (s.junks js).objs id=some (.row e k l):=by rw[zw];exact hl
  have hupd:upd g id (g id)=g:=by funext q;unfold upd;split <;> simp_all
  have hre:∀ (ob':ObRd w g (zZ ctx g (zi id (.row e k (l.take m)) (s.junks js).objs)) id (.row e k (l.take m))),RelG ctx g ((s.junks js).setO id (.row e k (l.take m))) a w:=fun ob'=>by
   have:=hgj.reown hlj ha (g id) (ob:=.row e k (l.take m)) rfl rfl rfl (Nat.le_refl _) (fun _ _ _=>rfl) (fun b n eb=>.inl ⟨n,eb⟩) (by rw[hupd];exact ob');rw[hupd] at this;exact this
  have hst:zx w w (zZ ctx g s.objs):=⟨Nat.le_refl _,fun _ _ _=>rfl⟩
  generalize hv:a.eval x=v at hxv
  cases hob with
  | rowNil _ _ hgn=>
   cases hxv with
   | row _ _ blk cap hgi=>rw[hgn] at hgi;cases hgi
   | rowNil=>
    have hm0:m=0:=by omega
    subst hm0;refine⟨.slice none 0 0,w,?_,g,(hre (.rowNil e k hgn)).put dst (.rowNil id hgn)⟩;simp[execOp,hv,xz hg hh,Instr.sliceAt,Instr.slice,Instr.sliceBounds,run_underlying hu,hs,xJ (P:=P) hj (show 0<=0 from Nat.le_refl _),Result.andThen]
  | row _ _ _ blk' cap' cur hgi hh' hlc hcap hcs hkk hr'=>
   cases hxv with
   | rowNil _ hgn=>rw[hgn] at hgi;cases hgi
   | row _ _ blk cap hgi'=>
    rw[hgi] at hgi'
    cases hgi'
    have hrow:ObRd w g (zZ ctx g (zi id (.row e k (l.take m)) (s.junks js).objs)) id (.row e k (l.take m)):=by
     rw[zw];refine .row e k _ blk' cap' cur hgi hh' (by simp;omega) hcap hcs (fun i cs hi=>?_) (fun i cs t x hi hx=>?_)
     ·rw[List.getElem?_take] at hi
      split at hi
      ·exact hkk i cs hi
      ·cases hi
     ·rw[List.getElem?_take] at hi
      split at hi
      ·obtain⟨u,h1,h2⟩:=hr' i cs t x hi hx;exact⟨u,h1,h2.keep hst (fun b hb _=>xL hl b hb)⟩
      ·cases hi
    refine⟨.slice (some ⟨blk',0,none⟩) m cap',w,?_,g,(hre hrow).put dst (.row id m blk' cap' hgi)⟩;simp[execOp,hv,xz hg hh,Instr.sliceAt,Instr.slice,Instr.sliceBounds,run_underlying hu,hs,xJ (P:=P) hj (show m<=cap' by omega),Addr.add_lit,Result.andThen]
end
end Go.Ep
namespace Go.Ep
structure M(α:Type) where
 wp:(α->Prop)->Prop
 mono:∀ {P Q:α->Prop},(∀ a,P a->Q a)->wp P->wp Q
 meet:∀ {P Q:α->Prop},wp P->wp Q->∃ a,P a/\Q a
namespace M
variable{α β γ σ ρ:Type}
theorem ext'{x y:M α}(h:∀ Q,x.wp Q↔y.wp Q):x=y:=by
 obtain⟨a,_,_⟩:=x;obtain⟨b,_,_⟩:=y;have:a=b:=funext fun Q=>propext (h Q)
 subst this
 rfl
def pure(a:α):M α:=⟨fun Q=>Q a,fun h p=>h _ p,fun p q=>⟨a,p,q⟩⟩
def bind(x:M α)(f:α->M β):M β:=
 ⟨fun Q=>x.wp fun a=>(f a).wp Q,fun h p=>x.mono (fun a=>(f a).mono h) p,fun p q=>let ⟨a,h1,h2⟩:=x.meet p q;(f a).meet h1 h2⟩
def fail : M α:=⟨fun _=>False,fun _ h=>h,fun h=>h.elim⟩
def yo(p:Prop)(x:M α):M α:=⟨fun Q=>p/\x.wp Q,fun h ⟨h1,h2⟩=>⟨h1,x.mono h h2⟩,fun⟨_,h1⟩ ⟨_,h2⟩=>x.meet h1 h2⟩
def det(x:M α):M α:=⟨fun Q=>∃ a,x.wp (·=a)/\Q a,fun h ⟨a,h1,h2⟩=>⟨a,h1,h a h2⟩,fun⟨a,h1,h2⟩ ⟨b,h3,h4⟩=>by
 obtain⟨c,h5,h6⟩:=x.meet h1 h3;exact⟨a,h2,by rw[<- h5,h6];exact h4⟩⟩
def any(p:α->Prop):M α:=⟨fun Q=>(∃ a,p a)/\∀ a,p a->Q a,fun h ⟨h0,h1⟩=>⟨h0,fun a ha=>h a (h1 a ha)⟩,fun⟨⟨a,ha⟩,h1⟩ ⟨_,h2⟩=>⟨a,h1 a ha,h2 a ha⟩⟩
inductive Step (σ ρ:Type) where
 | next (s:σ)
 | done (r:ρ)
inductive Ex (τ α:Type) where
 | brk (t:τ)
 | ret (a:α)
def exk(k:β->M α):Ex β α->M α
 | .brk t=>k t
 | .ret a=>pure a
def Step.post(X:σ->Prop)(Q:ρ->Prop):Step σ ρ->Prop
 | .next s=>X s
 | .done r=>Q r
def Uv(body:σ->M (Step σ ρ))(Q:ρ->Prop)(s:σ):Prop:=∀ X:σ->Prop,(∀ s,(body s).wp (Step.post X Q)->X s)->X s
theorem XK{body:σ->M (Step σ ρ)}{Q:ρ->Prop}{s:σ}(h:(body s).wp (Step.post (Uv body Q) Q)):Uv body Q s:=fun X hX=>
 hX s ((body s).mono (fun o ho=>by cases o with | next s'=>exact ho X hX | done r=>exact ho) h)
theorem JO{body:σ->M (Step σ ρ)}{Q:ρ->Prop}{s:σ}(h:Uv body Q s):(body s).wp (Step.post (Uv body Q) Q):=
 h (fun s=>(body s).wp (Step.post (Uv body Q) Q)) fun s hs=>(body s).mono (fun o ho=>by cases o with | next s'=>exact XK ho | done r=>exact ho) hs
def loop(body:σ->M (Step σ ρ))(s:σ):M ρ:=
 ⟨fun Q=>Uv body Q s,fun h p X hX=>p X fun s hs=>hX s ((body s).mono (fun o ho=>by cases o with | next s'=>exact ho | done r=>exact h r ho) hs),fun {P Q} hp=>by
  refine hp (fun s=>Uv body Q s->∃ a,P a/\Q a) fun s hs hq=>?_
  obtain⟨o,h1,h2⟩:=(body s).meet hs (JO hq)
  cases o with
  | next s'=>exact h1 h2
  | done r=>exact⟨r,h1,h2⟩⟩
theorem zA(a:α)(f:α->M β):(pure a).bind f=f a:=rfl
theorem UU(x:M α)(f:α->M β)(g:β->M γ):(x.bind f).bind g=x.bind fun a=>(f a).bind g:=rfl
theorem zE{p:Prop}(h:p)(x:M α):yo p x=x:=ext' fun _=>⟨fun h=>h.2,fun hx=>⟨h,hx⟩⟩
theorem ux{x:M α}{a:α}(h:x.wp (·=a)):x=pure a:=ext' fun Q=>
 ⟨fun hq=>let ⟨b,h1,h2⟩:=x.meet h hq;by subst h1;exact h2,fun hq=>x.mono (fun b hb=>by subst hb;exact hq) h⟩
theorem zB(a:α):det (pure a)=pure a:=ux ⟨a,rfl,rfl⟩
theorem Xz(k:β->M α)(t:β):exk k (.brk t)=k t:=rfl
theorem qJ(k:β->M α)(a:α):exk k (.ret a)=pure a:=rfl
theorem Uw(body:σ->M (Step σ ρ))(s:σ):loop body s=(body s).bind fun o=>match o with | .next s'=>loop body s' | .done r=>pure r:=ext' fun Q=>
 ⟨fun h=>(body s).mono (fun o ho=>by cases o with | next s'=>exact ho | done r=>exact ho) (JO h),fun h=>XK ((body s).mono (fun o ho=>by cases o with | next s'=>exact ho | done r=>exact ho) h)⟩
theorem yD{body:σ->M (Step σ ρ)}{s s':σ}(h:body s=pure (.next s')):loop body s=loop body s':=by rw[Uw,h];rfl
theorem zr{body:σ->M (Step σ ρ)}{s:σ}{r:ρ}(h:body s=pure (.done r)):loop body s=pure r:=by rw[Uw,h];rfl
theorem zd(a b:Bool):(cond a (pure b) (pure false):M Bool)=pure (a&&b):=by cases a <;> rfl
theorem JP(a b:Bool):(cond a (pure true) (pure b):M Bool)=pure (a||b):=by cases a <;> rfl
theorem XL(a:Bool)(x y:α):(cond a (pure x) (pure y):M α)=pure (cond a x y):=by cases a <;> rfl
theorem loop_inv{body:σ->M (Step σ ρ)}{Q:ρ->Prop}(I:σ->Prop)(mu:σ->Nat)(h:∀ s,I s->(body s).wp (Step.post (fun s'=>I s'/\mu s' < mu s) Q))(s0:σ)(h0:I s0):(loop body s0).wp Q:=by
 have key:∀ n s,mu s=n->I s->Uv body Q s:=by
  intro n
  induction n using Nat.strongRecOn with
  | _ n ih=>
   intro s hn hI;refine XK ((body s).mono (fun o ho=>?_) (h s hI))
   cases o with
   | next s'=>exact ih (mu s') (hn▸ho.2) s' rfl ho.1
   | done r=>exact ho
 exact key _ s0 rfl h0
end M
namespace M
variable{α β:Type}
def idx(l:List α)(i:Int):M α:=⟨fun Q=>∃ y,(0<=i/\l[i.toNat]?=some y)/\Q y,fun h ⟨y,h1,h2⟩=>⟨y,h1,h y h2⟩,fun⟨y,h1,h2⟩ ⟨z,h3,h4⟩=>⟨y,h2,by have:=h1.2.symm.trans h3.2;cases this;exact h4⟩⟩
theorem XM{l:List α}{i:Int}{y:α}(h0:0<=i)(h:l[i.toNat]?=some y):idx l i=pure y:=ux ⟨y,⟨h0,h⟩,rfl⟩
theorem zJ{l:List α}{i:Nat}{y:α}(h:l[i]?=some y):idx l (i:Int)=pure y:=XM (by omega) (by simpa using h)
def cut(l:List α)(lo hi:Int):M (List α):=yo (0<=lo/\lo<=hi/\hi<=l.length) (pure ((l.take hi.toNat).drop lo.toNat))
def app(bs:Nat)(l r:List α):M (List α):=yo ((l.length+r.length)*bs<=140737488355328) (pure (l++r))
def upd(l:List α)(i:Int)(y:α):M (List α):=yo (0<=i/\i < l.length) (pure (l.set i.toNat y))
end M
def vM(s:ByteArray):List Int:=s.data.toList.map fun b=>(b.toNat:Int)
def strL(l:List Int):ByteArray:=l.foldl (fun r n=>r.push (UInt8.ofNat n.toNat)) ByteArray.empty
def bAnd(k:IntKind)(x y:Int):Int:=k.wrap (BitVec.ofInt k.bits x &&& BitVec.ofInt k.bits y).toNat
namespace AL
variable{κ ν:Type}[DecidableEq κ]
def get : List (κ×ν)->κ->Option ν
 | [],_=>none
 | (k,v)::r,x=>if k=x then some v else get r x
def set : List (κ×ν)->κ->ν->List (κ×ν)
 | [],x,u=>[(x,u)]
 | (k,v)::r,x,u=>if k=x then (k,u)::r else (k,v)::set r x u
def del : List (κ×ν)->κ->List (κ×ν)
 | [],_=>[]
 | (k,v)::r,x=>if k=x then r else (k,v)::del r x
def getZ(m:List (κ×ν))(x:κ)(z:ν):ν:=(get m x).getD z
def has(m:List (κ×ν))(x:κ):Bool:=(get m x).isSome
def grow{α:Type}(m:List (κ×List α))(l:List (κ×List α)):List (κ×List α):=l.foldl (fun m x=>set m x.1 (getZ m x.1 []++x.2)) m
def growOK{α:Type}(bs n:Nat)(l:List (κ×List α)):Prop:=n < 9223372036854775807/\(l.map fun x=>x.2.length).sum*bs<=140737488355328
end AL
namespace M
def nxt(n:Nat)(L:List Nat):M (Option Nat):=any fun o=>match o with | none=>∀ i,i < n->i∈L | some i=>i < n/\i∉L
def isNil{α:Type}(l:List α):M Bool:=any fun b=>b=true->l=[]
def srt{α:Type}(lt:α->α->Bool)(l:List α):M (List α):=any fun l'=>l'.Perm l/\l'.Pairwise fun x y=>lt y x=false
end M
end Go.Ep
namespace Go.Ep
open Go.RowKit
section
variable{α β:Type}{Q:β->Prop}
theorem yK{l:List α}{i:Int}{k:α->M β}(h:((M.idx l i).bind k).wp Q):∃ y,(0<=i/\l[i.toNat]?=some y)/\(k y).wp Q:=h
theorem zp{p:Prop}{x:M β}(h:(M.yo p x).wp Q):p/\x.wp Q:=h
theorem za{x:M α}{k:α->M β}(h:(x.det.bind k).wp Q):∃ r,x.wp (·=r)/\(k r).wp Q:=h
theorem iNxt{n:Nat}{L:List Nat}{k:Option Nat->M β}(h:((M.nxt n L).bind k).wp Q):((∀ i,i < n->i∈L)->(k none).wp Q)/\∀ i,i < n->i∉L->(k (some i)).wp Q:=⟨fun h0=>h.2 none h0,fun i h1 h2=>h.2 (some i) ⟨h1,h2⟩⟩
theorem iSrt{lt:α->α->Bool}{l:List α}{k:List α->M β}(h:((M.srt lt l).bind k).wp Q):∀ l':List α,l'.Perm l->l'.Pairwise (fun x y=>lt y x=false)->(k l').wp Q:=fun l' h1 h2=>h.2 l' ⟨h1,h2⟩
theorem iNil{l:List α}{k:Bool->M β}(h:((M.isNil l).bind k).wp Q):∀ b,(b=true->l=[])->(k b).wp Q:=fun b hb=>h.2 b hb
theorem zH{x:M α}{k:α->M β}(h:(x.bind k).wp Q):x.wp fun a=>(k a).wp Q:=h
theorem iT{b:Bool}{x y:M β}(hb:b=true)(h:(cond b x y).wp Q):x.wp Q:=by subst hb;exact h
theorem iF{b:Bool}{x y:M β}(hb:b=false)(h:(cond b x y).wp Q):y.wp Q:=by subst hb;exact h
end
def zI{κ ν:Type}(eK:κ->List Int)(eV:ν->List DV)(m:List (κ×ν)):Mp:=m.map fun x=>(eK x.1,eV x.2)
section
variable{κ ν:Type}[DecidableEq κ]{eK:κ->List Int}{eV:ν->List DV}(inj:∀ a b,eK a=eK b->a=b)
include inj
theorem Zb(m:List (κ×ν))(k:κ):WT (zI eK eV m) (eK k)=(AL.get m k).map eV:=by
 induction m with
 | nil=>rfl
 | cons x r ih=>
  obtain⟨a,v⟩:=x;show(if eK a=eK k then _ else _)=_
  by_cases h:a=k
  ·subst h;simp[AL.get]
  ·rw[if_neg (fun e=>h (inj _ _ e))];simp only[AL.get,h,if_false];exact ih
theorem yHa(m:List (κ×ν))(k:κ)(v:ν):zQa (zI eK eV m) (eK k) (eV v)=zI eK eV (AL.set m k v):=by
 induction m with
 | nil=>rfl
 | cons x r ih=>
  obtain⟨a,u⟩:=x;show(if eK a=eK k then _ else _)=_
  by_cases h:a=k
  ·subst h;simp[AL.set,zI]
  ·rw[if_neg (fun e=>h (inj _ _ e))];simp only[AL.set,h,if_false];show _::zQa (zI eK eV r) _ _=_::zI eK eV (AL.set r k v);rw[ih]
theorem yIa(m:List (κ×ν))(k:κ):mdel (zI eK eV m) (eK k)=zI eK eV (AL.del m k):=by
 induction m with
 | nil=>rfl
 | cons x r ih=>
  obtain⟨a,u⟩:=x;show(if eK a=eK k then _ else _)=_
  by_cases h:a=k
  ·subst h;simp[AL.del,zI]
  ·rw[if_neg (fun e=>h (inj _ _ e))];simp only[AL.del,h,if_false];show _::mdel (zI eK eV r) _=_::zI eK eV (AL.del r k);rw[ih]
end
theorem Wj{κ ν:Type}{eK:κ->List Int}{eV:ν->List DV}(m:List (κ×ν)):(zI eK eV m).length=m.length:=by simp[zI]
section
variable{P:Program}{ctx:Ctx}{Q:PQ}{s:PState}
variable{dst:Option Tmp}{ty:TypeId}{pos:String}{after:Array Edge}{gd:Option (Nat×Bool)}
def LoopAt(P:Program)(c:Code)(Q:Exit->Act->World->Prop)(a:Act)(w:World):Prop:=∀ (b:Frame) (k:List Item) (cs:List Frame),
 ∃ e a' w',Q e a' w'/\Arrives P (lone (b.at a (.code c::.inLoop c::k)) cs w) b k cs e a' w'
theorem LoopAt.step{c:Code}{Q:Exit->Act->World->Prop}{a:Act}{w:World}(h:c.wp P (Exit.then (LoopAt P c Q) Q) a w):LoopAt P c Q a w:=by
 intro b k cs;obtain⟨e,a₁,w₁,hq,harr⟩:=h b (.inLoop c::k) cs
 cases e with
 | normal=>
  obtain⟨e₂,a₂,w₂,hq₂,harr₂⟩:=hq b k cs;exact⟨e₂,a₂,w₂,hq₂,.of_steps (Steps.trans harr (.one step_inLoop)) harr₂⟩
 | exit id=>exact⟨_,a₁,w₁,hq,.pass (x:=.inLoop c) rfl (fun _ _=>.inl (by simp)) harr⟩
 | goto l=>exact⟨_,a₁,w₁,hq,.pass (x:=.inLoop c) rfl (fun _ _=>.inl (by simp)) harr⟩
 | ret=>exact⟨_,a₁,w₁,hq,.pass (x:=.inLoop c) rfl (fun _ _=>.inl (by simp)) harr⟩
 | panic ch=>exact⟨_,a₁,w₁,hq,.pass (x:=.inLoop c) rfl (fun _ _=>.inl (by simp)) harr⟩
 | outgrown=>exact⟨_,a₁,w₁,hq,.pass (x:=.inLoop c) rfl (fun _ _=>.inl (by simp)) harr⟩
theorem LoopAt.loop{c:Code}{Q:Exit->Act->World->Prop}{a:Act}{w:World}(h:LoopAt P c Q a w):(Code.loop c).wp P Q a w:=fun b k cs=>
 let ⟨e,a',w',hq,harr⟩:=h b k cs
 ⟨e,a',w',hq,.of_steps (.one step_loop) harr⟩
theorem PWc.cs{c:Code}{s:PState}(b:Bool)(hT:b=true->PWc P ctx c Q s)(hF:b=false->PWc P ctx c Q s):PWc P ctx c Q s:=by cases b;exact hF rfl;exact hT rfl
theorem PWc.loopM{σ ρ G:Type}{c:Code}{body:σ->M (M.Step σ ρ)}{s0:σ}{R:ρ->Prop}(J:σ->G->PState)(g0:G)(h:(M.loop body s0).wp R)(hs:Sub ctx s (J s0 g0))
  (round:∀ (N:σ->Prop) (x:σ) (g:G),(body x).wp (M.Step.post N R)->PWc P ctx c (Then (fun t=>∃ y g',N y/\Sub ctx t (J y g')) Q) (J x g)):PWc P ctx (.loop c) Q s:=by
 intro a w hr;refine LoopAt.loop ?_;have key:∀ g a w,Rel ctx (J s0 g) a w->LoopAt P c (lift ctx Q) a w:=by
  refine h (fun x=>∀ g a w,Rel ctx (J x g) a w->LoopAt P c (lift ctx Q) a w) fun x hx g a w hr=>?_
  refine LoopAt.step (wp_mono (round _ x g hx a w hr) fun e a' w' ⟨t,h1,h2⟩=>?_)
  cases e with
  | normal=>
   obtain⟨y,g',hy,hsub⟩:=h1;exact hy g' a' w' (hsub a' w' h2)
  | _=>exact⟨t,h1,h2⟩
 exact key g0 a w (hs a w hr)
def Jn(ctx:Ctx)(Q:PQ){τ G:Type}(J:τ->G->PState)(N:τ->Prop):PQ
 | .normal,t=>∃ v g,N v/\Sub ctx t (J v g)
 | e,t=>Q e t
section
variable{α:Type}{enc:α->List DV}{L R:List α}
theorem LR.idxT{x ix:Operand}{ki:IntKind}{i:Int}{k:Nat}{y:α}{t e:TypeId}(hu:P.underlying t=some (.slice e))(hs:∀ w,(sizeOf e).run P w=.ok k w)
  (hx:s.ev x=some (.d (.sl (L.map enc)))) (hix:s.ev ix=some (.d (.v (.int ki i)))) (hy:0<=i/\L[i.toNat]?=some y) (hk:∀ x,(enc x).length=k) :
  Local P ctx ⟨dst,.indexAddr t x ix,ty,pos,after,gd⟩ s (s.putD dst (.ep (enc y) 0)):=
 LR.idxSl (n:=i.toNat) hu hs hx hix (by omega) (by simp[hy.2]) (hk _)
theorem LR.idxRowT{x ix:Operand}{id m:Nat}{ki:IntKind}{i:Int}{k:Nat}{y:α}{t e:TypeId}(hu:P.underlying t=some (.slice e))(hs:∀ w,(sizeOf e).run P w=.ok k w)
  (hx:s.ev x=some (.row id m)) (hm:m=L.length) (hix:s.ev ix=some (.d (.v (.int ki i)))) (hy:0<=i/\L[i.toNat]?=some y) :
  Local P ctx ⟨dst,.indexAddr t x ix,ty,pos,after,gd⟩ s (s.putD dst (.rp id i.toNat 0 k)):=
 LR.idxRow hu hs hx hix (by omega) (by rw[hm];exact(List.getElem?_eq_some_iff.1 hy.2).1)
theorem LR.loadRpT{x:Operand}{id n k:Nat}{T T0:TypeId}{y:α}(ha:∀ w,(isAgg T).run P w=.ok true w)(hs:∀ w,(sizeOf T).run P w=.ok k w)(hx:s.ev x=some (.rp id n 0 k))(hl:look s.objs id=some (.row T0 k (L.map enc)))(hy:L[n]?=some y) :
  Local P ctx ⟨dst,.load T x,ty,pos,after,gd⟩ s (s.putD dst (.agg ((enc y).map .d))):=LR.loadRpAgg ha hs hx hl (by simp[hy])
theorem LR.loadRpF{x:Operand}{id n o k:Nat}{T T0:TypeId}{y:α}{z:DV}(ha:∀ w,(isAgg T).run P w=.ok false w)(hx:s.ev x=some (.rp id n o k))(hl:look s.objs id=some (.row T0 k (L.map enc)))(hy:L[n]?=some y)(hz:(enc y)[o]?=some z) :
  Local P ctx ⟨dst,.load T x,ty,pos,after,gd⟩ s (s.putD dst (.d z)):=LR.loadRp ha hx hl (by simp[hy]) hz
theorem LR.storeRpT{x y:Operand}{id n o k m:Nat}{T T0:TypeId}{a b:α}{ys:List DV}{p:PV}(hs:∀ w,(sizeOf T).run P w=.ok m w)(hx:s.ev x=some (.rp id n o k))(hy:s.ev y=some p)(hp:p.dparts=some ys)(hm:ys.length=m)
  (hl:look s.objs id=some (.row T0 k (L.map enc))) (hi:L[n]?=some a) (hlen:Nat.ble (o+m) k=true) (hns:(enc a).take o++ys++(enc a).drop (o+m)=enc b) :
  Local P ctx ⟨none,.store T x y,ty,pos,after,gd⟩ s (s.setO id (.row T0 k ((L.set n b).map enc))):=by
 have:=LR.storeRpB (P:=P) (ctx:=ctx) (ty:=ty) (pos:=pos) (after:=after) (gd:=gd) hs hx hy hp hm hl (by simp[hi]) hlen hns
 rwa [<- List.map_set] at this
theorem LR.appT{x y:Operand}{id m k bs:Nat}{t t' e e':TypeId}(js:List Nat)(hE:ElemOK P t e k bs)(hu':P.underlying t'=some (.slice e'))(hx:s.ev x=some (.row id m))(hm:m=L.length)(hl:look s.objs id=some (.row e k (L.map enc)))
  (hy:Src ctx s y (R.map enc) k) (hk:∀ x,(enc x).length=k) (hb:(L.length+R.length)*bs<=140737488355328) (h1:Nat.ble 1 bs=true) (ha:(s.junks js).alone id=true) :
  Local P ctx ⟨dst,.call ⟨.builtin .append,#[x,y],#[t,t']⟩,ty,pos,after,gd⟩ s (((s.junks js).setO id (.row e k ((L++R).map enc))).putD dst (.row id (L++R).length)):=by
 subst hm;have h2:=Nat.le_of_ble_eq_true h1;have h3:(L.length+R.length)*1<=(L.length+R.length)*bs:=Nat.mul_le_mul_left _ h2;have:=LR.append (P:=P) (ctx:=ctx) (dst:=dst) (ty:=ty) (pos:=pos) (after:=after) (gd:=gd) js hE hu' hx hl (by simp) hy (qE hk R) (by simpa using hb) (by simp;omega) ha;simpa using this
theorem Src.slT{y:Operand}{k:Nat}(hy:s.ev y=some (.d (.sl (R.map enc))))(hk:∀ x,(enc x).length=k):Src ctx s y (R.map enc) k:=Src.sl hy (qE hk R)
theorem LR.rowT{id:Nat}{x:Operand}{xs:List Operand}{ats:Array TypeId}{f:FuncId}{ps:List PV}{e:TypeId}{k:Nat}(hc:PRow P f ps e k (L.map enc))(hx:s.ev x=some (.d (.v (.func (.func f) #[] #[]))))(he:∀ args w,(callFunc f args).run P w=.ok (.enter f args) w)
  (hps:s.evs xs=some ps) (hd:PV.isData.isDataL ps=true) (hf:s.fresh id=true) :
  Local P ctx ⟨some id,.call ⟨.value x,xs.toArray,ats⟩,ty,pos,after,gd⟩ s (s.newO id (.row e k (L.map enc)) (.row id L.length)):=by
 have:=LR.callRow (P:=P) (ctx:=ctx) (ty:=ty) (pos:=pos) (after:=after) (gd:=gd) (id:=id) (ats:=ats) hc hx he hps hd hf
 rwa [List.length_map] at this
end
section
variable{κ ν:Type}[DecidableEq κ]{eK:κ->List Int}{eV:ν->List DV}{m:List (κ×ν)}{q:κ}{zv:ν}(inj:∀ a b,eK a=eK b->a=b)
variable{x kx:Operand}{t kt et:TypeId}{ks:List IntKind}{ag:Bool}{z:Value}{p kp:PV}
theorem Ux{o:Option ν}:(o.map eV).getD (eV zv)=eV (o.getD zv):=by cases o <;> rfl
section
variable(hu:P.underlying t=some (.map kt et))(K:KeyOK P kt ks)(hz:∀ w,(zeroValue et).run P w=.ok z w)(hzr:∀ (w:World) (g:zR) (S:Nat->Prop),Rd w g S (elP ag (eV zv)) z)(hk:s.ev kx=some kp)(hkp:kp=Jw ks (eK q))(hn:(eK q).length=ks.length)(hp:elP ag (eV (AL.getZ m q zv))=p)
include inj hu K hz hzr hk hkp hn hp
theorem LR.getO{id:Nat}{bs:List Nat}{ck:Nat}(hx:s.ev x=some (.mp id))(hl:look s.objs id=some (.map ks ag (zI eK eV m) bs ck)):Local P ctx ⟨dst,.lookup t x kx false,ty,pos,after,gd⟩ s (s.putD dst p):=
 LR.lookupO hu K hz hzr (by rw[hk,hkp]) hn (by rw[Zb inj,Ux];exact hp) hx hl
theorem LR.getD(hx:s.ev x=some (.md ks ag (zI eK eV m))):Local P ctx ⟨dst,.lookup t x kx false,ty,pos,after,gd⟩ s (s.putD dst p):=
 LR.lookupD hu K hz hzr (by rw[hk,hkp]) hn (by rw[Zb inj,Ux];exact hp) hx
end
section
variable{id:Nat}{bs:List Nat}{ck:Nat}{vx:Operand}{v:ν}(hu:P.underlying t=some (.map kt et))(K:KeyOK P kt ks)(hx:s.ev x=some (.mp id))(hl:look s.objs id=some (.map ks ag (zI eK eV m) bs ck))
  (hk:s.ev kx=some kp) (hkp:kp=Jw ks (eK q)) (hn:(eK q).length=ks.length)
include inj hu K hx hl hk hkp hn
theorem LR.setM{pv:PV}(hv:s.ev vx=some pv)(hq:elP ag (eV v)=pv)(h1:ag=false->(eV v).length=1) :
  Local P ctx ⟨none,.mapUpdate t x kx vx,ty,pos,after,gd⟩ s (s.setO id (.map ks ag (zI eK eV (AL.set m q v)) (bset (zI eK eV m) (eK q) bs ck) (yDa (zI eK eV m) (eK q) ck))):=by
 have:=LR.mapUpdate (P:=P) (ctx:=ctx) (ty:=ty) (pos:=pos) (after:=after) (gd:=gd) hu K hx hl (by rw[hk,hkp]) hn hv hq h1 rfl rfl
 rwa [yHa inj] at this
theorem LR.setIn{pv:PV}(hv:s.ev vx=some pv)(hq:elP ag (eV v)=pv)(h1:ag=false->(eV v).length=1)(hin:AL.has m q=true) :
  Local P ctx ⟨none,.mapUpdate t x kx vx,ty,pos,after,gd⟩ s (s.setO id (.map ks ag (zI eK eV (AL.set m q v)) bs ck)):=by
 have:=LR.setM (P:=P) (ctx:=ctx) (ty:=ty) (pos:=pos) (after:=after) (gd:=gd) inj hu K hx hl hk hkp hn hv hq h1;obtain⟨u,hu'⟩:=Option.isSome_iff_exists.1 hin;have e:WT (zI eK eV m) (eK q)=some (eV u):=by rw[Zb inj,hu'];rfl
 simpa[bset,yDa,e] using this
end
end
end
end Go.Ep
namespace Go.Ep
def PV.nilD : PV->PV
 | .d (.v (.slice none 0 0))=>.d (.sl [])
 | p=>p
theorem Rd.nilD{w:World}{g:zR}{S:Nat->Prop}{p:PV}{u:Value}(h:Rd w g S p u):Rd w g S p.nilD u:=by
 unfold PV.nilD
 split
 ·have:=h.of_v;subst this;exact .d (.nil none 0 (Nat.zero_le _) (fun _=>rfl))
 ·exact h
section
variable{P:Program}{ctx:Ctx}{Q:PQ}{s:PState}
variable{dst:Option Tmp}{ty:TypeId}{pos:String}{after:Array Edge}{gd:Option (Nat×Bool)}
theorem PV.isData_nilD{p:PV}(h:p.nilD.isData=true):p.isData=true:=by
 unfold PV.nilD at h
 split at h
 ·rfl
 ·exact h
theorem xi : ∀ {ps:List PV},PV.isData.isDataL (ps.map PV.nilD)=true->PV.isData.isDataL ps=true
 | [],_=>rfl
 | p::r,h=>by
  simp only[List.map_cons,PV.isData.isDataL,Bool.and_eq_true] at h ⊢;exact⟨PV.isData_nilD h.1,xi h.2⟩
theorem PFun.nilD{f:FuncId}{ps:List PV}{r:PV}(h:PFun P f (ps.map PV.nilD) r):PFun P f ps r:=fun w S vs hl hv=>
 h w S vs (by simpa using hl) fun i p v hp hu=>by
  rw[List.getElem?_map] at hp
  cases hq:ps[i]? with
  | none=>simp[hq] at hp
  | some q=>simp[hq] at hp;subst hp;exact(hv i q v hq hu).nilD
theorem PRow.nilD{f:FuncId}{ps:List PV}{e:TypeId}{k:Nat}{l:List (List DV)}(h:PRow P f (ps.map PV.nilD) e k l):PRow P f ps e k l:=fun w S vs hl hv=>
 h w S vs (by simpa using hl) fun i p v hp hu=>by
  rw[List.getElem?_map] at hp
  cases hq:ps[i]? with
  | none=>simp[hq] at hp
  | some q=>simp[hq] at hp;subst hp;exact(hv i q v hq hu).nilD
theorem PMap.nilD{f:FuncId}{ps:List PV}{ks:List IntKind}{ag:Bool}{m:Mp}(h:PMap P f (ps.map PV.nilD) ks ag m):PMap P f ps ks ag m:=fun w S vs hl hv=>
 h w S vs (by simpa using hl) fun i p v hp hu=>by
  rw[List.getElem?_map] at hp
  cases hq:ps[i]? with
  | none=>simp[hq] at hp
  | some q=>simp[hq] at hp;subst hp;exact(hv i q v hq hu).nilD
theorem LR.callN{x:Operand}{xs:List Operand}{ats:Array TypeId}{f:FuncId}{ps qs:List PV}{r:PV}(hc:PFun P f ps r)(hx:s.ev x=some (.d (.v (.func (.func f) #[] #[]))))(he:∀ args w,(callFunc f args).run P w=.ok (.enter f args) w)
  (hps:s.evs xs=some qs) (hq:qs.map PV.nilD=ps) (hd:PV.isData.isDataL ps=true) (hr:r.isData=true) :
  Local P ctx ⟨dst,.call ⟨.value x,xs.toArray,ats⟩,ty,pos,after,gd⟩ s (s.putD dst r):=by
 subst hq;exact LR.call hc.nilD hx he hps (xi hd) hr
theorem LR.rowN{α:Type}{enc:α->List DV}{L:List α}{id:Nat}{x:Operand}{xs:List Operand}{ats:Array TypeId}{f:FuncId}{ps qs:List PV}{e:TypeId}{k:Nat}(hc:PRow P f ps e k (L.map enc))(hx:s.ev x=some (.d (.v (.func (.func f) #[] #[]))))(he:∀ args w,(callFunc f args).run P w=.ok (.enter f args) w)
  (hps:s.evs xs=some qs) (hq:qs.map PV.nilD=ps) (hd:PV.isData.isDataL ps=true) (hf:s.fresh id=true) :
  Local P ctx ⟨some id,.call ⟨.value x,xs.toArray,ats⟩,ty,pos,after,gd⟩ s (s.newO id (.row e k (L.map enc)) (.row id L.length)):=by
 subst hq;exact LR.rowT hc.nilD hx he hps (xi hd) hf
theorem PWl.mapN{ops:Array Oper}{rest:List Oper}{id:Nat}{x:Operand}{xs:List Operand}{ats:Array TypeId}{f:FuncId}{ps qs:List PV}{ks:List IntKind}{ag:Bool}{m:Mp}(hc:PMap P f ps ks ag m)(hx:s.ev x=some (.d (.v (.func (.func f) #[] #[]))))(he:∀ args w,(callFunc f args).run P w=.ok (.enter f args) w)
  (hps:s.evs xs=some qs) (hq:qs.map PV.nilD=ps) (hd:PV.isData.isDataL ps=true) (hf:s.fresh id=true) (hgd:gd=none)
  (h:∀ bs ck,bs.length=m.length->PWl P ctx ops Q rest (s.newO id (.map ks ag m bs ck) (.mp id))):PWl P ctx ops Q (⟨some id,.call ⟨.value x,xs.toArray,ats⟩,ty,pos,after,gd⟩::rest) s:=by
 subst hq;exact PWl.callMap hc.nilD hx he hps (xi hd) hf hgd h
end
end Go.Ep
namespace Go.Ep
def eK(k:IntKind)(n:Int):List DV:=[.v (.int k n)]
def eS(s:ByteArray):List DV:=[.v (.string s)]
def eL{α:Type}(enc:α->List DV)(l:List α):List DV:=[.sl (l.map enc)]
def kI(n:Int):List Int:=[n]
theorem yJa(a b:Int)(h:kI a=kI b):a=b:=by simpa[kI] using h
section
variable{P:Program}{ctx:Ctx}{Q:PQ}{s:PState}
variable{dst:Option Tmp}{ty:TypeId}{pos:String}{after:Array Edge}{gd:Option (Nat×Bool)}
theorem PWc.jn{c:Code}{τ G:Type}{m:M τ}{N:τ->Prop}(h:m.wp N)(J:τ->G->PState)(i:m.wp N->PWc P ctx c (Jn ctx Q J N) s)(k:∀ v g,N v->Q .normal (J v g))
  (hK:∀ t u,Sub ctx t u->Q .normal u->Q .normal t:=by first | exact fun _ _ hs h=>PWc.sub hs h | exact fun _ _ hs ⟨v,g,h1,h2⟩=>⟨v,g,h1,Sub.trans hs h2⟩):PWc P ctx c Q s:=
 (i h).mono fun e t hq=>by
  cases e with
  | normal=>obtain⟨v,g,hv,hs⟩:=hq;exact hK t _ hs (k v g hv)
  | _=>exact hq
theorem PWc.jnX{c:Code}{τ G α:Type}{m:M (M.Ex τ α)}{N:M.Ex τ α->Prop}(h:m.wp N)(J:τ->G->PState)(i:m.wp N->PWc P ctx c (Jn ctx Q J fun v=>N (.brk v)) s)(k:∀ v g,N (.brk v)->Q .normal (J v g))
  (hK:∀ t u,Sub ctx t u->Q .normal u->Q .normal t:=by first | exact fun _ _ hs h=>PWc.sub hs h | exact fun _ _ hs ⟨v,g,h1,h2⟩=>⟨v,g,h1,Sub.trans hs h2⟩):PWc P ctx c Q s:=
 (i h).mono fun e t hq=>by
  cases e with
  | normal=>obtain⟨v,g,hv,hs⟩:=hq;exact hK t _ hs (k v g hv)
  | _=>exact hq
theorem UV{κ ν:Type}{eK:κ->List Int}{eV:ν->List DV}{m:List (κ×ν)}{i:Nat}{y:κ×ν}(h:0<=Int.ofNat i/\m[(Int.ofNat i).toNat]?=some y):(zI eK eV m)[i]?=some (eK y.1,eV y.2):=by
 have h2:m[i]?=some y:=h.2;simp[zI,h2]
section
variable{κ ν:Type}{eK:κ->List Int}{eV:ν->List DV}{m:List (κ×ν)}
theorem nxtA{L:List Nat}(h:∀ i,i < (zI eK eV m).length->i∈L):∀ i,i < m.length->i∈L:=fun i hi=>h i (by rw[Wj];exact hi)
theorem nxtB{i:Nat}(h:i < (zI eK eV m).length):i < m.length:=by rwa [Wj] at h
theorem nxtD{L:List Nat}(h:∀ i∈L,i < m.length):∀ i∈L,i < (zI eK eV m).length:=fun i hi=>by rw[Wj];exact h i hi
end
end
end Go.Ep
namespace Go.Ep
section
variable{P:Program}{ctx:Ctx}{Q:PQ}{s:PState}
variable{dst:Option Tmp}{ty:TypeId}{pos:String}{after:Array Edge}{gd:Option (Nat×Bool)}
section
variable{x y:Operand}{k ky:IntKind}{m n r:Int}{t t':TypeId}(hx:s.ev x=some (.d (.v (.int k m))))(hy:s.ev y=some (.d (.v (.int ky n))))
include hx hy
theorem LR.shr(h0:0<=n)(hr:m.fdiv (2 ^ min n.toNat k.bits)=r):Local P ctx ⟨dst,.binOp .shr t x y t',ty,pos,after,gd⟩ s (s.putD dst (.d (.v (.int k r)))):=by
 subst hr;have hn:¬ n < 0:=by omega
 exact zD (o:=⟨dst,.binOp .shr t x y t',ty,pos,after,gd⟩) fun a w _ hg=>⟨_,by simp[execOp,xz hg hx,xz hg hy,eqGuard_shr,binOp_shr,Op.shift,hn],.d (.v _ rfl)⟩
end
section
variable{x y:Operand}{k:IntKind}{m n:Int}{t t':TypeId}(hx:s.ev x=some (.d (.v (.int k m))))(hy:s.ev y=some (.d (.v (.int k n))))
include hx hy
theorem LR.and : Local P ctx ⟨dst,.binOp .and t x y t',ty,pos,after,gd⟩ s (s.putD dst (.d (.v (.int k (Go.bits .and k m n))))):=yy hx hy (fun w=>by simp[binOp_and,intBits_and]) rfl
theorem LR.or : Local P ctx ⟨dst,.binOp .or t x y t',ty,pos,after,gd⟩ s (s.putD dst (.d (.v (.int k (Go.bits .or k m n))))):=yy hx hy (fun w=>by simp[binOp_or,intBits_or]) rfl
end
end
end Go.Ep
namespace Go.Ep
theorem PWl.eqlNilT{P:Program}{ctx:Ctx}{Q:PQ}{s:PState}{dst:Option Tmp}{ty:TypeId}{pos:String}{after:Array Edge}{gd:Option (Nat×Bool)}{α:Type}{enc:α->List DV}{L:List α}{ops:Array Oper}{rest:List Oper}{x:Operand}{t t' e:TypeId}(hu:P.underlying t=some (.slice e))(hx:s.ev x=some (.d (.sl (L.map enc))))(hg:gd=none)
  (h:∀ b:Bool,(b=true->L=[])->PWl P ctx ops Q rest (s.putD dst (.d (.v (.bool b))))):PWl P ctx ops Q (⟨dst,.binOp .eql t x (.const (.slice none 0 0)) t',ty,pos,after,gd⟩::rest) s:=
 PWl.eqlNil hu hx hg fun b hb=>h b fun e=>by simpa using hb e
end Go.Ep
namespace Go.Ep
section
variable{P:Program}{ctx:Ctx}{Q:PQ}{s:PState}
variable{dst:Option Tmp}{ty:TypeId}{pos:String}{after:Array Edge}{gd:Option (Nat×Bool)}
theorem LR.appMakeT{α:Type}{enc:α->List DV}{z:α}{id k bs:Nat}{t ti e:TypeId}{x y:Operand}{zv:Value}{zs:List Value}{n:Int}(hb:0 < n/\n*bs<=140737488355328)(hE:ElemOK P t e k bs)(hti:P.underlying ti=some (.int .i64))(hzv:∀ w,(zeroValue e).run P w=.ok zv w)(hzc:zv.cells=zs.toArray)(h1:(zs.all Value.oneCell')=true)
  (hz:enc z=zs.map zdv) (hx:s.ev x=some (.d (.v (.slice none 0 0)))) (hy:s.ev y=some (.d (.v (.int .i64 n)))) (hf:s.fresh id=true) (hbs:Nat.ble 1 bs=true) :
  Local P ctx ⟨some id,.call ⟨.builtin .append,#[x,y],#[t,ti]⟩,ty,pos,after,gd⟩ s (s.newO id (.row e k (List.map enc (List.replicate n.toNat z))) (.row id n.toNat)):=by
 obtain⟨h0,h2⟩:=hb;obtain⟨m,rfl⟩:=Int.eq_ofNat_of_zero_le (Int.le_of_lt h0);have h3:m*bs<=140737488355328:=by
  have:((m*bs:Nat):Int)<=140737488355328:=by rw[Int.natCast_mul];exact h2
  omega
 have h4:m<=m*bs:=by
  have:=Nat.mul_le_mul_left m (Nat.le_of_ble_eq_true hbs);omega
 have hr:=LR.appendMake (P:=P) (ctx:=ctx) (s:=s) (ty:=ty) (pos:=pos) (after:=after) (gd:=gd) (id:=id) (n:=m) hE hti hzv hzc h1 hx hy (by omega) h3 (by omega) hf;rw[<- hz,<- List.map_replicate] at hr;exact hr
theorem LR.cutRowT{α:Type}{enc:α->List DV}{L:List α}{x hi:Operand}{id m k:Nat}{t e:TypeId}{kx:IntKind}{j:Int}(js:List Nat)(hu:P.underlying t=some (.slice e))(hs:∀ w,(sizeOf e).run P w=.ok k w)(hx:s.ev x=some (.row id m))(hm:m=L.length)(hl:look s.objs id=some (.row e k (L.map enc)))
  (hh:s.ev hi=some (.d (.v (.int kx j)))) (hb:0<=(0:Int)/\0<=j/\j<=(L.length:Int)) (ha:(s.junks js).alone id=true) :
  Local P ctx ⟨dst,.slice t x none (some hi) none,ty,pos,after,gd⟩ s (((s.junks js).setO id (.row e k (List.map enc (L.take j.toNat)))).putD dst (.row id j.toNat)):=by
 have:=LR.cutRow (P:=P) (ctx:=ctx) (dst:=dst) (ty:=ty) (pos:=pos) (after:=after) (gd:=gd) (m:=j.toNat) js hu hs hx hl (by simp[hm]) hh (by omega) (by omega) ha
 rwa [<- List.map_take] at this
end
end Go.Ep
namespace Go.Ep
theorem Sub.nilRow{ctx:Ctx}{s:PState}(t id e k:Nat)(hs:s.at t=some (.d (.v (.slice none 0 0))))(hf:s.fresh id=true):Sub ctx s { n:=s.n,sl:=(t,.row id 0)::s.sl,objs:=zi id (.row e k []) s.objs }:=by
 rintro a w ⟨g,hg⟩;have hn:=hg.new (Go.RowKit.Below.refl _ w) hf none (fun b n e=>by cases e) (.row e k []) (.rowNil e k (zF _ _ _));refine⟨_,⟨hn.defers,hn.size,?_,hn.objs,hn.inj,hn.own,hn.os,hn.tape,hn.output,hn.grows,hn.keep⟩⟩;intro i p hp;rcases UN { s with objs:=zi id (.row e k []) s.objs } t (.row id 0) i p hp with⟨rfl,rfl⟩ | ⟨_,h2⟩
 ·have hv:=(hg.slots t _ hs).of_v;rw[hv];exact .rowNil id (zF _ _ _)
 ·exact hn.slots i p h2
end Go.Ep
namespace Go.Ep
section
variable{P:Program}{ctx:Ctx}{ops:Array Oper}{Q:PState->Prop}
theorem Wl{s t:PState}(hn:s.n=t.n)(h:∀ i p,t.at i=some p->s.at i=some p)(d:Option Nat)(q:PV):∀ i p,(t.putD d q).at i=some p->(s.putD d q).at i=some p:=by
 cases d with
 | none=>exact h
 | some d=>
  intro i p hp;simp only[PState.putD,XI] at hp ⊢
  by_cases h1:i < t.n
  ·rw[if_pos h1] at hp;rw[if_pos (by omega)]
   by_cases h2:d=i
   ·rw[if_pos h2] at hp ⊢;exact hp
   ·rw[if_neg h2] at hp ⊢;exact h i p hp
  ·rw[if_neg h1] at hp;cases hp
theorem ev_sub{s t:PState}(h:∀ i p,t.at i=some p->s.at i=some p){x:Operand}{q:PV}(hx:t.ev x=some q):s.ev x=some q:=by
 cases x with
 | tmp i=>exact h i q hx
 | const v=>cases v <;> exact hx
 | func f=>exact hx
 | global g=>exact hx
theorem PQl.forget{l:List Oper}{t:PState}(h:PQl P ctx ops Q l t):∀ {s:PState},s.n=t.n->(∀ i p,t.at i=some p->s.at i=some p)->s.objs=t.objs->PQl P ctx ops Q l s:=by
 induction h with
 | fin h hs=>intro s hn hi ho;exact .fin h (Sub.trans (Sub.drop hn hi (fun id o hl=>by rw[ho];exact hl)) hs)
 | step hl hg _ ih=>intro s hn hi ho;exact .step (fun s' h1 h2=>hl s' (fun hx hq=>h1 hx (ev_sub hi hq)) (fun hob=>h2 (by rw[ho];exact hob))) hg (ih (by simp[uM,hn]) (Wl hn hi _ _) (by simp[yc,ho]))
 | guardT hl hg hd hs _ ih=>intro s hn hi ho;exact .guardT (fun s' h1 h2=>hl s' (fun hx hq=>h1 hx (ev_sub hi hq)) (fun hob=>h2 (by rw[ho];exact hob))) hg hd (hi _ _ hs) (ih (by simp[uM,hn]) (Wl hn hi _ _) (by simp[yc,ho]))
 | guardF hg hd hs hbc _ ih=>intro s hn hi ho;exact .guardF hg hd (hi _ _ hs) hbc (ih (by simp[uM,hn]) (Wl hn hi _ _) (by simp[yc,ho]))
 | guardU hg hd hs _ ih=>intro s hn hi ho;exact .guardU hg hd (hi _ _ hs) (ih (by simp[uM,hn]) (Wl hn hi _ _) (by simp[yc,ho]))
theorem PQl.keep{l:List Oper}{s:PState}{n:Nat}{tl:List (Nat×PV)}(hn:s.n=n)(h:Fgt s tl)(k:PQl P ctx ops Q l ⟨n,tl,s.objs⟩):PQl P ctx ops Q l s:=
 k.forget (t:=⟨n,tl,s.objs⟩) hn (fun i p hp=>h.get i p (xI hp)) rfl
end
end Go.Ep
namespace Go.Ep
section
variable{P:Program}{ctx:Ctx}
theorem PWl.re{Q:PQ}{ops:Array Oper}{l:List Oper}{s:PState}{n:Nat}{tl:List (Nat×PV)}{to:List (Nat×Ob)}(hn:s.n=n)(h:Fgt s tl)(ho:OFgt s.objs to)(k:PWl P ctx ops Q l ⟨n,tl,to⟩):PWl P ctx ops Q l s:=PWl.sub (Sub.of hn h ho) k
end
end Go.Ep
namespace Go.Ep
theorem wE : type_of% @PWl.re:=@PWl.re
theorem wJ : type_of% @PWc.jn:=@PWc.jn
theorem cN : type_of% @LR.callN:=@LR.callN
theorem iX : type_of% @LR.idxT:=@LR.idxT
theorem wM : type_of% @PWc.loopM:=@PWc.loopM
theorem wy{P:Program}{ctx:Ctx}{Q:PQ}{s:PState}{ops:Array Oper}{l:List Oper}{n:Nat}{tl:List (Nat×PV)}{to:List (Nat×Ob)}(k:PWl P ctx ops Q l ⟨n,tl,to⟩)(hn:s.n=n:=by exact rfl)(h:Fgt s tl:=by repeat' constructor)(ho:OFgt s.objs to:=by repeat' constructor):PWl P ctx ops Q l s:=PWl.re hn h ho k
theorem kK{P:Program}{ctx:Ctx}{ops:Array Oper}{Q:PState->Prop}{l:List Oper}{s:PState}{n:Nat}{tl:List (Nat×PV)}(k:PQl P ctx ops Q l ⟨n,tl,s.objs⟩)(hn:s.n=n:=by exact rfl)(h:Fgt s tl:=by repeat' constructor):PQl P ctx ops Q l s:=PQl.keep hn h k
theorem xN{P:Program}{ctx:Ctx}{Q:PQ}{s:PState}{ops:Array Oper}{rest:List Oper}{dst:Option Tmp}{ty:TypeId}{pos:String}{after:Array Edge}{gd:Option (Nat×Bool)}{x:Operand}{xs:List Operand}{ats:Array TypeId}{f:FuncId}{ps qs:List PV}{r:PV}(hc:PFun P f ps r)(he:∀ args w,(callFunc f args).run P w=.ok (.enter f args) w)(h:PWl P ctx ops Q rest (s.putD dst r))(hx:s.ev x=some (.d (.v (.func (.func f) #[] #[]))):=by exact rfl)(hps:s.evs xs=some qs:=by exact rfl)(hq:qs.map PV.nilD=ps:=by exact rfl)(hd:PV.isData.isDataL ps=true:=by exact rfl)(hr:r.isData=true:=by exact rfl)(hg:gd=none:=by exact rfl):PWl P ctx ops Q (⟨dst,.call ⟨.value x,xs.toArray,ats⟩,ty,pos,after,gd⟩::rest) s:=PWl.step (LR.callN hc hx he hps hq hd hr) hg h
theorem xD{P:Program}{ctx:Ctx}{Q:PQ}{s:PState}{c:Operand}{x y:Code}{b:Bool}{β:Type}{X Y:M β}{R:β->Prop}(h:(_root_.cond b X Y).wp R)(hc:s.ev c=some (.d (.v (.bool b))))(ht:b=true->X.wp R->PWc P ctx x Q s)(hf:b=false->Y.wp R->PWc P ctx y Q s):PWc P ctx (.cond c x y) Q s:=PWc.cond hc (fun e=>ht e (iT e h)) (fun e=>hf e (iF e h))
theorem xG{P:Program}{ctx:Ctx}{ops:Array Oper}{Q:PQ}{rest:List Oper}{s:PState}{d:Nat}{b:Bool}{β:Type}{X Y:M β}{R:β->Prop}(h:(_root_.cond b X Y).wp R)(hs:s.at d=some (.d (.v (.bool b))))(ht:b=true->X.wp R->PWl P ctx ops Q rest (s.put d (.d (.v (.bool true)))))(hf:b=false->Y.wp R->PWl P ctx ops Q rest (s.put d (.d (.v (.bool false))))):PWl P ctx ops Q rest s:=PWl.split hs (fun e=>ht e (iT e h)) (fun e=>hf e (iF e h))
theorem xQ{P:Program}{ctx:Ctx}{ops:Array Oper}{Q:PState->Prop}{rest:List Oper}{s:PState}{d:Nat}{b:Bool}{β:Type}{X Y:M β}{R:β->Prop}(h:(_root_.cond b X Y).wp R)(hs:s.at d=some (.d (.v (.bool b))))(ht:b=true->X.wp R->PQl P ctx ops Q rest (s.put d (.d (.v (.bool true)))))(hf:b=false->Y.wp R->PQl P ctx ops Q rest (s.put d (.d (.v (.bool false))))):PQl P ctx ops Q rest s:=PQl.split hs (fun e=>ht e (iT e h)) (fun e=>hf e (iF e h))
end Go.Ep
namespace Go.Ep
open Go.RowKit
structure Ef where
 U:List (Nat×PV)
 V:List (Nat×Ob)
def PState.app(s:PState)(e:Ef):PState:={ n:=s.n,sl:=e.U++s.sl,objs:=e.V.foldr (fun x l=>zi x.1 x.2 l) s.objs }
structure Ft where
 ws:List Nat
 wo:List Nat:=[]
 ro:List Nat:=[]
 fr:List Nat:=[]
 al:List (Nat×List Nat):=[]
 nm:List Nat:=[]
 no:List Nat:=[]
 ao:List Nat:=[]
def inL(l:List Nat)(i:Nat):Bool:=l.any (Nat.beq i)
theorem zK{l:List Nat}{i:Nat}:inL l i=true↔i∈l:=by
 unfold inL;rw[List.any_eq_true];exact⟨fun⟨x,h1,h2⟩=>(Nat.eq_of_beq_eq_true h2)▸h1,fun h=>⟨i,h,Nat.beq_refl i⟩⟩
def PV.named(nm:List Nat):PV->Bool
 | .ref i _ | .row i _ | .rp i _ _ _ | .pc i _ _ _ | .mp i | .pa i _ _=>inL nm i
 | .agg cs=>namedL nm cs
 | .tup cs=>namedL nm cs
 | _=>true
where namedL (nm:List Nat):List PV->Bool
 | []=>true
 | c::r=>c.named nm&&namedL nm r
def Ob.named(nm:List Nat):Ob->Bool
 | .cells _ cs=>PV.named.namedL nm cs
 | .iterO mid _ _ _=>inL nm mid
 | .pin tgt _=>inL nm tgt
 | .mapP _ _ ov _ _=>match ov with | some (_,p)=>p.named nm | none=>true
 | _=>true
mutual
theorem PV.named_has{nm:List Nat}{id:Nat}:∀ {p:PV},p.named nm=true->p.has id=true->id∈nm
 | .ref i _,h,h2=>by simp only[PV.named,zK,PV.has,beq_iff_eq] at h h2;exact h2▸h
 | .row i _,h,h2=>by simp only[PV.named,zK,PV.has,beq_iff_eq] at h h2;exact h2▸h
 | .rp i _ _ _,h,h2=>by simp only[PV.named,zK,PV.has,beq_iff_eq] at h h2;exact h2▸h
 | .pc i _ _ _,h,h2=>by simp only[PV.named,zK,PV.has,beq_iff_eq] at h h2;exact h2▸h
 | .mp i,h,h2=>by simp only[PV.named,zK,PV.has,beq_iff_eq] at h h2;exact h2▸h
 | .pa i _ _,h,h2=>by simp only[PV.named,zK,PV.has,beq_iff_eq] at h h2;exact h2▸h
 | .agg cs,h,h2=>PV.namedL_has (cs:=cs) h h2
 | .tup cs,h,h2=>PV.namedL_has (cs:=cs) h h2
 | .junk,_,h2=>by simp[PV.has] at h2
 | .und,_,h2=>by simp[PV.has] at h2
 | .d _,_,h2=>by simp[PV.has] at h2
 | .ep _ _,_,h2=>by simp[PV.has] at h2
 | .md _ _ _,_,h2=>by simp[PV.has] at h2
 | .clo _ _,_,h2=>by simp[PV.has] at h2
theorem PV.namedL_has{nm:List Nat}{id:Nat}:∀ {cs:List PV},PV.named.namedL nm cs=true->PV.has.hasL id cs=true->id∈nm
 | [],_,h2=>by simp[PV.has.hasL] at h2
 | c::r,h,h2=>by
  simp only[PV.named.namedL,Bool.and_eq_true] at h;simp only[PV.has.hasL,Bool.or_eq_true] at h2;rcases h2 with h2 | h2
  ·exact PV.named_has h.1 h2
  ·exact PV.namedL_has h.2 h2
end
theorem Ob.named_has{nm:List Nat}{id:Nat}{o:Ob}(h:o.named nm=true)(h2:o.has id=true):id∈nm:=by
 cases o with
 | cells T cs=>exact PV.namedL_has h h2
 | iterO mid bs ck L=>simp only[Ob.named,zK,Ob.has,beq_iff_eq] at h h2;exact h2▸h
 | pin tgt x=>simp only[Ob.named,zK,Ob.has,beq_iff_eq] at h h2;exact h2▸h
 | mapP ks m ov bs ck=>
  cases ov with
  | none=>cases h2
  | some x=>exact PV.named_has h h2
 | _=>simp[Ob.has] at h2
section
variable{β:Type}
def UW : List (Option β)->(Nat->Bool)->Nat->Option β->Option β
 | [],_,_,c=>c
 | x::r,E,b,c=>UW r E (b+1) (bif E b then x.or c else c)
theorem ug : ∀ {l:List (Option β)} {E E':Nat->Bool} {b:Nat} {c:Option β},(∀ j x,l[j]?=some (some x)->E (b+j)=E' (b+j))->UW l E b c=UW l E' b c
 | [],_,_,_,_,_=>rfl
 | x::r,E,E',b,c,h=>by
  unfold UW;have h1:(bif E b then x.or c else c)=(bif E' b then x.or c else c):=by
   cases x with
   | none=>cases E b <;> cases E' b <;> rfl
   | some x=>rw[show E b=E' b from h 0 x rfl]
  rw[h1];exact ug fun j y hj=>by have:=h (j+1) y (by simpa using hj);rwa [show b+(j+1)=b+1+j by omega] at this
theorem XN : ∀ {l:List (Option β)} {E:Nat->Bool} {b:Nat} {c:Option β},(∀ j x,l[j]?=some (some x)->E (b+j)=false)->UW l E b c=c
 | [],_,_,_,_=>rfl
 | x::r,E,b,c,h=>by
  unfold UW;have h1:(bif E b then x.or c else c)=c:=by
   cases x with
   | none=>cases E b <;> rfl
   | some x=>rw[show E b=false from h 0 x rfl];rfl
  rw[h1];exact XN fun j y hj=>by have:=h (j+1) y (by simpa using hj);rwa [show b+(j+1)=b+1+j by omega] at this
theorem Uy : ∀ {l:List (Option β)} {E E':Nat->Bool} {b:Nat} {c:Option β} {i:Nat} {x:Option β},l[i]?=some x->E' (b+i)=true->(∀ j,j≠b+i->E' j=E j)->(x.isSome=true->∀ j y,i < j->l[j]?=some (some y)->E (b+j)=false)->E (b+i)=false->UW l E' b c=x.or (UW l E b c)
 | [],_,_,_,_,_,_,h,_,_,_,_=>by simp at h
 | z::r,E,E',b,c,0,x,h,h1,h2,h3,h4=>by
  simp at h;subst h;unfold UW;simp only[Nat.add_zero] at h1 h4;rw[h1,h4,cond_true,cond_false];have e:UW r E' (b+1) (z.or c)=UW r E (b+1) (z.or c):=ug fun j y _=>h2 _ (by omega)
  rw[e]
  cases z with
  | none=>rfl
  | some z=>
   have h5:=h3 rfl;have h6:∀ c,UW r E (b+1) c=c:=fun c=>XN fun j y hj=>by
    have:=h5 (j+1) y (by omega) (by simpa using hj)
    rwa [show b+(j+1)=b+1+j by omega] at this
   rw[h6,h6]
 | z::r,E,E',b,c,i+1,x,h,h1,h2,h3,h4=>by
  simp at h;unfold UW;rw[h2 b (by omega)];refine Uy h (by rw[<- h1];congr 1;omega) (fun j hj=>h2 j (by omega)) (fun hx j y hij hj=>?_) (by rw[<- h4];congr 1;omega);have:=h3 hx (j+1) y (by omega) (by simpa using hj)
  rwa [show b+(j+1)=b+1+j by omega] at this
end
theorem XO : ∀ (U l:List (Nat×PV)) (t:Nat),xy (U++l) t=(xy U t).or (xy l t)
 | [],l,t=>by simp[xy]
 | (k,p)::r,l,t=>by
  rw[List.cons_append,zo,zo]
  split
  ·rfl
  ·exact XO r l t
theorem look_app(V l:List (Nat×Ob))(id:Nat):look (V.foldr (fun x l=>zi x.1 x.2 l) l) id=(look V id).or (look l id):=by
 induction V with
 | nil=>simp[look]
 | cons x r ih=>
  obtain⟨k,o⟩:=x;rw[List.foldr_cons,zC];simp only[look]
  by_cases h:id=k
  ·simp[h]
  ·simp only[h,if_false];exact ih
theorem XP{U:List (Nat×PV)}{t:Nat}:(xy U t).isSome=true↔t∈U.map (·.1):=by
 induction U with
 | nil=>simp[xy]
 | cons x r ih=>
  obtain⟨k,p⟩:=x;rw[zo]
  by_cases h:k=t
  ·simp[h]
  ·simp[h,ih,Ne.symm h]
theorem XQ{V:List (Nat×Ob)}{t:Nat}:(look V t).isSome=true↔t∈V.map (·.1):=by
 induction V with
 | nil=>simp[look]
 | cons x r ih=>
  obtain⟨k,p⟩:=x;simp only[look]
  by_cases h:t=k
  ·simp[h]
  ·simp[h,ih]
theorem Wm{id k:Nat}{o ob:Ob}:∀ {l:List (Nat×Ob)},(k,o)∈zi id ob l->(k,o)=(id,ob)\/(k,o)∈l
 | [],h=>by simp[zi] at h;exact .inl (by simp[h])
 | (j,p)::r,h=>by
  unfold zi at h
  split at h
  ·rename_i e
   subst e;rcases List.mem_cons.1 h with e2 | h2
   ·exact .inl e2
   ·exact .inr (List.mem_cons_of_mem _ h2)
  ·split at h
   ·rcases List.mem_cons.1 h with e2 | h2
    ·exact .inl e2
    ·exact .inr h2
   ·rcases List.mem_cons.1 h with e2 | h2
    ·exact .inr (by rw[e2];simp)
    ·rcases Wm h2 with h3 | h3
     ·exact .inl h3
     ·exact .inr (List.mem_cons_of_mem _ h3)
theorem app_mem{V l:List (Nat×Ob)}{k:Nat}{o:Ob}(h:(k,o)∈V.foldr (fun x l=>zi x.1 x.2 l) l):(k,o)∈V\/(k,o)∈l:=by
 induction V with
 | nil=>exact .inr h
 | cons x r ih=>
  rw[List.foldr_cons] at h;rcases Wm h with h1 | h1
  ·exact .inl (by rw[h1];simp)
  ·rcases ih h1 with h2 | h2
   ·exact .inl (List.mem_cons_of_mem _ h2)
   ·exact .inr h2
def PState.aloneX(s:PState)(id:Nat)(ao:List Nat):Bool:=z8a id s.sl s.sl&&s.objs.all (fun x=>inL ao x.1||!x.2.has id)
theorem zSa{s:PState}{id:Nat}(h:s.aloneX id []=true):s.alone id=true:=by
 unfold PState.aloneX at h;unfold PState.alone;simpa[inL] using h
section
variable(P:Program)(ctx:Ctx)
def FLocal(o:Oper)(s:PState)(f:Ft)(e:Ef):Prop:=
 ∀ s':PState,s'.n=s.n->(∀ {x q},xU o x=true->s.ev x=some q->s'.ev x=some q)->(∀ {id ob},id∈f.ro->look s.objs id=some ob->look s'.objs id=some ob)->(∀ id∈f.fr,s'.fresh id=true)->(∀ a∈f.al,(s'.junks a.2).aloneX a.1 f.ao=true)->Local P ctx o s' (s'.app e)
def Wd(ops:Array Oper)(o:Oper)(s:PState):Prop:=o.guard=none\/∃ j b d,o.guard=some (j,b)/\(ops[j]?).bind (·.dst)=some d/\s.at d=some (.d (.v (.bool b)))
def Sk(ops:Array Oper)(o:Oper)(s:PState):Prop:=(∃ j b c d,o.guard=some (j,b)/\(ops[j]?).bind (·.dst)=some d/\s.at d=some (.d (.v (.bool c)))/\c≠b)\/∃ j b d,o.guard=some (j,b)/\(ops[j]?).bind (·.dst)=some d/\s.at d=some .und
def okE(f:Ft)(e:Ef):Bool:=(e.U.map (·.1)).all (inL f.ws)&&(e.V.map (·.1)).all (inL f.wo)&&e.U.all (fun x=>x.2.named f.nm)&&e.V.all (fun x=>x.2.named f.no)
def undE(o:Oper):Ef:=⟨match o.dst with | some d=>[(d,.und)] | none=>[],[]⟩
inductive PQe (ops:Array Oper) (Q:PState->Prop):List Oper->List Ft->PState->Prop
 | fin {s t:PState} (h:Q t) (hs:Sub ctx s t):PQe ops Q [] [] s
 | step {s:PState} {o:Oper} {rest:List Oper} {f:Ft} {fs:List Ft} {e:Ef} (hl:FLocal P ctx o s f e) (hg:Wd ops o s) (hk:okE f e=true) (h:PQe ops Q rest fs (s.app e)):PQe ops Q (o::rest) (f::fs) s
 | skip {s:PState} {o:Oper} {rest:List Oper} {f:Ft} {fs:List Ft} (hg:Sk ops o s) (hk:okE f (undE o)=true) (h:PQe ops Q rest fs (s.app (undE o))):PQe ops Q (o::rest) (f::fs) s
def Does(ops:Array Oper)(o:Oper)(s:PState)(f:Ft)(e:Ef):Prop:=okE f e=true/\((FLocal P ctx o s f e/\Wd ops o s)\/(Sk ops o s/\e=undE o))
inductive Run (ops:Array Oper):List Oper->List Ft->PState->List Ef->PState->Prop
 | nil {s:PState}:Run ops [] [] s [] s
 | cons {o:Oper} {rest:List Oper} {f:Ft} {fs:List Ft} {s t:PState} {e:Ef} {es:List Ef} (y:Does P ctx ops o s f e) (h:Run ops rest fs (s.app e) es t):Run ops (o::rest) (f::fs) s (e::es) t
end
section
variable{P:Program}{ctx:Ctx}{ops:Array Oper}
theorem PQe.run{Q:PState->Prop}{l:List Oper}{fs:List Ft}{s:PState}(h:PQe P ctx ops Q l fs s):∃ es t,Run P ctx ops l fs s es t/\∃ u,Q u/\Sub ctx t u:=by
 induction h with
 | fin h hs=>exact⟨[],_,.nil,_,h,hs⟩
 | step hl hg hk _ ih=>obtain⟨es,t,h1,h2⟩:=ih;exact⟨_,t,.cons ⟨hk,.inl ⟨hl,hg⟩⟩ h1,h2⟩
 | skip hg hk _ ih=>obtain⟨es,t,h1,h2⟩:=ih;exact⟨_,t,.cons ⟨hk,.inr ⟨hg,rfl⟩⟩ h1,h2⟩
def WA(ops:List Oper):List (List Nat):=ops.foldl (fun acc o=>acc++[o.after.toList.foldl (fun l e=>bif Region.binds .any e then e.on::((acc[e.on]?).getD []++l) else l) []]) []
def Ys(a b:List Nat):Bool:=a.any (inL b)
def uy(f g:Ft)(rf rg:List Nat):Bool:=
 Ys f.ws g.ws||Ys f.ws rg||Ys rf g.ws||Ys f.wo g.wo||Ys f.wo g.ro||Ys f.ro g.wo ||
 Ys f.fr g.nm||Ys f.fr g.no||Ys f.fr g.wo||Ys f.fr g.fr||(f.al.any fun a=>inL g.nm a.1)||(g.al.any fun a=>inL f.nm a.1)||(f.al.any fun a=>inL g.no a.1)
def JQ(f g:Ft):Bool:=Ys g.fr f.nm||Ys g.fr f.no||Ys g.fr f.wo||(g.al.any fun a=>inL f.no a.1||(inL f.nm a.1&&!f.ws.all (inL a.2)))
def xB(ops:Array Oper)(i:Nat):List Nat:=match ops[i]? with | some o=>o.looksAt ops | none=>[]
def yKa(ops:Array Oper)(fs:List Ft):Bool:=
 let pr:=WA ops.toList
 Nat.beq fs.length ops.size &&
 ((List.range ops.size).all fun j=>match ops[j]?,fs[j]? with
  | some o,some g=>o.after.toList.all (fun e=>Nat.blt e.on j||!Region.binds .any e)&&g.fr.all (fun id=>!inL g.ro id)&&(List.range j).all fun i=>match fs[i]? with
    | some f=>!JQ f g&&(!uy f g (xB ops i) (xB ops j)||inL ((pr[j]?).getD []) i)
    | none=>false
  | _,_=>false)
def QV(s:PState)(fs:List Ft):Bool:=fs.all fun f=>f.fr.all (fun id=>s.sl.all (fun x=>!x.2.has id)&&s.objs.all (fun x=>x.1 != id&&!x.2.has id)) &&
 f.al.all fun a=>s.sl.all (fun x=>!x.2.has a.1||inL a.2 x.1)&&s.objs.all (fun x=>inL f.ao x.1||!x.2.has a.1)
end
end Go.Ep
namespace Go.Ep
open Go.RowKit
section
variable{P:Program}{ctx:Ctx}{ops:Array Oper}
theorem yz{a b:List Nat}:Ys a b=true↔∃ x,x∈a/\x∈b:=by
 unfold Ys;rw[List.any_eq_true];simp only[zK]
structure DrawFacts(ops:Array Oper)(fs:List Ft):Prop where
 len:fs.length=ops.size
 edge:∀ {i:Nat} {o:Oper},ops[i]?=some o->∀ e:Edge,e∈o.after->Region.binds .any e=true->e.on < i
 fro:∀ {j:Nat} {g:Ft},fs[j]?=some g->∀ id∈g.fr,id∉g.ro
 pair:∀ {i j:Nat} {f g:Ft},i < j->fs[i]?=some f->fs[j]?=some g->JQ f g=false/\(uy f g (xB ops i) (xB ops j)=true->i∈((WA ops.toList)[j]?).getD [])
theorem qK{fs:List Ft}(h:yKa ops fs=true):DrawFacts ops fs:=by
 unfold yKa at h;simp only[Bool.and_eq_true,List.all_eq_true,List.mem_range] at h;obtain⟨h0,h1⟩:=h;have hlen:=Nat.eq_of_beq_eq_true h0;refine⟨hlen,fun {i o} hi e he hbe=>?_,fun {j g} hj id hid=>?_,fun {i j f g} hij hi hj=>?_⟩
 ·have hlt:=(Array.getElem?_eq_some_iff.1 hi).1;have:=h1 i hlt;rw[hi,List.getElem?_eq_getElem (by omega:i < fs.length)] at this;simp only[Bool.and_eq_true,List.all_eq_true] at this;simpa[Nat.blt_eq,hbe] using this.1.1 e (by simpa using he)
 ·have hlt:j < ops.size:=by have:=(List.getElem?_eq_some_iff.1 hj).1;omega
  have:=h1 j hlt;rw[hj,Array.getElem?_eq_getElem hlt] at this;simp only[Bool.and_eq_true,List.all_eq_true] at this;have:=this.1.2 id hid;simp only[Bool.not_eq_true',<- Bool.not_eq_true,zK] at this;exact this
 ·have hlt:j < ops.size:=by have:=(List.getElem?_eq_some_iff.1 hj).1;omega
  have:=h1 j hlt;rw[hj,Array.getElem?_eq_getElem hlt] at this;simp only[Bool.and_eq_true,List.all_eq_true,List.mem_range] at this;have:=this.2 i hij;rw[hi] at this;simp only[Bool.and_eq_true,Bool.or_eq_true,Bool.not_eq_true',zK] at this;refine⟨this.1,fun hc=>?_⟩;rcases this.2 with h2 | h2
  ·rw[hc] at h2;cases h2
  ·exact h2
def DownC(ops:Array Oper)(E:Nat->Bool):Prop:=∀ j,E j=true->∀ k∈((WA ops.toList)[j]?).getD [],E k=true
def JD(acc:List (List Nat))(o:Oper):List (List Nat):=acc++[o.after.toList.foldl (fun l e=>bif Region.binds .any e then e.on::((acc[e.on]?).getD []++l) else l) []]
theorem yLa(l:List Oper):∀ (acc:List (List Nat)) (j:Nat),j < acc.length->(l.foldl JD acc)[j]?=acc[j]?:=by
 induction l with
 | nil=>intro acc j _;rfl
 | cons o r ih=>
  intro acc j hj;rw[List.foldl_cons,ih _ _ (by simp[JD];omega)];unfold JD;rw[List.getElem?_append_left hj]
theorem yMa{acc:List (List Nat)}(es:List Edge):∀ (l:List Nat) (k:Nat),k∈es.foldl (fun l e=>bif Region.binds .any e then e.on::((acc[e.on]?).getD []++l) else l) l->k∈l\/∃ e∈es,Region.binds .any e=true/\(k=e.on\/k∈(acc[e.on]?).getD []):=by
 induction es with
 | nil=>intro l k h;exact .inl h
 | cons e r ih=>
  intro l k h;rw[List.foldl_cons] at h;rcases ih _ k h with h1 | ⟨e',he',h1⟩
  ·cases hb:Region.binds .any e with
   | false=>rw[hb] at h1;exact .inl h1
   | true=>
    rw[hb] at h1;simp only[cond_true,List.mem_cons,List.mem_append] at h1;rcases h1 with h1 | h1 | h1
    ·exact .inr ⟨e,by simp,hb,.inl h1⟩
    ·exact .inr ⟨e,by simp,hb,.inr h1⟩
    ·exact .inl h1
  ·exact .inr ⟨e',List.mem_cons_of_mem _ he',h1⟩
theorem UX : ∀ (l:List Oper) (acc:List (List Nat)),(∀ i o,l[i]?=some o->∀ e∈o.after,Region.binds .any e=true->e.on < acc.length+i)->∀ i o,l[i]?=some o->∀ k∈((l.foldl JD acc)[acc.length+i]?).getD [],∃ e∈o.after,Region.binds .any e=true/\(k=e.on\/k∈((l.foldl JD acc)[e.on]?).getD [])
 | [],_,_,i,o,h,_,_=>by simp at h
 | o0::r,acc,hed,0,o,h,k,hk=>by
  simp at h;subst h;rw[Nat.add_zero,List.foldl_cons,yLa _ _ _ (by simp[JD])] at hk;have e1:(JD acc o0)[acc.length]?=some (o0.after.toList.foldl (fun l e=>bif Region.binds .any e then e.on::((acc[e.on]?).getD []++l) else l) []):=by simp[JD]
  rw[e1] at hk;rcases yMa _ _ k hk with h1 | ⟨e,he,hb,h1⟩
  ·cases h1
  ·refine⟨e,by simpa using he,hb,?_⟩;rcases h1 with h1 | h1
   ·exact .inl h1
   ·right
    have hlt:e.on < acc.length:=by have:=hed 0 o0 rfl e (by simpa using he) hb;simpa using this
    rw[List.foldl_cons,yLa _ _ _ (by simp[JD];omega)];unfold JD;rw[List.getElem?_append_left hlt];exact h1
 | o0::r,acc,hed,i+1,o,h,k,hk=>by
  have hl:(JD acc o0).length=acc.length+1:=by simp[JD]
  have:=UX r (JD acc o0) (fun j o' hj e he hbe=>by have:=hed (j+1) o' (by simpa using hj) e he hbe;rw[hl];omega) i o (by simpa using h) k (by
   rw[hl,show acc.length+1+i=acc.length+(i+1) by omega];exact hk)
  exact this
theorem preds_ok{fs:List Ft}(F:DrawFacts ops fs){E:Nat->Bool}(h:DownC ops E){i:Nat}{o:Oper}(ho:ops[i]?=some o)(hr:∀ e∈o.after,Region.binds .any e=true->E e.on=true):∀ k∈((WA ops.toList)[i]?).getD [],E k=true:=by
 intro k hk;have hf:WA ops.toList=ops.toList.foldl JD []:=rfl;rw[hf] at hk;obtain⟨e,he,hb,h1⟩:=UX ops.toList [] (fun i o hi e he hbe=>by have:=F.edge (i:=i) (o:=o) (by simpa using hi) e he hbe;simpa using this) i o (by simpa using ho) k (by rw[List.length_nil,Nat.zero_add];exact hk);rcases h1 with rfl | h1
 ·exact hr e he hb
 ·exact h e.on (hr e he hb) k h1
theorem vl{l:List Nat}{i:Nat}:inL l i=false↔i∉l:=by rw[<- Bool.not_eq_true,zK]
theorem Uz{id:Nat}{full:List (Nat×PV)}:∀ {l:List (Nat×PV)},(∀ x∈l,x.2.has id=true->∀ q,xy full x.1=some q->q.has id=false)->z8a id full l=true
 | [],_=>rfl
 | (k,p)::r,h=>by
  unfold z8a;have ih:=Uz (l:=r) (full:=full) (id:=id) fun x hx=>h x (List.mem_cons_of_mem _ hx)
  cases hb:p.has id with
  | false=>exact ih
  | true=>
   rw[cond_true,ih,Bool.and_true]
   cases hg:xy full k with
   | none=>rfl
   | some q=>simp[h (k,p) (by simp) hb q hg]
theorem JR(js:List Nat):∀ (s:PState) (x:Nat×PV),x∈(s.junks js).sl->x.2=.junk\/x∈s.sl:=by
 induction js with
 | nil=>intro s x h;exact .inr h
 | cons d r ih=>
  intro s x h;rcases ih _ x h with h1 | h1
  ·exact .inl h1
  ·rcases List.mem_cons.1 h1 with h2 | h2
   ·exact .inl (by rw[h2])
   ·exact .inr h2
theorem yNa(js:List Nat):∀ (s:PState) (t:Nat),(t∈js->xy (s.junks js).sl t=some PV.junk)/\(xy s.sl t=some PV.junk->xy (s.junks js).sl t=some PV.junk):=by
 induction js with
 | nil=>intro s t;exact⟨fun h=>absurd h List.not_mem_nil,fun h=>h⟩
 | cons d r ih=>
  intro s t;have h2:xy s.sl t=some .junk->xy (s.put d .junk).sl t=some .junk:=fun h=>by
   rw[PState.put,zo];split
   ·rfl
   ·exact h
  refine⟨fun h=>?_,fun h=>(ih _ t).2 (h2 h)⟩;rcases List.mem_cons.1 h with rfl | h
  ·exact(ih _ t).2 (by rw[PState.put,zo,if_pos rfl])
  ·exact(ih _ t).1 h
theorem alone_of{s:PState}{id:Nat}{js ao:List Nat}(h1:∀ x∈s.sl,x.2.has id=true->x.1∈js)(h2:∀ x∈s.objs,inL ao x.1=true\/x.2.has id=false):(s.junks js).aloneX id ao=true:=by
 unfold PState.aloneX;rw[Bool.and_eq_true];refine⟨Uz fun x hx hh q hq=>?_,List.all_eq_true.2 fun x hx=>?_⟩
 ·rcases JR js s x hx with h | h
  ·rw[h] at hh;simp[PV.has] at hh
  ·rw[(yNa js s x.1).1 (h1 x h hh)] at hq
   cases hq
   rfl
 ·rw[zw] at hx;rcases h2 x hx with h | h <;> simp[h]
theorem fresh_of{s:PState}{id:Nat}(h1:∀ x∈s.sl,x.2.has id=false)(h2:∀ x∈s.objs,x.1≠id/\x.2.has id=false):s.fresh id=true:=by
 unfold PState.fresh;rw[Bool.and_eq_true];refine⟨Uz fun x hx hh=>?_,List.all_eq_true.2 fun x hx=>?_⟩
 ·rw[h1 x hx] at hh;cases hh
 ·simp[h2 x hx]
structure InvE(s0:PState)(es:List Ef)(E:Nat->Bool)(s:PState):Prop where
 n:s.n=s0.n
 sl:∀ t,xy s.sl t=UW (es.map fun e=>xy e.U t) E 0 (xy s0.sl t)
 ob:∀ id,look s.objs id=UW (es.map fun e=>look e.V id) E 0 (look s0.objs id)
 ms:∀ x∈s.sl,x∈s0.sl\/∃ j e,E j=true/\es[j]?=some e/\x∈e.U
 mo:∀ x∈s.objs,x∈s0.objs\/∃ j e,E j=true/\es[j]?=some e/\x∈e.V
theorem InvE.zero{s0:PState}{es:List Ef}{E:Nat->Bool}(h:∀ j,E j=false):InvE s0 es E s0:=
 ⟨rfl,fun _=>(XN fun _ _ _=>h _).symm,fun _=>(XN fun _ _ _=>h _).symm,fun _ h=>.inl h,fun _ h=>.inl h⟩
theorem InvE.step{s0 s:PState}{es:List Ef}{E E':Nat->Bool}(h:InvE s0 es E s){i:Nat}{e:Ef}(hi:es[i]?=some e)(h0:E i=false)(h1:E' i=true)(hE:∀ j,j≠i->E' j=E j)
  (hU:∀ j e',i < j->es[j]?=some e'->E j=true->∀ t,t∈e.U.map (·.1)->t∉e'.U.map (·.1)) (hV:∀ j e',i < j->es[j]?=some e'->E j=true->∀ t,t∈e.V.map (·.1)->t∉e'.V.map (·.1)):InvE s0 es E' (s.app e):=by
 have hlt:∀ j,E j=true->j≠i:=fun j hj e=>by rw[e,h0] at hj;cases hj
 refine⟨h.n,fun t=>?_,fun id=>?_,fun x hx=>?_,fun x hx=>?_⟩
 ·show xy (e.U++s.sl) t=_;rw[XO,h.sl];refine(Uy (i:=i) (by simp[hi]) (by simpa using h1) (fun j hj=>hE j (by simpa using hj)) (fun hx j y hij hj=>?_) (by simpa using h0)).symm;rw[Nat.zero_add]
  cases hb:E j with
  | false=>rfl
  | true=>
   rw[List.getElem?_map] at hj
   cases he:es[j]? with
   | none=>rw[he] at hj;cases hj
   | some e'=>
    rw[he] at hj;simp only[Option.map_some,Option.some.injEq] at hj;exact absurd (XP.1 (by rw[hj];rfl)) (hU j e' hij he hb t (XP.1 hx))
 ·show look (e.V.foldr _ s.objs) id=_;rw[look_app,h.ob];refine(Uy (i:=i) (by simp[hi]) (by simpa using h1) (fun j hj=>hE j (by simpa using hj)) (fun hx j y hij hj=>?_) (by simpa using h0)).symm;rw[Nat.zero_add]
  cases hb:E j with
  | false=>rfl
  | true=>
   rw[List.getElem?_map] at hj
   cases he:es[j]? with
   | none=>rw[he] at hj;cases hj
   | some e'=>
    rw[he] at hj;simp only[Option.map_some,Option.some.injEq] at hj;exact absurd (XQ.1 (by rw[hj];rfl)) (hV j e' hij he hb id (XQ.1 hx))
 ·rcases List.mem_append.1 hx with hx | hx
  ·exact .inr ⟨i,e,h1,hi,hx⟩
  ·rcases h.ms x hx with h2 | ⟨j,e',a,b,c⟩
   ·exact .inl h2
   ·exact .inr ⟨j,e',by rw[hE j (hlt j a)];exact a,b,c⟩
 ·rcases app_mem (k:=x.1) (o:=x.2) hx with hx | hx
  ·exact .inr ⟨i,e,h1,hi,hx⟩
  ·rcases h.mo x hx with h2 | ⟨j,e',a,b,c⟩
   ·exact .inl h2
   ·exact .inr ⟨j,e',by rw[hE j (hlt j a)];exact a,b,c⟩
theorem Does.run{o:Oper}{s s':PState}{f:Ft}{e:Ef}(y:Does P ctx ops o s f e)(hn:s'.n=s.n)(hl:∀ t,t∈o.looksAt ops->xy s'.sl t=xy s.sl t)(ho:∀ id∈f.ro,look s'.objs id=look s.objs id)
  (hf:∀ id∈f.fr,s'.fresh id=true) (ha:∀ a∈f.al,(s'.junks a.2).aloneX a.1 f.ao=true) {i:Nat} (hi:ops[i]?=some o) {a:Act} {w:World} (hr:Rel ctx s' a w) {K:Act->World->Prop} {Qx:Exit->Act->World->Prop}
  (hK:∀ a' w',Rel ctx (s'.app e) a' w'->K a' w'):wpOp P ops Qx i K a w:=by
 have hat:∀ t,t∈o.looksAt ops->s'.at t=s.at t:=fun t ht=>by rw[ZZ,ZZ,hn,hl t ht]
 have hund:s'.app (undE o)=s'.putD o.dst .und:=by unfold undE;cases o.dst <;> rfl
 unfold wpOp;simp only[hi];rcases y.2 with⟨hd,hg⟩ | ⟨hg,rfl⟩
 ·have hloc:Local P ctx o s' (s'.app e):=by
   refine hd s' hn (fun {x q} hx hq=>?_) (fun {id ob} hid h=>by rw[ho id hid];exact h) hf ha
   cases x with
   | tmp t=>
    show s'.at t=some q;rw[hat t ?_]
    ·exact hq
    ·simp only[xU,List.any_eq_true] at hx;obtain⟨x,hx1,hx2⟩:=hx;unfold Oper.looksAt;refine List.mem_append_left _ (List.mem_filterMap.2 ⟨x,hx1,?_⟩)
     cases x with
     | tmp u=>simp only at hx2;rw[Nat.eq_of_beq_eq_true hx2]
     | _=>simp at hx2
   | const v=>cases v <;> exact hq
   | func f=>exact hq
   | global g=>exact hq
  have hw:Region.wanted o (yielded ops a.tmps)=true:=by
   rcases hg with hg | ⟨j,b,d,hg,hd2,hs⟩
   ·simp[Region.wanted,hg]
   ·obtain⟨g,hrg⟩:=hr;have hs':s'.at d=some (.d (.v (.bool b))):=by
     rw[hat d (by unfold Oper.looksAt;rw[hg];refine List.mem_append_right _ ?_;simp[hd2])];exact hs
    simp[Region.wanted,hg,vf hrg hd2 hs']
  rw[if_pos hw];exact .inl (hloc a w hr K Qx hK)
 ·rw[hund] at hK;obtain⟨g,hrg⟩:=hr;rcases hg with⟨j,b,c,d,hg,hd,hs,hbc⟩ | ⟨j,b,d,hg,hd,hs⟩
  ·have hs':s'.at d=some (.d (.v (.bool c))):=by
    rw[hat d (by unfold Oper.looksAt;rw[hg];refine List.mem_append_right _ ?_;simp[hd])];exact hs
   have hw:Region.wanted o (yielded ops a.tmps)=false:=by simp[Region.wanted,hg,vf hrg hd hs',hbc]
   rw[hw];exact hK _ _ ⟨g,hrg.put o.dst Rd.und⟩
  ·have hs':s'.at d=some .und:=by
    rw[hat d (by unfold Oper.looksAt;rw[hg];refine List.mem_append_right _ ?_;simp[hd])];exact hs
   have hw:Region.wanted o (yielded ops a.tmps)=false:=by simp[Region.wanted,hg,Yq hrg hd hs']
   rw[hw];exact hK _ _ ⟨g,hrg.put o.dst Rd.und⟩
theorem Run.lens{l:List Oper}{fs:List Ft}{s t:PState}{es:List Ef}(h:Run P ctx ops l fs s es t):es.length=l.length/\fs.length=l.length:=by
 induction h with
 | nil=>exact⟨rfl,rfl⟩
 | cons _ _ ih=>exact⟨by simp[ih.1],by simp[ih.2]⟩
theorem Run.at_ : ∀ {rest:List Oper} {fs:List Ft} {s t s0:PState} {es pre all:List Ef} {b:Nat},Run P ctx ops rest fs s es t->all=pre++es->pre.length=b->InvE s0 all (fun j=>decide (j < b)) s ->
  (∀ (i:Nat) (o:Oper) (f:Ft),rest[i]?=some o->fs[i]?=some f->∃ S e,all[b+i]?=some e/\InvE s0 all (fun j=>decide (j < b+i)) S/\Does P ctx ops o S f e)/\InvE s0 all (fun j=>decide (j < b+rest.length)) t:=by
 intro rest
 induction rest with
 | nil=>
  intro fs s t s0 es pre all b h _ _ hh
  cases h
  exact⟨by simp,by simpa using hh⟩
 | cons o rest ih=>
  intro fs s t s0 es pre all b h hall hb hh
  cases h with
  | @cons _ _ f fs _ _ e es y h=>
   have he:all[b]?=some e:=by subst hall;subst hb;simp
   have hst:InvE s0 all (fun j=>decide (j < b+1)) (s.app e):=hh.step he (by simp) (by simp) (fun j hj=>by
    have:(j < b+1)=(j < b):=by apply propext;omega
    simp only[this]) (fun j _ hj _ hE=>by simp at hE;omega) (fun j _ hj _ hE=>by simp at hE;omega)
   obtain⟨h1,h2⟩:=ih (b:=b+1) (pre:=pre++[e]) h (by simp[hall]) (by simp[hb]) hst;refine⟨fun i o' f' ho hf=>?_,by rw[List.length_cons,show b+(rest.length+1)=b+1+rest.length by omega];exact h2⟩
   cases i with
   | zero=>simp at ho hf;subst ho;subst hf;exact⟨s,e,he,hh,y⟩
   | succ i=>
    simp at ho hf;obtain⟨S,q,e1,e2,e3⟩:=h1 i o' f' ho hf;exact⟨S,q,by rw[<- e1];congr 1;omega,by rw[show b+(i+1)=b+1+i by omega];exact e2,e3⟩
theorem DrawFacts.ahead{fs:List Ft}(F:DrawFacts ops fs){E:Nat->Bool}(h:DownC ops E){i j:Nat}{f g:Ft}(hij:i < j)(hi:fs[i]?=some f)(hj:fs[j]?=some g)(hc:uy f g (xB ops i) (xB ops j)=true)(hE:E j=true):E i=true:=
 h j hE i ((F.pair hij hi hj).2 hc)
theorem zTa{s0 S:PState}{fs:List Ft}{es:List Ef}{Qx:Exit->Act->World->Prop}(F:DrawFacts ops fs)(hS0:QV s0 fs=true)(hlen:es.length=ops.size)
  (hY:∀ (i:Nat) (o:Oper) (f:Ft),ops[i]?=some o->fs[i]?=some f->∃ T e,es[i]?=some e/\InvE s0 es (fun j=>decide (j < i)) T/\Does P ctx ops o T f e) (hS:InvE s0 es (fun j=>decide (j < ops.size)) S)
  (hQ:∀ a w,Rel ctx S a w->Qx .normal a w):∀ (fuel:Nat) (listed:Array Bool) (s:PState) (a:Act) (w:World),listed.size=ops.size->listed.toList.count false<=fuel->InvE s0 es (fun j=>listed.getD j false) s->DownC ops (fun j=>listed.getD j false)->Rel ctx s a w ->
   wpAny P .any ops Qx fuel listed a w:=by
 have hfs:∀ i,i < ops.size->∃ f,fs[i]?=some f:=fun i hi=>⟨fs[i]'(by rw[F.len];exact hi),List.getElem?_eq_getElem _⟩
 have hok:∀ {i:Nat} {e:Ef},es[i]?=some e->∃ f,fs[i]?=some f/\okE f e=true:=fun {i e} he=>by
  have hi:i < ops.size:=by rw[<- hlen];exact(List.getElem?_eq_some_iff.1 he).1
  obtain⟨f,hf⟩:=hfs i hi;obtain⟨T,e',h1,_,h2⟩:=hY i ops[i] f (Array.getElem?_eq_getElem hi) hf;rw[he] at h1
  cases h1
  exact⟨f,hf,h2.1⟩
 have okU:∀ {f:Ft} {e:Ef},okE f e=true->(∀ t,t∈e.U.map (·.1)->t∈f.ws)/\(∀ t,t∈e.V.map (·.1)->t∈f.wo)/\(∀ x∈e.U,x.2.named f.nm=true)/\(∀ x∈e.V,x.2.named f.no=true):=fun {f e} h=>by
  simp only[okE,Bool.and_eq_true,List.all_eq_true] at h;exact⟨fun t ht=>zK.1 (h.1.1.1 t ht),fun t ht=>zK.1 (h.1.1.2 t ht),h.1.2,h.2⟩
 have hall:∀ listed:Array Bool,listed.size=ops.size->Region.ready .any ops listed=[]->∀ i,i < ops.size->listed.getD i false=true:=by
  intro listed hsz hr i
  induction i using Nat.strongRecOn with
  | _ i ih=>
   intro hi
   cases hb:listed.getD i false with
   | true=>rfl
   | false=>
    have hlt:i < listed.size:=by omega
    have hmem:i∈Region.ready .any ops listed:=by
     refine ue.2 ⟨hi,?_,ops[i],Array.getElem?_eq_getElem hi,fun e he hbe=>?_⟩
     ·simp[Array.getD,hlt] at hb ⊢;exact hb
     ·have:=F.edge (Array.getElem?_eq_getElem hi) e he hbe;exact ih e.on this (by omega)
    rw[hr] at hmem
    cases hmem
 have hfin:∀ (listed:Array Bool) (s:PState) (a:Act) (w:World),listed.size=ops.size->InvE s0 es (fun j=>listed.getD j false) s->Rel ctx s a w->Region.ready .any ops listed=[]->Qx .normal a w:=by
  intro listed s a w hsz hh hr hrdy;have ha:=hall listed hsz hrdy;have hlt:∀ {β:Type} {g:Ef->Option β} {k:Nat} {x:β},(es.map g)[k]?=some (some x)->k < ops.size:=fun {β g k x} hk=>by
   have:=(List.getElem?_eq_some_iff.1 hk).1;rw[List.length_map] at this;omega
  refine hQ a w (Sub.drop (s:=s) (t:=S) (by rw[hh.n,hS.n]) (fun i p hp=>?_) (fun id o ho=>?_) a w hr)
  ·rw[ZZ] at hp ⊢;rw[hh.n,<- hS.n,hh.sl];rw[hS.sl] at hp;rw[<- hp]
   split
   ·exact ug fun j x hj=>by have:=hlt hj;simp only[Nat.zero_add,ha j this,this,decide_true]
   ·rfl
  ·rw[hh.ob];rw[hS.ob] at ho;rw[<- ho];exact ug fun j x hj=>by have:=hlt hj;simp only[Nat.zero_add,ha j this,this,decide_true]
 intro fuel
 induction fuel with
 | zero=>
  intro listed s a w hsz hc hh _ hr;have hrdy:Region.ready .any ops listed=[]:=by
   apply List.eq_nil_iff_forall_not_mem.2;intro i hi;obtain⟨h1,h2,_⟩:=ue.1 hi;have hlt:i < listed.size:=by omega
   have hm:false∈listed.toList:=by
    simp[Array.getD,hlt] at h2;rw[<- h2];simp
   have:=List.count_pos_iff.2 hm;omega
  exact⟨hrdy,hfin listed s a w hsz hh hr hrdy⟩
 | succ fuel ih=>
  intro listed s a w hsz hc hh hdn hr;refine⟨hfin listed s a w hsz hh hr,fun i hi=>?_⟩;obtain⟨h1,h2,o,ho,he⟩:=ue.1 hi;have hlt:i < listed.size:=by omega
  have hli:listed[i]=false:=by simpa[Array.getD,hlt] using h2
  have hi0:listed.getD i false=false:=by simp[Array.getD,hlt,hli]
  have hpr:=preds_ok F hdn ho he;obtain⟨f,hf⟩:=hfs i h1;obtain⟨T,e,hee,hT,y⟩:=hY i o f ho hf;have hre:xB ops i=o.looksAt ops:=by simp[xB,ho]
  -- how another operation stands to this one
  have hbef:∀ {j:Nat} {g:Ft},j < i->fs[j]?=some g->uy g f (xB ops j) (xB ops i)=true->listed.getD j false=true:=fun {j g} hji hg hcl=>hpr j ((F.pair hji hg hf).2 hcl)
  have haft:∀ {j:Nat} {g:Ft},i < j->fs[j]?=some g->uy f g (xB ops i) (xB ops j)=true->listed.getD j false=false:=fun {j g} hij hg hcl=>by
   cases hb:listed.getD j false with
   | false=>rfl
   | true=>have:=F.ahead hdn hij hf hg hcl hb;rw[hi0] at this;cases this
  have same:∀ {β:Type} (wr:Ef->Option β) (c:Option β),(∀ j e' g,j < i->es[j]?=some e'->(wr e').isSome=true->fs[j]?=some g->okE g e'=true->uy g f (xB ops j) (xB ops i)=true) ->
    (∀ j e' g,i < j->es[j]?=some e'->(wr e').isSome=true->fs[j]?=some g->okE g e'=true->uy f g (xB ops i) (xB ops j)=true) ->
    UW (es.map wr) (fun j=>listed.getD j false) 0 c=UW (es.map wr) (fun j=>decide (j < i)) 0 c:=fun {β} wr c hb ha=>by
   refine ug fun j x hj=>?_
   rw[List.getElem?_map] at hj
   cases hej:es[j]? with
   | none=>rw[hej] at hj;cases hj
   | some e'=>
    rw[hej] at hj;simp only[Option.map_some,Option.some.injEq] at hj;obtain⟨g,hg,hk⟩:=hok hej;simp only[Nat.zero_add];rcases Nat.lt_trichotomy j i with hji | hji | hji
    ·rw[hbef hji hg (hb j e' g hji hej (by rw[hj];rfl) hg hk)];simp[hji]
    ·subst hji;rw[hi0];simp
    ·rw[haft hji hg (ha j e' g hji hej (by rw[hj];rfl) hg hk)];simp;omega
  have nm1:∀ {id j:Nat} {e':Ef} {g:Ft} {x:Nat×PV},fs[j]?=some g->okE g e'=true->x∈e'.U->x.2.has id=true->id∈g.nm:=fun {id j e' g x} _ hk hx hh=>PV.named_has ((okU hk).2.2.1 x hx) hh
  have nm2:∀ {id j:Nat} {e':Ef} {g:Ft} {x:Nat×Ob},fs[j]?=some g->okE g e'=true->x∈e'.V->x.2.has id=true->id∈g.no:=fun {id j e' g x} _ hk hx hh=>Ob.named_has ((okU hk).2.2.2 x hx) hh
  simp only[QV,List.all_eq_true,Bool.and_eq_true,Bool.or_eq_true,Bool.not_eq_true',bne_iff_ne,ne_eq,zK] at hS0;have hSf:=hS0 f (List.mem_of_getElem? hf);refine y.run (hh.n.trans hT.n.symm) (fun t ht=>?_) (fun id hid=>?_) (fun id hid=>?_) (fun al hal=>?_) ho hr fun a' w' hr'=>?_
  ·rw[hh.sl,hT.sl];rw[<- hre] at ht;exact same (fun e=>xy e.U t) _ (fun j e' g _ _ hw _ hk=>by
    have:=yz.2 ⟨t,(okU hk).1 t (XP.1 hw),ht⟩;simp[uy,this]) (fun j e' g _ _ hw _ hk=>by
    have:=yz.2 ⟨t,ht,(okU hk).1 t (XP.1 hw)⟩;simp[uy,this])
  ·rw[hh.ob,hT.ob];exact same (fun e=>look e.V id) _ (fun j e' g _ _ hw _ hk=>by
    have:=yz.2 ⟨id,(okU hk).2.1 id (XQ.1 hw),hid⟩;simp[uy,this]) (fun j e' g _ _ hw _ hk=>by
    have:=yz.2 ⟨id,hid,(okU hk).2.1 id (XQ.1 hw)⟩;simp[uy,this])
  ·refine fresh_of (fun x hx=>?_) (fun x hx=>?_)
   ·rcases hh.ms x hx with h3 | ⟨j,e',hEj,hej,hxe⟩
    ·exact(hSf.1 id hid).1 x h3
    ·cases hb:x.2.has id with
     | false=>rfl
     | true=>
      exfalso;obtain⟨g,hg,hk⟩:=hok hej;have hn:=nm1 hg hk hxe hb;rcases Nat.lt_trichotomy j i with hji | hji | hji
      ·have:=(F.pair hji hg hf).1;simp[JQ,yz.2 ⟨id,hid,hn⟩] at this
      ·subst hji;rw[hi0] at hEj;cases hEj
      ·rw[haft hji hg (by simp[uy,yz.2 ⟨id,hid,hn⟩])] at hEj;cases hEj
   ·rcases hh.mo x hx with h3 | ⟨j,e',hEj,hej,hxe⟩
    ·exact(hSf.1 id hid).2 x h3
    ·obtain⟨g,hg,hk⟩:=hok hej
     constructor
     ·intro hid2;have hn:id∈g.wo:=(okU hk).2.1 id (List.mem_map.2 ⟨x,hxe,hid2⟩);rcases Nat.lt_trichotomy j i with hji | hji | hji
      ·have:=(F.pair hji hg hf).1;simp[JQ,yz.2 ⟨id,hid,hn⟩] at this
      ·subst hji;rw[hi0] at hEj;cases hEj
      ·rw[haft hji hg (by simp[uy,yz.2 ⟨id,hid,hn⟩])] at hEj;cases hEj
     ·cases hb:x.2.has id with
      | false=>rfl
      | true=>
       exfalso;have hn:=nm2 hg hk hxe hb;rcases Nat.lt_trichotomy j i with hji | hji | hji
       ·have:=(F.pair hji hg hf).1;simp[JQ,yz.2 ⟨id,hid,hn⟩] at this
       ·subst hji;rw[hi0] at hEj;cases hEj
       ·rw[haft hji hg (by simp[uy,yz.2 ⟨id,hid,hn⟩])] at hEj;cases hEj
  ·refine alone_of (fun x hx hb=>?_) (fun x hx=>?_)
   ·rcases hh.ms x hx with h3 | ⟨j,e',hEj,hej,hxe⟩
    ·rcases(hSf.2 al hal).1 x h3 with h4 | h4
     ·rw[hb] at h4;cases h4
     ·exact h4
    ·obtain⟨g,hg,hk⟩:=hok hej;have hn:=nm1 hg hk hxe hb;rcases Nat.lt_trichotomy j i with hji | hji | hji
     ·have:=(F.pair hji hg hf).1;simp only[JQ,Bool.or_eq_false_iff,List.any_eq_false] at this;have h5:=this.2 al hal;simp only[Bool.or_eq_true,Bool.and_eq_true,zK,Bool.not_eq_true',not_or,not_and,Bool.not_eq_false,List.all_eq_true] at h5;exact h5.2 hn _ ((okU hk).1 _ (List.mem_map.2 ⟨x,hxe,rfl⟩))
     ·subst hji;rw[hi0] at hEj;cases hEj
     ·have h6:(f.al.any fun a=>inL g.nm a.1)=true:=List.any_eq_true.2 ⟨al,hal,zK.2 hn⟩;rw[haft hji hg (by simp only[uy,h6,Bool.or_true,Bool.true_or])] at hEj;cases hEj
   ·rcases hh.mo x hx with h3 | ⟨j,e',hEj,hej,hxe⟩
    ·rcases(hSf.2 al hal).2 x h3 with h4 | h4
     ·exact .inl (zK.2 h4)
     ·exact .inr h4
    ·right
     cases hb:x.2.has al.1 with
     | false=>rfl
     | true=>
      exfalso;obtain⟨g,hg,hk⟩:=hok hej;have hn:=nm2 hg hk hxe hb;rcases Nat.lt_trichotomy j i with hji | hji | hji
      ·have:=(F.pair hji hg hf).1;simp only[JQ,Bool.or_eq_false_iff,List.any_eq_false] at this;have h5:=this.2 al hal;simp only[Bool.or_eq_true,zK,not_or] at h5;exact h5.1 hn
      ·subst hji;rw[hi0] at hEj;cases hEj
      ·have h6:(f.al.any fun a=>inL g.no a.1)=true:=List.any_eq_true.2 ⟨al,hal,zK.2 hn⟩;rw[haft hji hg (by simp only[uy,h6,Bool.or_true])] at hEj;cases hEj
  ·have hgt:∀ j,j≠i->(listed.setIfInBounds i true).getD j false=listed.getD j false:=fun j hj=>by
    simp[Array.getD_eq_getD_getElem?,Ne.symm hj]
   have hgi:(listed.setIfInBounds i true).getD i false=true:=by simp[Array.getD,hlt]
   refine ih _ _ a' w' (by simpa using hsz) ?_ (hh.step hee hi0 hgi hgt (fun j e' hij hej hEj t ht ht2=>?_) (fun j e' hij hej hEj t ht ht2=>?_)) (fun j hj k hk=>?_) hr'
   ·have:=JK (l:=listed.toList) (i:=i) (by simp[hlt,hli]);simp only[Array.toList_setIfInBounds];omega
   ·obtain⟨g,hg,hk⟩:=hok hej;rw[haft hij hg (by simp[uy,yz.2 ⟨t,(okU y.1).1 t ht,(okU hk).1 t ht2⟩])] at hEj;cases hEj
   ·obtain⟨g,hg,hk⟩:=hok hej;rw[haft hij hg (by simp[uy,yz.2 ⟨t,(okU y.1).2.1 t ht,(okU hk).2.1 t ht2⟩])] at hEj;cases hEj
   ·by_cases hki:k=i
    ·subst hki;exact hgi
    ·show(listed.setIfInBounds i true).getD k false=true;rw[hgt k hki]
     by_cases hji:j=i
     ·subst hji;exact hpr k hk
     ·exact hdn j (show listed.getD j false=true by rw[<- hgt j hji];exact hj) k hk
theorem PWc.regionE{Q:PQ}{s:PState}{id:Nat}{l:List Oper}(fs:List Ft)(hm:P.follows .mixedOrders=true)(hB:yKa l.toArray fs=true)(hS:QV s fs=true)(h:PQe P ctx l.toArray (Q .normal) l fs s):PWc P ctx (.region id l.toArray true) Q s:=by
 intro a w ⟨g,hr⟩;obtain⟨es,t,hrun,u,hu,hsub⟩:=h.run;have F:=qK hB;have h0:InvE s es (fun j=>decide (j < 0)) s:=InvE.zero fun j=>by simp
 obtain⟨h1,h2⟩:=hrun.at_ (all:=es) (pre:=[]) (b:=0) (s0:=s) rfl rfl h0;refine wp_region_any hm ?_;refine zTa (es:=es) (s0:=s) (S:=t) F hS (by simpa using hrun.lens.1) (fun i o f ho hf=>?_) (by simpa using h2) (fun a w hr=>⟨u,hu,hsub a w hr⟩) _ _ s a _ (by simp) ?_ ?_ ?_ ⟨g,hr.below (Below.refl _ w).drew⟩
 ·obtain⟨S,e,e1,e2,e3⟩:=h1 i o f (by simpa using ho) hf;exact⟨S,e,by simpa using e1,by simpa using e2,e3⟩
 ·simp
 ·exact InvE.zero fun j=>by simp[Array.getD]
 ·intro j hj;simp[Array.getD] at hj
end
end Go.Ep
namespace Go.Ep
open Go.RowKit
section
variable{P:Program}{ctx:Ctx}{ops:Array Oper}{Q:PState->Prop}
def WV(d:Option Nat)(p:PV):List (Nat×PV):=match d with | some d=>[(d,p)] | none=>[]
theorem app_P(s:PState)(d:Option Nat)(p:PV):s.app ⟨WV d p,[]⟩=s.putD d p:=by cases d <;> rfl
theorem app_SD(s:PState)(d:Option Nat)(p:PV)(id:Nat)(ob:Ob):s.app ⟨WV d p,[(id,ob)]⟩=(s.setO id ob).putD d p:=by cases d <;> rfl
theorem xF(js:List Nat):∀ s:PState,(s.junks js).sl=(js.map fun t=>(t,PV.junk)).reverse++s.sl:=by
 induction js with
 | nil=>intro s;rfl
 | cons d r ih=>intro s;rw[PState.junks,ih];simp[PState.put]
theorem Zc(js:List Nat):∀ s:PState,(s.junks js).n=s.n:=by
 induction js with
 | nil=>intro s;rfl
 | cons d r ih=>intro s;rw[PState.junks,ih];rfl
theorem app_A(s:PState)(d:Option Nat)(p:PV)(js:List Nat)(id:Nat)(ob:Ob):s.app ⟨WV d p++(js.map fun t=>(t,PV.junk)).reverse,[(id,ob)]⟩=((s.junks js).setO id ob).putD d p:=by
 cases d with
 | none=>simp only[PState.app,WV,PState.putD,PState.setO,xF,Zc,zw,List.nil_append,List.foldr_cons,List.foldr_nil]
 | some d=>simp only[PState.app,WV,PState.putD,PState.setO,PState.put,xF,Zc,zw,List.cons_append,List.nil_append,List.foldr_cons,List.foldr_nil]
variable{s:PState}{o:Oper}{rest:List Oper}{f:Ft}{fs:List Ft}
theorem PQe.nil(h:Q s):PQe P ctx ops Q [] [] s:=.fin h (Sub.refl _)
theorem PQe.stepP{p:PV}(hl:∀ s':PState,(∀ {x q},xU o x=true->s.ev x=some q->s'.ev x=some q)->(∀ {id ob},inL f.ro id=true->look s.objs id=some ob->look s'.objs id=some ob)->Local P ctx o s' (s'.putD o.dst p))
  (hg:Wd ops o s) (hk:okE f ⟨WV o.dst p,[]⟩=true) (h:PQe P ctx ops Q rest fs (s.putD o.dst p)):PQe P ctx ops Q (o::rest) (f::fs) s:=
 .step (e:=⟨WV o.dst p,[]⟩) (fun s' _ he ho _ _=>by rw[app_P];exact hl s' he fun hi=>ho (zK.1 hi)) hg hk (by rw[app_P];exact h)
theorem PQe.stepN{p:PV}{id:Nat}{ob:Ob}(hl:∀ s':PState,(∀ {x q},xU o x=true->s.ev x=some q->s'.ev x=some q)->(∀ {id ob},inL f.ro id=true->look s.objs id=some ob->look s'.objs id=some ob)->s'.fresh id=true->Local P ctx o s' (s'.newO id ob p))
  (hfr:inL f.fr id=true) (hg:Wd ops o s) (hk:okE f ⟨[(id,p)],[(id,ob)]⟩=true) (h:PQe P ctx ops Q rest fs (s.newO id ob p)):PQe P ctx ops Q (o::rest) (f::fs) s:=
 .step (e:=⟨[(id,p)],[(id,ob)]⟩) (fun s' _ he ho hf _=>hl s' he (fun hi=>ho (zK.1 hi)) (hf id (zK.1 hfr))) hg hk h
theorem PQe.stepS{id:Nat}{ob:Ob}(hl:∀ s':PState,(∀ {x q},xU o x=true->s.ev x=some q->s'.ev x=some q)->(∀ {id ob},inL f.ro id=true->look s.objs id=some ob->look s'.objs id=some ob)->Local P ctx o s' (s'.setO id ob))
  (hg:Wd ops o s) (hk:okE f ⟨[],[(id,ob)]⟩=true) (h:PQe P ctx ops Q rest fs (s.setO id ob)):PQe P ctx ops Q (o::rest) (f::fs) s:=
 .step (e:=⟨[],[(id,ob)]⟩) (fun s' _ he ho _ _=>hl s' he fun hi=>ho (zK.1 hi)) hg hk h
theorem PQe.stepSD{p:PV}{id:Nat}{ob:Ob}(hl:∀ s':PState,(∀ {x q},xU o x=true->s.ev x=some q->s'.ev x=some q)->(∀ {id ob},inL f.ro id=true->look s.objs id=some ob->look s'.objs id=some ob)->Local P ctx o s' ((s'.setO id ob).putD o.dst p))
  (hg:Wd ops o s) (hk:okE f ⟨WV o.dst p,[(id,ob)]⟩=true) (h:PQe P ctx ops Q rest fs ((s.setO id ob).putD o.dst p)):PQe P ctx ops Q (o::rest) (f::fs) s:=
 .step (e:=⟨WV o.dst p,[(id,ob)]⟩) (fun s' _ he ho _ _=>by rw[app_SD];exact hl s' he fun hi=>ho (zK.1 hi)) hg hk (by rw[app_SD];exact h)
def inAl(l:List (Nat×List Nat))(id:Nat)(js:List Nat):Bool:=l.any fun a=>Nat.beq a.1 id&&a.2==js
def inAo(f:Ft)(id:Nat)(js:List Nat):Bool:=f.ao.isEmpty&&inAl f.al id js
theorem PQe.stepA{p:PV}{id:Nat}{ob:Ob}(js:List Nat)(hl:∀ s':PState,(∀ {x q},xU o x=true->s.ev x=some q->s'.ev x=some q)->(∀ {id ob},inL f.ro id=true->look s.objs id=some ob->look s'.objs id=some ob)->(s'.junks js).alone id=true->Local P ctx o s' (((s'.junks js).setO id ob).putD o.dst p))
  (ha:inAo f id js=true) (hg:Wd ops o s) (hk:okE f ⟨WV o.dst p++(js.map fun t=>(t,PV.junk)).reverse,[(id,ob)]⟩=true) (h:PQe P ctx ops Q rest fs (((s.junks js).setO id ob).putD o.dst p)):PQe P ctx ops Q (o::rest) (f::fs) s:=
 .step (e:=⟨WV o.dst p++(js.map fun t=>(t,PV.junk)).reverse,[(id,ob)]⟩) (fun s' _ he ho _ hal=>by
  rw[app_A];refine hl s' he (fun hi=>ho (zK.1 hi)) ?_;unfold inAo at ha;rw[Bool.and_eq_true] at ha;obtain⟨h0,ha⟩:=ha;unfold inAl at ha;obtain⟨a,h1,h2⟩:=List.any_eq_true.1 ha;simp only[Bool.and_eq_true,beq_iff_eq] at h2;have:=hal a h1;rw[Nat.eq_of_beq_eq_true h2.1,h2.2,List.isEmpty_iff.1 h0] at this;exact zSa this) hg hk (by rw[app_A];exact h)
theorem PQe.skipP(hg:Sk ops o s)(hk:okE f (undE o)=true)(h:PQe P ctx ops Q rest fs (s.putD o.dst .und)):PQe P ctx ops Q (o::rest) (f::fs) s:=
 .skip hg hk (by have:s.app (undE o)=s.putD o.dst .und:=app_P s o.dst .und;rw[this];exact h)
theorem Same.app{s t:PState}(h:Same s t)(e:Ef):Same (s.app e) (t.app e):=by
 refine⟨h.1,fun i=>?_,?_⟩
 ·have h2:=h.2.1 i;rw[ZZ,ZZ] at h2 ⊢;show(if i < s.n then xy (e.U++s.sl) i else none)=if i < t.n then xy (e.U++t.sl) i else none
  rw[XO,XO];rw[h.1] at h2 ⊢
  by_cases hi:i < t.n
  ·simp only[hi,if_true] at h2 ⊢;rw[h2]
  ·simp only[hi,if_false]
 ·show e.V.foldr _ s.objs=e.V.foldr _ t.objs;rw[h.2.2]
theorem PQe.same{l:List Oper}{fs:List Ft}{t:PState}(h:PQe P ctx ops Q l fs t):∀ {s:PState},Same s t->PQe P ctx ops Q l fs s:=by
 induction h with
 | fin h hs=>intro s he;exact .fin h (Sub.trans he.sub hs)
 | step hl hg hk _ ih=>
  intro s he;refine .step (fun s' hn h1 h2 h3 h4=>hl s' (hn.trans he.1) (fun hx hq=>h1 hx (by rw[he.ev];exact hq)) (fun hi ho=>h2 hi (by rw[he.2.2];exact ho)) h3 h4) ?_ hk (ih (he.app _));rcases hg with hg | ⟨j,b,d,h5,h6,h7⟩
  ·exact .inl hg
  ·exact .inr ⟨j,b,d,h5,h6,by rw[he.2.1];exact h7⟩
 | skip hg hk _ ih=>
  intro s he;refine .skip ?_ hk (ih (he.app _));rcases hg with⟨j,b,c,d,h5,h6,h7,h8⟩ | ⟨j,b,d,h5,h6,h7⟩
  ·exact .inl ⟨j,b,c,d,h5,h6,by rw[he.2.1];exact h7,h8⟩
  ·exact .inr ⟨j,b,d,h5,h6,by rw[he.2.1];exact h7⟩
theorem PQe.split{d:Nat}{b:Bool}(hs:s.at d=some (.d (.v (.bool b))))(ht:b=true->PQe P ctx ops Q rest fs (s.put d (.d (.v (.bool true)))))(hf:b=false->PQe P ctx ops Q rest fs (s.put d (.d (.v (.bool false))))):PQe P ctx ops Q rest fs s:=by
 have e:Same s (s.put d (.d (.v (.bool b)))):=by
  refine⟨rfl,fun i=>?_,rfl⟩;rw[XI]
  by_cases hi:i < s.n
  ·rw[if_pos hi]
   by_cases hd:d=i
   ·subst hd;rw[if_pos rfl];exact hs
   ·rw[if_neg hd]
  ·rw[if_neg hi,ZZ,if_neg hi]
 cases b with
 | true=>exact(ht rfl).same e
 | false=>exact(hf rfl).same e
end
end Go.Ep
namespace Go.Ep
section
variable{P:Program}{ctx:Ctx}{ops:Array Oper}{Q:PState->Prop}{s:PState}{o:Oper}{rest:List Oper}{f:Ft}{fs:List Ft}
theorem kp{p:PV}(hl:∀ s':PState,(∀ {x:Operand} {q:PV} (_:xU o x=true:=by exact rfl) (_:s.ev x=some q:=by exact rfl),s'.ev x=some q)->(∀ {id ob},inL f.ro id=true->look s.objs id=some ob->look s'.objs id=some ob)->Local P ctx o s' (s'.putD o.dst p))(h:PQe P ctx ops Q rest fs (s.putD o.dst p))(hg:Wd ops o s:=by exact .inl rfl)(hk:okE f ⟨WV o.dst p,[]⟩=true:=by exact rfl):PQe P ctx ops Q (o::rest) (f::fs) s:=PQe.stepP hl hg hk h
theorem km{dst:Option Tmp}{ty:TypeId}{pos:String}{after:Array Edge}{gd:Option (Nat×Bool)}{x:Operand}{p:PV}(h:PQe P ctx ops Q rest fs (s.putD dst p))(hx:s.ev x=some p:=by exact rfl)(hg:Wd ops ⟨dst,.move x,ty,pos,after,gd⟩ s:=by exact .inl rfl)(hk:okE f ⟨WV dst p,[]⟩=true:=by exact rfl):PQe P ctx ops Q (⟨dst,.move x,ty,pos,after,gd⟩::rest) (f::fs) s:=PQe.stepP (fun _ he _=>LR.move (he rdM hx)) hg hk h
theorem ks{id:Nat}{ob:Ob}(hl:∀ s':PState,(∀ {x:Operand} {q:PV} (_:xU o x=true:=by exact rfl) (_:s.ev x=some q:=by exact rfl),s'.ev x=some q)->(∀ {id ob},inL f.ro id=true->look s.objs id=some ob->look s'.objs id=some ob)->Local P ctx o s' (s'.setO id ob))(h:PQe P ctx ops Q rest fs (s.setO id ob))(hg:Wd ops o s:=by exact .inl rfl)(hk:okE f ⟨[],[(id,ob)]⟩=true:=by exact rfl):PQe P ctx ops Q (o::rest) (f::fs) s:=PQe.stepS hl hg hk h
theorem kx(h:PQe P ctx ops Q rest fs (s.putD o.dst .und))(hg:Sk ops o s:=by exact .inl ⟨_,_,_,_,rfl,rfl,rfl,by decide⟩)(hk:okE f (undE o)=true:=by exact rfl):PQe P ctx ops Q (o::rest) (f::fs) s:=PQe.skipP hg hk h
end
end Go.Ep
