/- Side texts. -/
import Derived.Test.YthldiocaakcolaaGreatDoorMMr2
import Derived.Test.YthldiocaakcolaaGreatDoorMMr3
import Derived.Test.YthldiocaakcolaaGreatDoorMMr4
import Derived.Test.YthldiocaakcolaaGreatDoorMMr5
set_option linter.unusedVariables false
set_option linter.unusedSimpArgs false
namespace Go.Ep
open Go Go.RowKit
structure Tab (b:Nat) (k:IntKind) (zs:List Int) (w:World) (S:Nat -> Prop):Prop where
 lt:b < w.heap.size
 S:S b
 cell:∀ i,i < zs.length -> w.cell? ⟨b,i,none⟩ = some (.int k (zs.getD i 0))
theorem Tab.of {b:Nat} {k:IntKind} {zs:List Int} {w:World} {S:Nat -> Prop} (hS:S b) (h0:0 < zs.length) (h:∀ i,i < zs.length -> w.cell? ⟨b,i,none⟩ = some (.int k (zs.getD i 0))):Tab b k zs w S:=
 ⟨Decidable.byContradiction fun hb=>by
  have:=h 0 h0;simp [World.cell?,Array.getElem?_eq_none (Nat.le_of_not_lt hb)] at this,hS,h⟩
def PFunL (L:World -> (Nat -> Prop) -> Prop) (P:Program) (f:FuncId) (ps:List PV) (r:PV):Prop:=∀ w S,L w S -> FunAt P f ps r w S
def PRowL (L:World -> (Nat -> Prop) -> Prop) (P:Program) (f:FuncId) (ps:List PV) (e:TypeId) (k:Nat) (l:List (List DV)):Prop:=∀ w S,L w S -> RwAt P f ps e k l w S
theorem RwAt.fun {P:Program} {f:FuncId} {ps:List PV} {e:TypeId} {k:Nat} {l:List (List DV)} {w:World} {S:Nat -> Prop} (h:RwAt P f ps e k l w S):FunAt P f ps (.d (.sl l)) w S:=
 fun vs hl hv=>(h vs hl hv).mono fun _ _ ⟨u,he,hb,hr⟩=>⟨u,he,hb,.d hr.data⟩
theorem PRowL.fun {L:World -> (Nat -> Prop) -> Prop} {P:Program} {f:FuncId} {ps:List PV} {e:TypeId} {k:Nat} {l:List (List DV)} (h:PRowL L P f ps e k l):PFunL L P f ps (.d (.sl l)):=fun w S hL=>(h w S hL).fun
theorem FunAt.nilD {P:Program} {f:FuncId} {ps:List PV} {r:PV} {w:World} {S:Nat -> Prop} (h:FunAt P f (ps.map PV.nilD) r w S):FunAt P f ps r w S:=fun vs hl hv=>
 h vs (by simpa using hl) fun i p v hp hu=>by
  rw [List.getElem?_map] at hp
  cases hq:ps[i]? with
  | none=>simp [hq] at hp
  | some q=>simp [hq] at hp;subst hp;exact (hv i q v hq hu).nilD
theorem RwAt.nilD {P:Program} {f:FuncId} {ps:List PV} {e:TypeId} {k:Nat} {l:List (List DV)} {w:World} {S:Nat -> Prop} (h:RwAt P f (ps.map PV.nilD) e k l w S):RwAt P f ps e k l w S:=fun vs hl hv=>
 h vs (by simpa using hl) fun i p v hp hu=>by
  rw [List.getElem?_map] at hp
  cases hq:ps[i]? with
  | none=>simp [hq] at hp
  | some q=>simp [hq] at hp;subst hp;exact (hv i q v hq hu).nilD
structure LOK (ctx:Ctx) (b:Nat) (k:IntKind) (zs:List Int):Prop where
 tab:Tab b k zs ctx.w0 ctx.S
 K:∀ b,¬ ctx.K b
section
variable {P:Program} {ctx:Ctx} {Q:PQ} {s:PState}
variable {dst:Option Tmp} {ty:TypeId} {pos:String} {after:Array Edge} {gd:Option (Nat × Bool)}
variable {b:Nat} {kk:IntKind} {zs:List Int}
theorem LOK.rel (hT:LOK ctx b kk zs) {g:zf} {a:Act} {w:World} (hg:RelG ctx g s a w):Tab b kk zs w (zo ctx g s.objs):=by
 have hh:=hg.keep b hT.tab.lt (hT.K b);refine ⟨Nat.lt_of_lt_of_le hT.tab.lt hg.grows,⟨.inl hT.tab.S,fun id o n ho hgi=>?_⟩,fun i hi=>?_⟩
 ·have:=(hg.own id o b n ho hgi).2;rcases this with h | h
  ·have:=hT.tab.lt;omega
  ·exact hT.K _ h
 ·rw [World.cell?_of_block (w:=ctx.w0) hh];exact hT.tab.cell i hi
theorem LOK.lent (hT:LOK ctx b kk zs) {g:zf} {a:Act} {w:World} (hg:RelG ctx g s a w):Tab b kk zs w (uea ctx g s):=by
 obtain ⟨h1,h2,h3⟩:=hT.rel hg;exact ⟨h1,.inl h2,h3⟩
theorem PFunL.intro {f:FuncId} {fn:Func} {c:Code} {ps:List PV} {r:PV} {n:Nat} {sl:List (Nat × PV)} (hf:P.funcs[f]? = some fn) (hb:fn.body = some c) (hn:fn.ntmps = n) (hsl:args 0 ps = sl) (hpn:Nat.ble ps.length n = true)
  (body:∀ ctx:Ctx,(∀ b,ctx.K b -> ctx.S b) -> LOK ctx b kk zs -> PWc P ctx c (Ends P fn r) ⟨n,sl,[]⟩):PFunL (Tab b kk zs) P f ps r:=fun w S hL=>FunAt.intro hf hb hn hsl hpn (body ⟨w,S,fun _=>False⟩ (fun _ h=>h.elim) ⟨hL,fun _ h=>h⟩)
theorem PRowL.intro {f:FuncId} {fn:Func} {c:Code} {ps:List PV} {e:TypeId} {k:Nat} {l:List (List DV)} {n:Nat} {sl:List (Nat × PV)} (hf:P.funcs[f]? = some fn) (hb:fn.body = some c) (hn:fn.ntmps = n) (hsl:args 0 ps = sl) (hpn:Nat.ble ps.length n = true)
  (body:∀ ctx:Ctx,(∀ b,ctx.K b -> ctx.S b) -> LOK ctx b kk zs -> PWc P ctx c (y2a fn e k l) ⟨n,sl,[]⟩):PRowL (Tab b kk zs) P f ps e k l:=fun w S hL=>RwAt.intro hf hb hn hsl hpn (body ⟨w,S,fun _=>False⟩ (fun _ h=>h.elim) ⟨hL,fun _ h=>h⟩)
theorem LR.callL {x:Operand} {xs:List Operand} {ats:Array TypeId} {f:FuncId} {ps qs:List PV} {r:PV} (hT:LOK ctx b kk zs) (hc:PFunL (Tab b kk zs) P f ps r) (hx:s.ev x = some (.d (.v (.func (.func f) #[] #[])))) (he:∀ args w,(callFunc f args).run P w = .ok (.enter f args) w)
  (hps:s.evs xs = some qs) (hq:qs.map PV.nilD = ps) (hd:PV.isData.isDataL ps = true) (hr:r.isData = true) :
  Local P ctx ⟨dst,.call ⟨.value x,xs.toArray,ats⟩,ty,pos,after,gd⟩ s (s.putD dst r):=by
 subst hq;exact LR.callAt (fun _ w g hg=>(hc w _ (hT.rel hg)).nilD) hx he hps (wx hd) hr
theorem LR.callLendL {x:Operand} {xs:List Operand} {ats:Array TypeId} {f:FuncId} {ps qs:List PV} {r:PV} (hT:LOK ctx b kk zs) (hc:PFunL (Tab b kk zs) P f ps r) (hx:s.ev x = some (.d (.v (.func (.func f) #[] #[])))) (he:∀ args w,(callFunc f args).run P w = .ok (.enter f args) w)
  (hps:s.evs xs = some qs) (hq:LendL s qs ps) (hf:r.flat = true) :
  Local P ctx ⟨dst,.call ⟨.value x,xs.toArray,ats⟩,ty,pos,after,gd⟩ s (s.putD dst r):=LR.callLendAt (fun _ w g hg=>hc w _ (hT.lent hg)) hx he hps hq hf
theorem LR.rowL {α:Type} {enc:α -> List DV} {L:List α} {id:Nat} {x:Operand} {xs:List Operand} {ats:Array TypeId} {f:FuncId} {ps qs:List PV} {e:TypeId} {k:Nat} (hT:LOK ctx b kk zs) (hc:PRowL (Tab b kk zs) P f ps e k (L.map enc)) (hx:s.ev x = some (.d (.v (.func (.func f) #[] #[])))) (he:∀ args w,(callFunc f args).run P w = .ok (.enter f args) w)
  (hps:s.evs xs = some qs) (hq:qs.map PV.nilD = ps) (hd:PV.isData.isDataL ps = true) (hf:s.fresh id = true) :
  Local P ctx ⟨some id,.call ⟨.value x,xs.toArray,ats⟩,ty,pos,after,gd⟩ s (s.newO id (.row e k (L.map enc)) (.row id L.length)):=by
 subst hq;have:=LR.callRowAt (P:=P) (ctx:=ctx) (ty:=ty) (pos:=pos) (after:=after) (gd:=gd) (id:=id) (ats:=ats) (fun _ w g hg=>(hc w _ (hT.rel hg)).nilD) hx he hps (wx hd) hf
 rwa [List.length_map] at this
theorem LR.idxG {ix:Operand} {n:Nat} {ki:IntKind} {i:Int} {t e:TypeId} (hT:LOK ctx b kk zs) (hu:P.underlying t = some (.array n e)) (h2:Nat.blt 1 n = true) (hs:∀ w,(sizeOf e).run P w = .ok 1 w)
  (hix:s.ev ix = some (.d (.v (.int ki i)))) (hz:zs.length = n) (hi:0 <= i /\ i < (n:Int)) :
  Local P ctx ⟨dst,.indexAddr t (.global b) ix,ty,pos,after,gd⟩ s (s.putD dst (.ep (eK kk (zs.getD i.toNat 0)) 0)):=
 zH (o:=⟨dst,.indexAddr t (.global b) ix,ty,pos,after,gd⟩) fun a w g hg=>by
  obtain ⟨h1,h3,h4⟩:=hT.rel hg;have:=z1a (P:=P) hu (by simpa [Nat.blt_eq] using h2) hs b 0 ki i hi w;rw [Nat.mul_one,Nat.zero_add] at this;refine ⟨.pointer (some ⟨b,i.toNat,none⟩),?_,?_⟩
  ·have e:a.eval (.global b) = .pointer (some ⟨b,0,none⟩):=rfl;simp [execOp,e,xF hg hix,this,Result.andThen]
  ·refine .ep (eK kk (zs.getD i.toNat 0)) b i.toNat 0 (fun _=>.int kk (zs.getD i.toNat 0)) h3 h1 (fun j hj=>?_) (fun j x hx=>?_)
   ·obtain rfl:j = 0:=by simp [eK] at hj;omega
    exact h4 _ (by omega)
   ·cases j with
    | zero=>simp [eK] at hx;subst hx;exact .v _ rfl
    | succ j=>simp [eK] at hx
theorem LR.notBits {x:Operand} {k:IntKind} {n:Int} {t:TypeId} (hx:s.ev x = some (.d (.v (.int k n)))):Local P ctx ⟨dst,.unOp .xor t x,ty,pos,after,gd⟩ s (s.putD dst (.d (.v (.int k (Go.bits .xor k (if k.signed then -1 else k.max) n))))):=
 zH (o:=⟨dst,.unOp .xor t x,ty,pos,after,gd⟩) fun a w g hg=>⟨_,by simp [execOp,xF hg hx,Op.unary,intBits_xor,Result.andThen],.d (.v _ rfl)⟩
theorem Src.pa {y:Operand} {id o:Nat} {T0:TypeId} {cs:List PV} {k:IntKind} {R:List Int} (hy:s.ev y = some (.pa id o R.length)) (hl:look s.objs id = some (.cells T0 cs)) (hA:(cs.drop o).take R.length = R.map fun z=>PV.d (.v (.int k z))):Src ctx s y (R.map (eK k)) 1:=by
 intro a w g hg;have h:=hg.ev hy;have hob:=hg.objs id _ hl
 generalize hv:a.eval y = v at h
 cases hob with
 | cells _ _ blk' n' us hgi hh hlen hr h1=>
  cases h with
  | pa _ _ _ blk c hgi'=>
   rw [hgi] at hgi'
   cases hgi'
   have hroom:R.length <= cs.length - o:=by
    have e:=congrArg List.length hA;rw [List.length_take,List.length_drop,List.length_map] at e;omega
   have hget:∀ j,j < R.length -> ∃ z,R[j]? = some z /\ us[o + j]? = some (.int k z):=fun j hj=>by
    have e:=congrArg (·[j]?) hA;simp only [List.getElem?_take,if_pos hj,List.getElem?_drop,List.getElem?_map,List.getElem?_eq_getElem hj,Option.map_some] at e;have hu:us[o + j]? = some (us[o + j]'(by rw [<- hlen];exact (List.getElem?_eq_some_iff.1 e).1)):=List.getElem?_eq_getElem _;have:=hr _ _ _ e hu;exact ⟨_,List.getElem?_eq_getElem hj,by rw [hu,this.of_v]⟩
   have e:(us.drop o).take R.length = R.map (Value.int k):=List.ext_getElem? fun j=>by
    rw [List.getElem?_take]
    split
    ·rename_i hj
     obtain ⟨z,h1,h2⟩:=hget j hj;rw [List.getElem?_drop,h2,List.getElem?_map,h1];rfl
    ·rename_i hj
     rw [List.getElem?_eq_none (by rw [List.length_map];omega)]
   refine ⟨some ⟨blk',o,none⟩,R.length,R.map (Value.int k),by rw [List.length_map],by simp,by simp,?_,?_,?_⟩
   ·intro ad ea j u hu
    cases ea
    rw [<- e,List.getElem?_take] at hu
    split at hu
    ·rw [Addr.add_lit,zg hh,<- List.getElem?_drop];simpa using hu
    ·cases hu
   ·intro u hu;simp only [List.mem_map] at hu;obtain ⟨z,_,rfl⟩:=hu
    rfl
   ·intro i ds j x hi hx;rw [List.getElem?_map] at hi
    cases hz:R[i]? with
    | none=>simp [hz] at hi
    | some z=>
     simp [hz] at hi;subst hi
     cases j with
     | zero=>simp [eK] at hx;subst hx;exact ⟨.int k z,by simp [List.getElem?_map,hz],.v _ rfl⟩
     | succ j=>simp [eK] at hx
theorem LR.bytesStrPa {x:Operand} {src dt e:TypeId} {id o:Nat} {T0:TypeId} {cs:List PV} {R:List Int} (hs:P.underlying src = some (.slice e)) (he:P.underlying e = some (.int .u8)) (hd:P.underlying dt = some .string) (hx:s.ev x = some (.pa id o R.length)) (hl:look s.objs id = some (.cells T0 cs)) (hA:(cs.drop o).take R.length = R.map fun z=>PV.d (.v (.int .u8 z))) :
  Local P ctx ⟨dst,.convert src dt x,ty,pos,after,gd⟩ s (s.putD dst (.d (.v (.string (XK R))))):=
 zH (o:=⟨dst,.convert src dt x,ty,pos,after,gd⟩) fun a w g hg=>by
  refine ⟨.string (XK R),?_,.d (.v _ rfl)⟩;obtain ⟨ao,c,news,h1,h2,h3,h4,h5,h6⟩:=Src.pa hx hl hA a w g hg;rw [List.length_map] at h1;rw [List.length_map,Nat.mul_one] at h2;have hn:news = R.map fun z=>Value.int .u8 z:=List.ext_getElem? fun i=>by
   by_cases hi:i < R.length
   ·have hr:(R.map (eK .u8))[i]? = some (eK .u8 R[i]):=by rw [List.getElem?_map,List.getElem?_eq_getElem hi];rfl
    obtain ⟨u,hu,hdu⟩:=h6 i _ 0 (.v (.int .u8 R[i])) hr rfl;rw [Nat.mul_one,Nat.add_zero] at hu
    cases hdu
    rw [hu,List.getElem?_map,List.getElem?_eq_getElem hi];rfl
   ·rw [List.getElem?_eq_none (by omega),List.getElem?_eq_none (by rw [List.length_map];omega)]
  simp only [execOp,h1,Sem.run_bind,run_convert_bytes_string w src dt e ao _ c hs he hd]
  cases ao with
  | none=>
   have hR:R = []:=List.eq_nil_of_length_eq_zero (by have:=(h3 rfl).1;rwa [List.length_map] at this);subst hR;simp [Conv.bytesToString,XK,Result.andThen]
  | some ad=>
   have hload:=run_loadCells_list (P:=P) w ad (R.map (Value.int .u8)) (fun j v hj=>h4 ad rfl j v (by rw [hn];exact hj));rw [List.length_map] at hload;rw [run_bytesToString w ad R.length c R hload]
   rfl
end
end Go.Ep

namespace Go.Proofs
open Go.Ep Tryz
set_option maxHeartbeats 1000000
set_option maxRecDepth 100000
set_option linter.unusedVariables false
set_option linter.unusedSimpArgs false


theorem Vj (n1:Int) (r0:Bool) (h:(Zw n1).wp (· = r0)):PFun prog 61 [.d (.v (.int .u64 n1))] (.d (.v (.bool r0))):=by
 refine fI (sl:=[(0,_)]) func61 rfl ntmps61 rfl rfl ?_;intro ctx hK;(iterate 5 refine g5 ?_);refine wJ (zF h) (fun (v2:Bool) (_:Unit)=>⟨9,[(2,.d (.v (.bool v2)))],[]⟩) (fun h=>?_) ?_
 ·(iterate 4 refine g5 ?_);refine xG (d:=5) h rfl (fun _ h=>?_) (fun _ h=>?_)
  ·(iterate 5 refine g5 ?_);exact ⟨(decide (n1 <= 281474976710655)),(),h,sP⟩
  ·(iterate 5 refine g5 ?_);exact ⟨false,(),h,sP⟩
 ·rintro v2 _ h;refine wX ?_;cases h;exact xT

theorem ZE (x1:Int) (r0:Bool) (h:(wc x1).wp (· = r0)):PFun prog 159 [.d (.v (.int .u64 x1))] (.d (.v (.bool r0))):=by
 refine fI (sl:=[(0,_)]) func159 rfl ntmps159 rfl rfl ?_;intro ctx hK;(iterate 11 refine g5 ?_);refine wX ?_;cases h;exact xT


theorem uD (x1:Int) (y2:Int) (r0:Int) (h:(yq x1 y2).wp (· = r0)):PFun prog 132 [.d (.v (.int .u64 x1)),.d (.v (.int .u64 y2))] (.d (.v (.int .i64 r0))):=by
 refine fI (sl:=[(0,_),(1,_)]) func132 rfl ntmps132 rfl rfl ?_;intro ctx hK;(iterate 7 refine g5 ?_);obtain ⟨v3,hy4,h⟩:=zI h;refine xN (ZE x1 v3 hy4) call159 ?_;(iterate 5 refine g5 ?_);obtain ⟨v5,hy6,h⟩:=zI h;refine xN (ZE y2 v5 hy6) call159 ?_;(iterate 7 refine g5 ?_);refine xD h rfl (fun _ h=>?_) (fun _ h=>?_)
 ·(iterate 5 refine g5 ?_);refine xD h rfl (fun _ h=>?_) (fun _ h=>?_)
  ·(iterate 4 refine g5 ?_);refine wX ?_;cases h;exact xT
  ·(iterate 5 refine g5 ?_);refine wX ?_;cases h;exact xT
 ·(iterate 6 refine g5 ?_);refine xD h rfl (fun _ h=>?_) (fun _ h=>?_)
  ·(iterate 4 refine g5 ?_);refine wX ?_;cases h;exact xT
  ·(iterate 8 refine g5 ?_);refine xD h rfl (fun _ h=>?_) (fun _ h=>?_)
   ·(iterate 4 refine g5 ?_);refine wX ?_;cases h;exact xT
   ·(iterate 8 refine g5 ?_);refine xD h rfl (fun _ h=>?_) (fun _ h=>?_)
    ·(iterate 4 refine g5 ?_);refine wX ?_;cases h;exact xT
    ·(iterate 5 refine g5 ?_);refine wX ?_;cases h;exact xT

theorem vA (l1:List RN) (r0:List RN) (h:(xf l1).wp (· = r0)):PRow prog 155 [.d (.sl (List.map RN.e l1))] 103 2 (List.map RN.e r0):=by
 refine PRow.intro (sl:=[(0,_)]) func155 rfl ntmps155 rfl rfl ?_;intro ctx hK;(iterate 2 refine g5 ?_);refine ws (aR 103 2 rfl) ?_;(iterate 3 refine g5 ?_);refine ws (aR 103 2 rfl) ?_;(iterate 8 refine g5 ?_);refine wJ (zF h) (fun (some2:List RN) (_:Unit)=>⟨78,[(3,.row 3 (some2.length))],[(3,.row 103 2 (List.map RN.e some2))]⟩) (fun h=>?_) ?_
 ·refine g5 ?_;refine wM (fun (⟨v23,some24⟩:Int × List RN) (_:Unit)=>⟨78,[(3,.row 3 (some24.length)),(10,.d (.sl (List.map RN.e l1))),(11,.d (.v (.int .i64 (l1.length:Int)))),(12,.d (.v (.int .i64 v23)))],[(3,.row 103 2 (List.map RN.e some24))]⟩) () h (sP) ?_;rintro N ⟨v23,some24⟩ _ h;(iterate 5 refine g5 ?_);refine xD h rfl (fun _ h=>?_) (fun _ h=>?_)
  ·(iterate 2 refine g5 ?_);refine wJ (zF h) (fun (some26:List RN) (_:Unit)=>⟨78,[(3,.row 3 (some26.length)),(10,.d (.sl (List.map RN.e l1))),(11,.d (.v (.int .i64 (l1.length:Int)))),(12,.d (.v (.int .i64 v23)))],[(3,.row 103 2 (List.map RN.e some26))]⟩) (fun h=>?_) ?_
   ·(iterate 3 refine g5 ?_);obtain ⟨x27,hy28,h⟩:=yF h;refine ws (iX (enc:=RN.e) (L:=l1) (y:=x27) underlying99 sizeOf103 rfl rfl hy28 (fun _=>rfl)) ?_;(iterate 5 refine g5 ?_);refine wJ (zF h) (fun (v29:Bool) (_:Unit)=>⟨78,[(3,.row 3 (some24.length)),(5,.ref 5 0),(10,.d (.sl (List.map RN.e l1))),(11,.d (.v (.int .i64 (l1.length:Int)))),(12,.d (.v (.int .i64 v23))),(30,.d (.v (.bool v29)))],[(3,.row 103 2 (List.map RN.e some24)),(5,.cells 103 [.d (.v (.int .u64 x27.lo)),.d (.v (.int .u64 x27.hi))])]⟩) (fun h=>?_) ?_
    ·(iterate 5 refine g5 ?_);refine xG (d:=19) h rfl (fun _ h=>?_) (fun _ h=>?_)
     ·(iterate 7 refine g5 ?_);refine xG (d:=26) h rfl (fun _ h=>?_) (fun _ h=>?_)
      ·refine wy (tl:=[(3,_),(5,_),(10,_),(11,_),(12,_),(20,_),(21,_),(22,_),(23,_),(24,_),(26,_)]) (to:=[(3,_),(5,_)]) ?_;(iterate 5 refine g5 ?_);exact ⟨(decide (x27.hi <= 281474976710655)),(),h,sP⟩
      ·refine wy (tl:=[(3,_),(5,_),(10,_),(11,_),(12,_),(20,_),(21,_),(22,_),(23,_),(24,_),(26,_)]) (to:=[(3,_),(5,_)]) ?_;(iterate 5 refine g5 ?_);exact ⟨false,(),h,sP⟩
     ·(iterate 8 refine g5 ?_);refine wy (tl:=[(3,_),(5,_),(10,_),(11,_),(12,_),(20,_),(21,_),(22,_),(23,_),(24,_),(26,_),(27,_)]) (to:=[(3,_),(5,_)]) ?_;(iterate 4 refine g5 ?_);exact ⟨false,(),h,sP⟩
    ·rintro v29 _ h;refine xD h rfl (fun _ h=>?_) (fun _ h=>?_)
     ·(iterate 3 refine g5 ?_);refine ws (LR.buildSliceD [.tmp 32] xv rfl rfl (.cons rfl rfl rfl<|.nil) (by decide) (by decide)) ?_;obtain ⟨hy33,h⟩:=zm h;refine ws (LR.appT (enc:=RN.e) (L:=some24) (R:=[x27]) [3,31] xv underlying99 rfl rfl rfl (Src.slT (enc:=RN.e) (R:=[x27]) rfl (fun _=>rfl)) (fun _=>rfl) hy33 rfl rfl) ?_;(iterate 2 refine g5 ?_);exact ⟨(some24 ++ [x27]),(),h,sP⟩
     ·refine g5 ?_;exact ⟨some24,(),h,sP⟩
   ·rintro some26 _ h;(iterate 4 refine g5 ?_);exact ⟨((IntKind.i64.wrap (v23 + 1)),some26),(),h,sP⟩
  ·refine wZ ?_;exact ⟨some24,(),h,sP⟩
 ·rintro some2 _ h;(iterate 3 refine g5 ?_);obtain ⟨hy35,h⟩:=zm h;refine PWl.sortFn (encD:=RN.e) (enc:=RN.v) (l:=some2) vWa (fun _=>rfl) RN.v1 (fun _=>rfl) rfl call170 rfl rfl rfl (by simp) hy35 rfl (fun s34 hy36 hy37=>?_);replace h:=iSrt h s34 hy36 hy37;have hy36l:=hy36.length_eq;(iterate 3 refine g5 ?_);refine ws (aR 103 2 rfl) ?_;(iterate 8 refine g5 ?_);refine wJ (zF h) (fun (out38:List RN) (_:Unit)=>⟨78,[(6,.row 6 (out38.length))],[(6,.row 103 2 (List.map RN.e out38))]⟩) (fun h=>?_) ?_
  ·refine g5 ?_;refine wM (fun (⟨v69,out70⟩:Int × List RN) (_:Unit)=>⟨78,[(6,.row 6 (out70.length)),(38,.row 3 (some2.length)),(39,.d (.v (.int .i64 (some2.length:Int)))),(40,.d (.v (.int .i64 v69)))],[(3,.row 103 2 (List.map RN.e s34)),(6,.row 103 2 (List.map RN.e out70))]⟩) () h (sO rfl (.cons rfl rfl<|.cons rfl (by first | rfl | (simp;done) | (congr 1;first | (simp;done) | (simp;omega) | omega))<|.c2 rfl rfl rfl rfl<|.nil) (.c2 rfl rfl rfl rfl<|.nil)) ?_;rintro N ⟨v69,out70⟩ _ h;(iterate 5 refine g5 ?_);refine xD h rfl (fun _ h=>?_) (fun _ h=>?_)
   ·(iterate 2 refine g5 ?_);refine wJ (zF h) (fun (out72:List RN) (_:Unit)=>⟨78,[(6,.row 6 (out72.length)),(38,.row 3 (some2.length)),(39,.d (.v (.int .i64 (some2.length:Int)))),(40,.d (.v (.int .i64 v69)))],[(3,.row 103 2 (List.map RN.e s34)),(6,.row 103 2 (List.map RN.e out72))]⟩) (fun h=>?_) ?_
    ·(iterate 3 refine g5 ?_);obtain ⟨x73,hy74,h⟩:=yF h;refine ws (LR.idxRowT (L:=s34) (y:=x73) underlying99 sizeOf103 rfl (by first | (simp;done) | (simp;omega) | omega) rfl hy74) ?_;refine ws (LR.loadRpT (enc:=RN.e) (L:=s34) (y:=x73) isAgg103 sizeOf103 rfl rfl hy74.2) ?_;(iterate 12 refine g5 ?_);refine wJ (zF h) (fun (v75:Bool) (_:Unit)=>⟨78,[(6,.row 6 (out70.length)),(8,.ref 8 0),(9,.d (.v (.int .i64 ((IntKind.i64.wrap ((out70.length:Int) - 1)))))),(38,.row 3 (some2.length)),(39,.d (.v (.int .i64 (some2.length:Int)))),(40,.d (.v (.int .i64 v69))),(59,.d (.v (.bool v75)))],[(3,.row 103 2 (List.map RN.e s34)),(6,.row 103 2 (List.map RN.e out70)),(8,.cells 103 [.d (.v (.int .u64 x73.lo)),.d (.v (.int .u64 x73.hi))])]⟩) (fun h=>?_) ?_
     ·refine g5 ?_;(iterate 3 refine h5 ?_);refine xQ (d:=49) h rfl (fun _ h=>?_) (fun _ h=>?_)
      ·(iterate 4 refine h5 ?_);obtain ⟨x77,hy78,h⟩:=yF h;refine qt (fun _ U W=>LR.idxRowT (L:=out70) (y:=x77) underlying99 sizeOf103 U rfl U hy78) ?_;refine h5 ?_;refine qt (fun _ U W=>LR.loadRpF (enc:=RN.e) (L:=out70) (y:=x77) isAgg24 U (W rfl) hy78.2 rfl) ?_;(iterate 4 refine h5 ?_);exact ⟨(decide (x73.lo <= (IntKind.u64.wrap (x77.hi + 1)))),(),h,sO rfl (.c2 rfl rfl rfl rfl<|.cons rfl rfl<|.cons rfl (by first | rfl | (simp;done) | (congr 1;first | (simp;done) | (simp;omega) | omega))<|.c2 rfl rfl rfl rfl<|.cons rfl rfl<|.nil) (.c2 rfl rfl rfl rfl<|.cons rfl rfl<|.nil)⟩
      ·(iterate 11 refine h5 ?_);exact ⟨false,(),h,sO rfl (.c2 rfl rfl rfl rfl<|.cons rfl rfl<|.cons rfl (by first | rfl | (simp;done) | (congr 1;first | (simp;done) | (simp;omega) | omega))<|.c2 rfl rfl rfl rfl<|.cons rfl rfl<|.nil) (.c2 rfl rfl rfl rfl<|.cons rfl rfl<|.nil)⟩
     ·rintro v75 _ h;refine xD h rfl (fun _ h=>?_) (fun _ h=>?_)
      ·refine g5 ?_;refine wz (tl:=[(6,_),(8,_),(9,_),(38,_),(39,_),(40,_)]) (to:=[(3,_),(6,_),(8,_)]) ?_;refine PWc.regionE [⟨[60],[],[],[],[],[6],[],[]⟩,{ws:=[61]},⟨[62],[],[],[],[],[6],[],[]⟩,{ws:=[63]},⟨[64],[],[],[],[],[6],[],[]⟩,⟨[65],[],[],[],[],[6],[],[]⟩,⟨[66],[],[6],[],[],[],[],[]⟩,⟨[67],[],[],[],[],[8],[],[]⟩,⟨[68],[],[8],[],[],[],[],[]⟩,{ws:=[69]},⟨[70],[],[],[],[],[6],[],[]⟩,⟨[71],[],[],[],[],[6],[],[]⟩,⟨[],[6],[6],[],[],[],[],[]⟩] (by kernel_rfl) (by kernel_rfl) rfl ?_;(iterate 4 refine h5 ?_);obtain ⟨x80,hy81,h⟩:=yF h;refine kp (fun _ U W=>LR.idxRowT (L:=out70) (y:=x80) underlying99 sizeOf103 U rfl U hy81) ?_;refine h5 ?_;refine kp (fun _ U W=>LR.loadRpF (enc:=RN.e) (L:=out70) (y:=x80) isAgg24 U (W rfl rfl) hy81.2 rfl) ?_;(iterate 3 refine h5 ?_);obtain ⟨x82,hy83,h⟩:=yF h;refine kp (fun _ U W=>LR.idxRowT (L:=out70) (y:=x82) underlying99 sizeOf103 U rfl U hy83) ?_;refine h5 ?_;refine ks (fun _ U W=>LR.storeRpT (enc:=RN.e) (L:=out70) (a:=x82) (b:=(⟨x82.lo,(max x80.hi x73.hi)⟩:RN)) sizeOf24 U U rfl rfl (W rfl rfl) hy83.2 rfl rfl)<|PQe.nil<|wZ ?_;exact ⟨(List.set out70 ((Int.toNat ((IntKind.i64.wrap ((out70.length:Int) - 1))))) (⟨x82.lo,(max x80.hi x73.hi)⟩:RN)),(),h,sO rfl (.cons rfl (by first | rfl | (simp;done) | (congr 1;first | (simp;done) | (simp;omega) | omega))<|.cons rfl (by first | rfl | (simp;done) | (congr 1;first | (simp;done) | (simp;omega) | omega))<|.c2 rfl rfl rfl rfl<|.nil) (.c2 rfl rfl rfl rfl<|.nil)⟩
      ·(iterate 4 refine g5 ?_);refine ws (LR.buildSliceD [.tmp 73] xv rfl rfl (.cons rfl rfl rfl<|.nil) (by decide) (by decide)) ?_;obtain ⟨hy84,h⟩:=zm h;refine ws (LR.appT (enc:=RN.e) (L:=out70) (R:=[x73]) [6,72] xv underlying99 rfl rfl rfl (Src.slT (enc:=RN.e) (R:=[x73]) rfl (fun _=>rfl)) (fun _=>rfl) hy84 rfl rfl) ?_;(iterate 2 refine g5 ?_);exact ⟨(out70 ++ [x73]),(),h,sO rfl (.cons rfl rfl<|.cons rfl (by first | rfl | (simp;done) | (congr 1;first | (simp;done) | (simp;omega) | omega))<|.c2 rfl rfl rfl rfl<|.nil) (.c2 rfl rfl rfl rfl<|.nil)⟩
    ·rintro out72 _ h;(iterate 4 refine g5 ?_);exact ⟨((IntKind.i64.wrap (v69 + 1)),out72),(),h,sO rfl (.cons rfl rfl<|.cons rfl (by first | rfl | (simp;done) | (congr 1;first | (simp;done) | (simp;omega) | omega))<|.c2 rfl rfl rfl rfl<|.nil) (.c2 rfl rfl rfl rfl<|.nil)⟩
   ·refine wZ ?_;exact ⟨out70,(),h,sP⟩
  ·rintro out38 _ h;(iterate 5 refine g5 ?_);refine wX ?_;cases h;exact ⟨.inr rfl,2,rfl,.inr ⟨6,_,rfl,(by simp),rfl⟩⟩

theorem ZF (x1:Int) (r0:Bool) (h:(wd x1).wp (· = r0)):PFun prog 158 [.d (.v (.int .u16 x1))] (.d (.v (.bool r0))):=by
 refine fI (sl:=[(0,_)]) func158 rfl ntmps158 rfl rfl ?_;intro ctx hK;(iterate 11 refine g5 ?_);refine wX ?_;cases h;exact xT

theorem XV (x1:Int) (y2:Int) (r0:Int) (h:(xV x1 y2).wp (· = r0)):PFun prog 131 [.d (.v (.int .u16 x1)),.d (.v (.int .u16 y2))] (.d (.v (.int .i64 r0))):=by
 refine fI (sl:=[(0,_),(1,_)]) func131 rfl ntmps131 rfl rfl ?_;intro ctx hK;(iterate 7 refine g5 ?_);obtain ⟨v3,hy4,h⟩:=zI h;refine xN (ZF x1 v3 hy4) call158 ?_;(iterate 5 refine g5 ?_);obtain ⟨v5,hy6,h⟩:=zI h;refine xN (ZF y2 v5 hy6) call158 ?_;(iterate 7 refine g5 ?_);refine xD h rfl (fun _ h=>?_) (fun _ h=>?_)
 ·(iterate 5 refine g5 ?_);refine xD h rfl (fun _ h=>?_) (fun _ h=>?_)
  ·(iterate 4 refine g5 ?_);refine wX ?_;cases h;exact xT
  ·(iterate 5 refine g5 ?_);refine wX ?_;cases h;exact xT
 ·(iterate 6 refine g5 ?_);refine xD h rfl (fun _ h=>?_) (fun _ h=>?_)
  ·(iterate 4 refine g5 ?_);refine wX ?_;cases h;exact xT
  ·(iterate 8 refine g5 ?_);refine xD h rfl (fun _ h=>?_) (fun _ h=>?_)
   ·(iterate 4 refine g5 ?_);refine wX ?_;cases h;exact xT
   ·(iterate 8 refine g5 ?_);refine xD h rfl (fun _ h=>?_) (fun _ h=>?_)
    ·(iterate 4 refine g5 ?_);refine wX ?_;cases h;exact xT
    ·(iterate 5 refine g5 ?_);refine wX ?_;cases h;exact xT


theorem Ur (m1:List (Int × List RN)) (r0:List PT) (h:(ut m1).wp (· = r0)):PRow prog 122 [.md [.u16] false (VA kI (eL RN.e) m1)] 101 2 (List.map PT.e r0):=by
 refine PRow.intro (sl:=[(0,_)]) func122 rfl ntmps122 rfl rfl ?_;intro ctx hK;(iterate 2 refine g5 ?_);refine ws (aR 101 2 rfl) ?_;(iterate 3 refine g5 ?_);refine ws (aR 101 2 rfl) ?_;(iterate 5 refine g5 ?_);refine PWl.rangeD underlying153 rfl rfl rfl (fun bs2 ck2 hbl2 hbn2=>?_);refine g5 ?_;refine wJ (zF h) (fun (c3:List PT) (_:Unit)=>⟨27,[(3,.row 3 (c3.length))],[(3,.row 101 2 (List.map PT.e c3))]⟩) (fun h=>?_) ?_
 ·refine g5 ?_;refine wM (fun (⟨seen28,c29⟩:List Nat × List PT) (_:Unit)=>⟨27,[(3,.row 3 (c29.length)),(7,.ref 7 0)],[(3,.row 101 2 (List.map PT.e c29)),(7,.iterD [.u16] false (VA kI (eL RN.e) m1) bs2 ck2 seen28)]⟩) () h (sP) ?_;rintro N ⟨seen28,c29⟩ _ h;(iterate 2 refine g5 ?_);obtain ⟨hy40,h⟩:=zm h;replace h:=iNxt h;refine PWl.nextD rfl rfl (nxtD hy40) rfl (fun hy31=>?_) (fun j30 hy32 hy33=>?_)
  ·replace h:=h.1 (nxtA hy31);(iterate 3 refine g5 ?_);refine PWc.condF rfl<|wZ ?_;exact ⟨c29,(),h,sP⟩
  ·replace h:=h.2 j30 (nxtB hy32) hy33;(iterate 3 refine g5 ?_);refine PWc.condT rfl ?_;(iterate 4 refine g5 ?_);obtain ⟨kv34,hy35,h⟩:=yF h;refine ws (LR.entryD rfl rfl (entGet hy35) rfl rfl) ?_;(iterate 8 refine g5 ?_);obtain ⟨v36,hy37,h⟩:=zI h;refine ws (LR.rowN (vA kv34.2 v36 hy37) rfl call155 rfl rfl rfl rfl) ?_;(iterate 8 refine g5 ?_);refine xD h rfl (fun _ h=>?_) (fun _ h=>?_)
   ·(iterate 4 refine g5 ?_);refine PWl.frz [5,14,15,20] hK (.cons rfl<|.cons rfl<|.cons rfl<|.cons rfl<|.nil) rfl (by simp) ?_;refine ws (LR.build (ns:=[_,_]) Xo rfl rfl rfl)<|ws (LR.buildSliceD [.tmp 21] Wc rfl rfl (.cons rfl rfl rfl<|.nil) (by decide) (by decide)) ?_;obtain ⟨hy39,h⟩:=zm h;refine ws (LR.appT (enc:=PT.e) (L:=c29) (R:=[(⟨kv34.1,v36⟩:PT)]) [3,18] Wc underlying27 rfl rfl rfl (Src.slT (enc:=PT.e) (R:=[(⟨kv34.1,v36⟩:PT)]) rfl (fun _=>rfl)) (fun _=>rfl) hy39 rfl rfl)<|wy (tl:=[(7,_),(23,_)]) (to:=[(3,_),(7,_)]) ?_;(iterate 2 refine g5 ?_);exact ⟨((seen28 ++ [j30]),(c29 ++ [(⟨kv34.1,v36⟩:PT)])),(),h,sP⟩
   ·refine g5 ?_;exact ⟨((seen28 ++ [j30]),c29),(),h,sP⟩
 ·rintro c3 _ h;(iterate 3 refine g5 ?_);obtain ⟨hy42,h⟩:=zm h;refine PWl.sortFnR (encD:=PT.e) (enc:=RawTPart.v) (lt:=qV) (R:=RawTPart.R) (l:=c3) vTa RawTPart.raw rlt156 (fun _=>rfl) (fun _=>rfl) rfl call156 rfl rfl rfl (by simp) hy42 rfl (fun s41 hy43 hy44=>?_);replace h:=iSrt h s41 hy43 hy44;have hy43l:=hy43.length_eq;(iterate 6 refine g5 ?_);refine wX ?_;cases h;exact ⟨.inr rfl,2,rfl,.inr ⟨3,_,rfl,(by first | (simp;done) | (simp;omega) | omega),rfl⟩⟩

theorem Yq (c1:List PT) (r0:List (Int × List RN)) (h:(YV c1).wp (· = r0)):PMap prog 123 [.d (.sl (List.map PT.e c1))] [.u16] false (VA kI (eL RN.e) r0):=by
 refine PMap.intro (sl:=[(0,_)]) func123 rfl ntmps123 rfl rfl ?_;intro ctx hK;(iterate 6 refine g5 ?_);refine ws (LR.makeMap [.u16] false rfl) ?_;(iterate 10 refine g5 ?_);obtain ⟨hy10,h⟩:=zm h;have hN:=hy10.1;refine PWc.loopRows (bid:=0) (N:=c1.length) (mid:=6) (n:=28) (ks:=[.u16]) (e:=103) (k:=2) (fun i=>[(3,.mp 6),(7,.d (.sl (List.map PT.e c1))),(8,.d (.v (.int .i64 (c1.length:Int)))),(9,.d (.v (.int .i64 (i:Int))))]) (fun i=>uC kI RN.e (AL.grow [] ((List.take i c1).filterMap zr))) [(3,.mp 6)] [] 0 hK (by decide) (fun i x hx id h=>by simp only [List.mem_cons,List.not_mem_nil,or_false] at hx;rcases hx with rfl | rfl | rfl | rfl <;> first | (simp [PV.has] at h;done) | (simp [PV.has] at h;exact h.symm) | (simp [PV.has] at h;omega)) rfl (fun i=>zya (fun x d hd=>by simp only [RN.e,List.mem_cons,List.not_mem_nil,or_false] at hd;rcases hd with rfl | rfl <;> exact ⟨_,rfl⟩) _) (sP) (fun i hi=>?_) (VA kI (eL RN.e) (AL.grow ([]:List (Int × List RN)) (List.filterMap zr c1))) (by simp only [List.take_length];exact rowsM_of _) (fun ctx vm bs ck=>?_) (fun bs ck=>?_)
 ·obtain ⟨p,hp⟩:∃ p,c1[i]? = some p:=⟨_,List.getElem?_eq_getElem hi⟩
  have hidx:(0:Int) <= (i:Int) /\ c1[(i:Int).toNat]? = some p:=⟨by omega,by simpa using hp⟩
  have htk:=AL.grow_take hp zr;have hwi:=wrapNat (i:=i) (by omega)
  by_cases hd:0 < p.dev
  ·have hf:zr p = some (p.dev,p.runs):=by simp [zr,hd]
   have hbd:=AL.grow_bound hy10 hp hf;rw [hf] at htk;rcases qY (eK:=kI) (enc:=RN.e) wIa (p.dev) (AL.grow [] ((List.take i c1).filterMap zr)) with ⟨j,l,h1,h2,h3,h4⟩ | ⟨h1,h2,h3⟩
   ·simp only [h3] at hbd;refine .found (nl:=l.length) (nl':=(List.length (l ++ p.runs))) (l:=(List.map RN.e l)) (l':=(List.map RN.e (l ++ p.runs))) (by simp) (by simp) h2 (by rw [htk];simp only [AL.grow,Option.toList,List.foldl] at h3 h4 ⊢;rw [h3];exact h4 _) fun ctx vm bs ck hvm=>?_
    have hpf:wG (kI (p.dev)) (Zk vm) 0 = some j:=by rw [zza hvm];exact h1
    have h:(M.bind (M.idx c1 (i:Int)) fun x2=>M.yV ((l.length + x2.runs.length) * 16 <= 140737488355328)<|M.pure ()).wp (fun _=>True):=⟨p,hidx,hbd,trivial⟩
    (iterate 5 refine g5 ?_);refine PWc.condT (congrArg (fun b=>some (PV.d (.v (.bool b)))) (decide_eq_true (Int.ofNat_lt.2 hi))) ?_;(iterate 5 refine g5 ?_);obtain ⟨x2,hy3,h⟩:=yF h;have hE:=idxU hy3 hidx;subst hE;refine ws (iX (enc:=PT.e) (L:=c1) (y:=x2) underlying27 sizeOf101 rfl rfl hy3 (fun _=>rfl)) ?_;(iterate 10 refine g5 ?_);refine PWc.condT (congrArg (fun b=>some (PV.d (.v (.bool b)))) (decide_eq_true hd))<|wz (tl:=[(3,_),(5,_),(7,_),(8,_),(9,_)]) (to:=[(5,_),(6,_),(50,_)]) ?_;refine PWc.regionE [⟨[16],[],[],[],[],[6],[],[]⟩,⟨[17],[],[],[],[],[5],[],[]⟩,⟨[18],[],[5],[],[],[],[],[]⟩,⟨[19],[],[],[],[],[6],[],[]⟩,⟨[20],[],[],[],[],[5],[],[]⟩,⟨[21],[],[5],[],[],[],[],[]⟩,⟨[22],[],[6],[],[],[50],[],[]⟩,⟨[23],[],[],[],[],[5],[],[]⟩,⟨[24],[],[5],[],[],[],[],[]⟩,⟨[22,25],[6,50],[6,50],[],[(50,[22])],[50],[],[6]⟩,⟨[],[6],[6,50],[],[],[],[50],[]⟩] (by kernel_rfl) (by kernel_rfl) rfl ?_;(iterate 6 refine h5 ?_);refine kp (fun _ U W=>LR.lookupP underlying153 jo U (W rfl rfl) U rfl hpf rfl) ?_;(iterate 2 refine h5 ?_);obtain ⟨hy4,h⟩:=zm h;refine PQe.stepX [22] (fun _ U W ha=>LR.appP (enc:=RN.e) (L:=l) (R:=x2.runs) [22] xv underlying99 (U rfl rfl) rfl (W rfl rfl) (W rfl rfl) rfl (fun _ h1 h2=>Src.slT (enc:=RN.e) (R:=x2.runs) (uXa h1 h2 (U rfl rfl)) (fun _=>rfl)) (fun _=>rfl) hy4 rfl ha) rfl rfl (.inl rfl) rfl ?_;refine ks (fun _ U W=>LR.mapUpdateP underlying153 jo U (W rfl rfl) U rfl rfl U hpf)<|PQe.nil ?_;(iterate 4 refine g5 ?_);exact ⟨rfl,sO rfl (.c2 rfl rfl rfl rfl<|.cons rfl rfl<|.cons rfl (congrArg (fun z=>PV.d (.v (.int .i64 z))) hwi)<|.nil) (.c2 rfl rfl rfl rfl<|.nil)⟩
   ·simp only [h2,List.length_nil,Nat.zero_add] at hbd;refine .fresh (q:=25) (nl':=p.runs.length) (l':=(List.map RN.e p.runs)) (by simp) (by decide) (by rw [htk];simp only [AL.grow,Option.toList,List.foldl] at h2 h3 ⊢;rw [h2];exact h3 _) fun ctx vm bs ck hvm=>?_
    have hpf:wG (kI (p.dev)) (Zk vm) 0 = none:=by rw [zza hvm];exact h1
    have h:(M.bind (M.idx c1 (i:Int)) fun x5=>M.yV (x5.runs.length * 16 <= 140737488355328)<|M.pure ()).wp (fun _=>True):=⟨p,hidx,hbd,trivial⟩
    (iterate 5 refine g5 ?_);refine PWc.condT (congrArg (fun b=>some (PV.d (.v (.bool b)))) (decide_eq_true (Int.ofNat_lt.2 hi))) ?_;(iterate 5 refine g5 ?_);obtain ⟨x5,hy6,h⟩:=yF h;have hE:=idxU hy6 hidx;subst hE;refine ws (iX (enc:=PT.e) (L:=c1) (y:=x5) underlying27 sizeOf101 rfl rfl hy6 (fun _=>rfl)) ?_;(iterate 10 refine g5 ?_);refine PWc.condT (congrArg (fun b=>some (PV.d (.v (.bool b)))) (decide_eq_true hd))<|wz (tl:=[(3,_),(5,_),(7,_),(8,_),(9,_)]) (to:=[(5,_),(6,_)]) ?_;refine PWc.regionE [⟨[16],[],[],[],[],[6],[],[]⟩,⟨[17],[],[],[],[],[5],[],[]⟩,⟨[18],[],[5],[],[],[],[],[]⟩,⟨[19],[],[],[],[],[6],[],[]⟩,⟨[20],[],[],[],[],[5],[],[]⟩,⟨[21],[],[5],[],[],[],[],[]⟩,⟨[22],[],[6],[],[],[],[],[]⟩,⟨[23],[],[],[],[],[5],[],[]⟩,⟨[24],[],[5],[],[],[],[],[]⟩,⟨[25],[25],[],[25],[],[25],[],[]⟩,⟨[],[6],[6,25],[],[],[],[25],[]⟩] (by kernel_rfl) (by kernel_rfl) rfl ?_;(iterate 6 refine h5 ?_);refine kp (fun _ U W=>LR.lookupPN underlying153 jo U (W rfl rfl) U rfl zeroValue99 rfl hpf) ?_;(iterate 2 refine h5 ?_);obtain ⟨hy7,h⟩:=zm h;refine PQe.stepN (fun _ U W hf=>LR.appNilX (enc:=RN.e) (R:=x5.runs) xv underlying99 (U rfl rfl) hf (Src.slT (enc:=RN.e) (R:=x5.runs) (evObjs (U rfl rfl)) (fun _=>rfl)) (fun _=>rfl) hy7 rfl (JB hf)) rfl (.inl rfl) rfl ?_;refine ks (fun _ U W=>LR.mapUpdatePN underlying153 jo U (W rfl rfl) U rfl rfl U hpf)<|PQe.nil ?_;(iterate 4 refine g5 ?_);exact ⟨rfl,sO rfl (.c2 rfl rfl rfl rfl<|.cons rfl rfl<|.cons rfl (congrArg (fun z=>PV.d (.v (.int .i64 z))) hwi)<|.nil) (.c2 rfl rfl rfl rfl<|.nil)⟩
  ·have hf:zr p = none:=by simp [zr,hd]
   rw [hf] at htk;refine .skip (by rw [htk];rfl) fun ctx vm bs ck=>?_
   have h:(M.bind (M.idx c1 (i:Int)) fun x8=>M.pure ()).wp (fun _=>True):=⟨p,hidx,trivial⟩
   (iterate 5 refine g5 ?_);refine PWc.condT (congrArg (fun b=>some (PV.d (.v (.bool b)))) (decide_eq_true (Int.ofNat_lt.2 hi))) ?_;(iterate 5 refine g5 ?_);obtain ⟨x8,hy9,h⟩:=yF h;have hE:=idxU hy9 hidx;subst hE;refine ws (iX (enc:=PT.e) (L:=c1) (y:=x8) underlying27 sizeOf101 rfl rfl hy9 (fun _=>rfl)) ?_;(iterate 10 refine g5 ?_);refine PWc.condF (congrArg (fun b=>some (PV.d (.v (.bool b)))) (decide_eq_false hd)) ?_;(iterate 5 refine g5 ?_);exact ⟨rfl,sO rfl (.c2 rfl rfl rfl rfl<|.cons rfl rfl<|.cons rfl (congrArg (fun z=>PV.d (.v (.int .i64 z))) hwi)<|.nil) (.cons rfl rfl<|.nil)⟩
 ·have h:(M.pure ()).wp (fun _=>True):=trivial;(iterate 5 refine g5 ?_);refine PWc.condF (congrArg (fun b=>some (PV.d (.v (.bool b)))) (decide_eq_false (by omega))) ?_;refine wZ ?_;exact ⟨rfl,sP⟩
 ·(iterate 5 refine g5 ?_);refine wX ?_;cases h;exact ⟨.inr rfl,2,6,_,_,rfl,rfl,rfl⟩

theorem Wu (c1:List PT) (r0:List PT) (h:(Xq c1).wp (· = r0)):PRow prog 87 [.d (.sl (List.map PT.e c1))] 101 2 (List.map PT.e r0):=by
 refine PRow.intro (sl:=[(0,_)]) func87 rfl ntmps87 rfl rfl ?_;intro ctx hK;(iterate 2 refine g5 ?_);refine ws (aR 101 2 rfl) ?_;(iterate 4 refine g5 ?_);obtain ⟨v2,hy3,h⟩:=zI h;refine PWl.mapN (Yq c1 v2 hy3) rfl call123 rfl rfl rfl rfl rfl (fun bs4 ck4 _=>?_);obtain ⟨v5,hy6,h⟩:=zI h;refine PWl.frzM [4] hK (.cons rfl<|.nil) rfl<|ws (LR.rowN (Ur v2 v5 hy6) rfl call122 rfl rfl rfl rfl)<|wy (tl:=[(0,_),(3,_),(4,_),(5,_)]) (to:=[(5,_)]) ?_;(iterate 2 refine g5 ?_);refine wX ?_;cases h;exact ⟨.inr rfl,2,rfl,.inr ⟨5,_,rfl,(by simp),rfl⟩⟩

theorem ZT (s1_1:List RN) (s2_2:List RN) (r0:Bool) (h:(yW s1_1 s2_2).wp (· = r0)):PFun prog 136 [.d (.sl (List.map RN.e s1_1)),.d (.sl (List.map RN.e s2_2))] (.d (.v (.bool r0))):=by
 refine fI (sl:=[(0,_),(1,_)]) func136 rfl ntmps136 rfl rfl ?_;intro ctx hK;(iterate 13 refine g5 ?_);refine xD h rfl (fun _ h=>?_) (fun _ h=>?_)
 ·(iterate 4 refine g5 ?_);refine wX ?_;cases h;exact xT
 ·(iterate 8 refine g5 ?_);refine PWc.jnX (zF h) (fun (_:Unit) (_:Unit)=>⟨26,[],[]⟩) (fun h=>?_) ?_
  ·refine g5 ?_;refine wM (fun (v17:Int) (_:Unit)=>⟨26,[(0,.d (.sl (List.map RN.e s1_1))),(1,.d (.sl (List.map RN.e s2_2))),(12,.d (.v (.int .i64 (s1_1.length:Int)))),(13,.d (.v (.int .i64 v17)))],[]⟩) () h (sP) ?_;rintro N v17 _ h;(iterate 5 refine g5 ?_);refine xD h rfl (fun _ h=>?_) (fun _ h=>?_)
   ·(iterate 10 refine g5 ?_);(iterate 2 refine h5 ?_);obtain ⟨x19,hy20,h⟩:=yF h;refine qs (fun _ U W=>iX (enc:=RN.e) (L:=s1_1) (y:=x19) underlying99 sizeOf103 U U hy20 (fun _=>rfl)) ?_;(iterate 3 refine h5 ?_);obtain ⟨x21,hy22,h⟩:=yF h;refine qs (fun _ U W=>iX (enc:=RN.e) (L:=s2_2) (y:=x21) underlying99 sizeOf103 U U hy22 (fun _=>rfl)) ?_;refine h5 ?_;refine qs (fun _ U W=>LR.neqAgg U U rfl rfl eq103) ?_;refine h5 ?_;refine xD h rfl (fun _ h=>?_) (fun _ h=>?_)
    ·(iterate 4 refine g5 ?_);refine wX ?_;cases h;exact xT
    ·(iterate 5 refine g5 ?_);exact ⟨(IntKind.i64.wrap (v17 + 1)),(),h,sP⟩
   ·refine wZ ?_;exact ⟨(),(),h,sP⟩
  ·rintro _ _ h;(iterate 4 refine g5 ?_);refine wX ?_;cases h;exact xT


theorem z2a (x1:PT) (y2:PT) (r0:Bool) (h:(jp x1 y2).wp (· = r0)):PFun prog 135 [.agg (List.map .d (PT.e x1)),.agg (List.map .d (PT.e y2))] (.d (.v (.bool r0))):=by
 refine fI (sl:=[(0,_),(1,_)]) func135 rfl ntmps135 rfl rfl ?_;intro ctx hK;(iterate 7 refine g5 ?_);refine wJ (zF h) (fun (v3:Bool) (_:Unit)=>⟨17,[(4,.d (.v (.bool v3)))],[]⟩) (fun h=>?_) ?_
 ·(iterate 7 refine g5 ?_);refine xG (d:=10) h rfl (fun _ h=>?_) (fun _ h=>?_)
  ·(iterate 4 refine g5 ?_);obtain ⟨v5,hy6,h⟩:=zI h;refine wt (cN (ZT x1.runs y2.runs v5 hy6) rfl call136 rfl rfl rfl rfl) ?_;(iterate 3 refine g5 ?_);exact ⟨v5,(),h,sP⟩
  ·(iterate 8 refine g5 ?_);exact ⟨false,(),h,sP⟩
 ·rintro v3 _ h;refine wX ?_;cases h;exact xT

theorem yz (s1_1:List PT) (s2_2:List PT) (r0:Bool) (h:(zd s1_1 s2_2).wp (· = r0)):PFun prog 134 [.d (.sl (List.map PT.e s1_1)),.d (.sl (List.map PT.e s2_2)),.d (.v (.func (.func 135) #[] #[]))] (.d (.v (.bool r0))):=by
 refine fI (sl:=[(0,_),(1,_),(2,_)]) func134 rfl ntmps134 rfl rfl ?_;intro ctx hK;(iterate 13 refine g5 ?_);refine xD h rfl (fun _ h=>?_) (fun _ h=>?_)
 ·(iterate 4 refine g5 ?_);refine wX ?_;cases h;exact xT
 ·(iterate 8 refine g5 ?_);refine PWc.jnX (zF h) (fun (_:Unit) (_:Unit)=>⟨32,[],[]⟩) (fun h=>?_) ?_
  ·refine g5 ?_;refine wM (fun (v21:Int) (_:Unit)=>⟨32,[(1,.d (.sl (List.map PT.e s2_2))),(2,.d (.v (.func (.func 135) #[] #[]))),(15,.d (.sl (List.map PT.e s1_1))),(16,.d (.v (.int .i64 (s1_1.length:Int)))),(17,.d (.v (.int .i64 v21)))],[]⟩) () h (sP) ?_;rintro N v21 _ h;(iterate 5 refine g5 ?_);refine xD h rfl (fun _ h=>?_) (fun _ h=>?_)
   ·(iterate 6 refine g5 ?_);obtain ⟨x23,hy24,h⟩:=yF h;refine ws (iX (enc:=PT.e) (L:=s1_1) (y:=x23) underlying27 sizeOf101 rfl rfl hy24 (fun _=>rfl)) ?_;(iterate 9 refine g5 ?_);obtain ⟨x25,hy26,h⟩:=yF h;refine ws (iX (enc:=PT.e) (L:=s2_2) (y:=x25) underlying27 sizeOf101 rfl rfl hy26 (fun _=>rfl)) ?_;(iterate 9 refine g5 ?_);obtain ⟨v27,hy28,h⟩:=zI h;refine xN (z2a x23 x25 v27 hy28) call135 ?_;(iterate 2 refine g5 ?_);refine xD h rfl (fun _ h=>?_) (fun _ h=>?_)
    ·(iterate 2 refine g5 ?_);refine wy (tl:=[]) (to:=[]) ?_;(iterate 2 refine g5 ?_);refine wX ?_;cases h;exact xT
    ·(iterate 2 refine g5 ?_);refine wy (tl:=[(1,_),(2,_),(15,_),(16,_),(17,_)]) (to:=[]) ?_;(iterate 3 refine g5 ?_);exact ⟨(IntKind.i64.wrap (v21 + 1)),(),h,sP⟩
   ·refine wZ ?_;exact ⟨(),(),h,sP⟩
  ·rintro _ _ h;(iterate 4 refine g5 ?_);refine wX ?_;cases h;exact xT

theorem uha (a1:List PT) (b2:List PT) (r0:Bool) (h:(wLa a1 b2).wp (· = r0)):PFun prog 97 [.d (.sl (List.map PT.e a1)),.d (.sl (List.map PT.e b2))] (.d (.v (.bool r0))):=by
 refine fI (sl:=[(0,_),(1,_)]) func97 rfl ntmps97 rfl rfl ?_;intro ctx hK;(iterate 8 refine g5 ?_);obtain ⟨v3,hy4,h⟩:=zI h;refine xN (yz a1 b2 v3 hy4) call134 ?_;(iterate 2 refine g5 ?_);refine wX ?_;cases h;exact xT

theorem vX (c1:List PT) (r0:Bool) (h:(we c1).wp (· = r0)):PFun prog 64 [.d (.sl (List.map PT.e c1))] (.d (.v (.bool r0))):=by
 refine fI (sl:=[(0,_)]) func64 rfl ntmps64 rfl rfl ?_;intro ctx hK;(iterate 8 refine g5 ?_);obtain ⟨v2,hy3,h⟩:=zI h;refine ws (LR.rowN (Wu c1 v2 hy3) rfl call87 rfl rfl rfl rfl) ?_;obtain ⟨v4,hy5,h⟩:=zI h;refine PWl.frz [5] hK (.cons rfl<|.nil) rfl (by simp) ?_;refine xN (uha c1 v2 v4 hy5) call97 ?_;(iterate 2 refine g5 ?_);refine wX ?_;cases h;exact xT

theorem z3a (a1:List RN) (b2:List RN) (r0:List RN) (h:(VJ a1 b2).wp (· = r0)):PRow prog 167 [.d (.sl (List.map RN.e a1)),.d (.sl (List.map RN.e b2))] 103 2 (List.map RN.e r0):=by
 refine PRow.intro (sl:=[(0,_),(1,_)]) func167 rfl ntmps167 rfl rfl ?_;intro ctx hK;(iterate 2 refine g5 ?_);refine ws (aR 103 2 rfl) ?_;(iterate 4 refine g5 ?_);obtain ⟨v3,hy4,h⟩:=zI h;refine ws (LR.rowN (vA a1 v3 hy4) rfl call155 rfl rfl rfl rfl) ?_;refine g5 ?_;obtain ⟨v5,hy6,h⟩:=zI h;refine ws (LR.rowN (vA b2 v5 hy6) rfl call155 rfl rfl rfl rfl) ?_;(iterate 5 refine g5 ?_);refine ws (aR 103 2 rfl) ?_;(iterate 2 refine g5 ?_);refine wJ (zF h) (fun (out7:List RN) (_:Unit)=>⟨61,[(5,.row 5 (out7.length))],[(5,.row 103 2 (List.map RN.e out7))]⟩) (fun h=>?_) ?_
 ·refine g5 ?_;refine wM (fun (⟨a53,b54,out55⟩:List RN × List RN × List RN) (_:Unit)=>⟨61,[(0,.d (.sl (List.map RN.e a53))),(1,.d (.sl (List.map RN.e b54))),(5,.row 5 (out55.length))],[(5,.row 103 2 (List.map RN.e out55))]⟩) () h (Sub.trans (Sub.frz [0,8] hK rfl (by simp) (AllRow.get (.cons rfl<|.cons rfl<|.nil)))<|Sub.trans (Sub.frz [1,10] hK rfl (by simp) (AllRow.get (.cons rfl<|.cons rfl<|.nil)))<|sP) ?_;rintro N ⟨a53,b54,out55⟩ _ h;(iterate 2 refine g5 ?_);refine wJ (zF h) (fun (v56:Bool) (_:Unit)=>⟨61,[(0,.d (.sl (List.map RN.e a53))),(1,.d (.sl (List.map RN.e b54))),(5,.row 5 (out55.length)),(18,.d (.v (.bool v56)))],[(5,.row 103 2 (List.map RN.e out55))]⟩) (fun h=>?_) ?_
  ·(iterate 5 refine g5 ?_);refine xG (d:=14) h rfl (fun _ h=>?_) (fun _ h=>?_)
   ·(iterate 5 refine g5 ?_);exact ⟨(decide (0 < (b54.length:Int))),(),h,sP⟩
   ·(iterate 5 refine g5 ?_);exact ⟨false,(),h,sP⟩
  ·rintro v56 _ h;refine xD h rfl (fun _ h=>?_) (fun _ h=>?_)
   ·(iterate 4 refine g5 ?_);refine wz (tl:=[(0,_),(1,_),(5,_)]) (to:=[(5,_)]) ?_;refine PWc.regionE [{ws:=[19]},{ws:=[20]},{ws:=[21]},{ws:=[22]},{ws:=[23]},{ws:=[24]},{ws:=[25]},{ws:=[26]},{ws:=[27]},{ws:=[28]},{ws:=[29]},{ws:=[30]},{ws:=[31]},{ws:=[32]},{ws:=[33]},{ws:=[34]},{ws:=[35]},{ws:=[36]},{ws:=[37]},⟨[6],[6],[],[6],[],[6],[],[]⟩,⟨[],[6],[6],[],[],[],[],[]⟩] (by kernel_rfl) (by kernel_rfl) rfl ?_;refine h5 ?_;obtain ⟨x59,hy60,h⟩:=yF h;refine kp (fun _ U W=>iX (enc:=RN.e) (L:=a53) (y:=x59) underlying99 sizeOf103 U U hy60 (fun _=>rfl)) ?_;(iterate 3 refine h5 ?_);obtain ⟨x61,hy62,h⟩:=yF h;refine kp (fun _ U W=>iX (enc:=RN.e) (L:=b54) (y:=x61) underlying99 sizeOf103 U U hy62 (fun _=>rfl)) ?_;(iterate 4 refine h5 ?_);obtain ⟨x63,hy64,h⟩:=yF h;refine kp (fun _ U W=>iX (enc:=RN.e) (L:=a53) (y:=x63) underlying99 sizeOf103 U U hy64 (fun _=>rfl)) ?_;(iterate 3 refine h5 ?_);obtain ⟨x65,hy66,h⟩:=yF h;refine kp (fun _ U W=>iX (enc:=RN.e) (L:=b54) (y:=x65) underlying99 sizeOf103 U U hy66 (fun _=>rfl)) ?_;(iterate 3 refine h5 ?_);refine kp (fun _ U W=>LR.build (ns:=[_,_]) Xp rfl (evpE (fun a b=>U a b) rfl rfl) rfl) ?_;refine PQe.stepN (fun _ U W hf=>LR.allocZ (cs:=[_,_]) zeroValue103 rfl rfl rfl hf) rfl (.inl rfl) rfl ?_;refine ks (fun _ U W=>sB (ns:=[_,_]) sizeOf103 U U rfl rfl (W rfl rfl) rfl rfl)<|PQe.nil ?_;(iterate 2 refine g5 ?_);refine wy (tl:=[(0,_),(1,_),(5,_),(6,_)]) (to:=[(5,_),(6,_)]) ?_;(iterate 6 refine g5 ?_);refine wJ (zF h) (fun (out67:List RN) (_:Unit)=>⟨61,[(0,.d (.sl (List.map RN.e a53))),(1,.d (.sl (List.map RN.e b54))),(5,.row 5 (out67.length))],[(5,.row 103 2 (List.map RN.e out67))]⟩) (fun h=>?_) ?_
    ·refine xD h rfl (fun _ h=>?_) (fun _ h=>?_)
     ·(iterate 3 refine g5 ?_);refine ws (LR.buildSliceD [.tmp 44] xv rfl rfl (.cons rfl rfl rfl<|.nil) (by decide) (by decide)) ?_;obtain ⟨hy69,h⟩:=zm h;refine ws (LR.appT (enc:=RN.e) (L:=out55) (R:=[(⟨(max x59.lo x61.lo),(min x63.hi x65.hi)⟩:RN)]) [5,43] xv underlying99 rfl rfl rfl (Src.slT (enc:=RN.e) (R:=[(⟨(max x59.lo x61.lo),(min x63.hi x65.hi)⟩:RN)]) rfl (fun _=>rfl)) (fun _=>rfl) hy69 rfl rfl) ?_;(iterate 2 refine g5 ?_);exact ⟨(out55 ++ [(⟨(max x59.lo x61.lo),(min x63.hi x65.hi)⟩:RN)]),(),h,sO rfl (.c2 rfl rfl rfl rfl<|.cons rfl (by first | rfl | (simp;done) | (congr 1;first | (simp;done) | (simp;omega) | omega))<|.nil) (.cons rfl rfl<|.nil)⟩
     ·refine g5 ?_;exact ⟨out55,(),h,sP⟩
    ·rintro out67 _ h;(iterate 2 refine g5 ?_);refine h5 ?_;obtain ⟨x70,hy71,h⟩:=yF h;refine qs (fun _ U W=>iX (enc:=RN.e) (L:=a53) (y:=x70) underlying99 sizeOf103 U U hy71 (fun _=>rfl)) ?_;(iterate 3 refine h5 ?_);obtain ⟨x72,hy73,h⟩:=yF h;refine qs (fun _ U W=>iX (enc:=RN.e) (L:=b54) (y:=x72) underlying99 sizeOf103 U U hy73 (fun _=>rfl)) ?_;(iterate 4 refine h5 ?_);refine xD h rfl (fun _ h=>?_) (fun _ h=>?_)
     ·(iterate 2 refine g5 ?_);obtain ⟨hy75,h⟩:=zm h;refine ws (LR.cutLT (enc:=RN.e) (L:=a53) underlying99 sizeOf103 rfl (fun _=>rfl) rfl hy75) ?_;(iterate 2 refine g5 ?_);exact ⟨((List.drop (Int.toNat 1) (List.take (Int.toNat (a53.length:Int)) a53)),b54,out67),(),h,sP⟩
     ·(iterate 2 refine g5 ?_);obtain ⟨hy76,h⟩:=zm h;refine ws (LR.cutLT (enc:=RN.e) (L:=b54) underlying99 sizeOf103 rfl (fun _=>rfl) rfl hy76) ?_;(iterate 2 refine g5 ?_);exact ⟨(a53,(List.drop (Int.toNat 1) (List.take (Int.toNat (b54.length:Int)) b54)),out67),(),h,sP⟩
   ·refine wZ ?_;exact ⟨out55,(),h,sP⟩
 ·rintro out7 _ h;(iterate 5 refine g5 ?_);refine wX ?_;cases h;exact ⟨.inr rfl,4,rfl,.inr ⟨5,_,rfl,(by simp),rfl⟩⟩


theorem z4a (l1:List RN) (r0:List RN) (h:(VK l1).wp (· = r0)):PRow prog 168 [.d (.sl (List.map RN.e l1))] 103 2 (List.map RN.e r0):=by
 refine PRow.intro (sl:=[(0,_)]) func168 rfl ntmps168 rfl rfl ?_;intro ctx hK;(iterate 2 refine g5 ?_);refine ws (aR 103 2 rfl) ?_;(iterate 3 refine g5 ?_);refine ws (aR 103 2 rfl) ?_;(iterate 9 refine g5 ?_);obtain ⟨v2,hy3,h⟩:=zI h;refine ws (LR.rowN (vA l1 v2 hy3) rfl call155 rfl rfl rfl rfl) ?_;(iterate 3 refine g5 ?_);refine wJ (zF h) (fun (⟨at4,out5⟩:Int × List RN) (_:Unit)=>⟨31,[(3,.row 3 (out5.length)),(4,.d (.v (.int .u64 at4)))],[(3,.row 103 2 (List.map RN.e out5))]⟩) (fun h=>?_) ?_
 ·refine g5 ?_;refine wM (fun (⟨at17,v18,out19⟩:Int × Int × List RN) (_:Unit)=>⟨31,[(3,.row 3 (out19.length)),(4,.d (.v (.int .u64 at17))),(8,.row 8 (v2.length)),(9,.d (.v (.int .i64 (v2.length:Int)))),(10,.d (.v (.int .i64 v18)))],[(3,.row 103 2 (List.map RN.e out19)),(8,.row 103 2 (List.map RN.e v2))]⟩) () h (sP) ?_;rintro N ⟨at17,v18,out19⟩ _ h;(iterate 5 refine g5 ?_);refine xD h rfl (fun _ h=>?_) (fun _ h=>?_)
  ·(iterate 5 refine g5 ?_);obtain ⟨x21,hy22,h⟩:=yF h;refine ws (LR.idxRowT (L:=v2) (y:=x21) underlying99 sizeOf103 rfl rfl rfl hy22)<|ws (LR.loadRpT (enc:=RN.e) (L:=v2) (y:=x21) isAgg103 sizeOf103 rfl rfl hy22.2) ?_;(iterate 10 refine g5 ?_);refine ws (LR.build (ns:=[_,_]) Xp rfl rfl rfl)<|ws (LR.buildSliceD [.tmp 19] xv rfl rfl (.cons rfl rfl rfl<|.nil) (by decide) (by decide)) ?_;obtain ⟨hy23,h⟩:=zm h;refine ws (LR.appT (enc:=RN.e) (L:=out19) (R:=[(⟨at17,(IntKind.u64.wrap (x21.lo - 1))⟩:RN)]) [3,14] xv underlying99 rfl rfl rfl (Src.slT (enc:=RN.e) (R:=[(⟨at17,(IntKind.u64.wrap (x21.lo - 1))⟩:RN)]) rfl (fun _=>rfl)) (fun _=>rfl) hy23 rfl rfl) ?_;(iterate 6 refine g5 ?_);refine wy (tl:=[(3,_),(4,_),(8,_),(9,_),(10,_),(24,_)]) (to:=[(3,_),(8,_)]) ?_;(iterate 6 refine g5 ?_);exact ⟨((IntKind.u64.wrap (x21.hi + 1)),(IntKind.i64.wrap (v18 + 1)),(out19 ++ [(⟨at17,(IntKind.u64.wrap (x21.lo - 1))⟩:RN)])),(),h,sO rfl (.cons rfl (by first | rfl | (simp;done) | (congr 1;first | (simp;done) | (simp;omega) | omega))<|.c4 rfl rfl rfl rfl rfl rfl rfl rfl<|.nil) (.c2 rfl rfl rfl rfl<|.nil)⟩
  ·refine wZ ?_;exact ⟨(at17,out19),(),h,sP⟩
 ·rintro ⟨at4,out5⟩ _ h;(iterate 4 refine g5 ?_);refine ws (LR.build (ns:=[_,_]) Xp rfl rfl rfl)<|ws (LR.buildSliceD [.tmp 28] xv rfl rfl (.cons rfl rfl rfl<|.nil) (by decide) (by decide)) ?_;obtain ⟨hy24,h⟩:=zm h;refine ws (LR.appT (enc:=RN.e) (L:=out5) (R:=[(⟨at4,281474976710655⟩:RN)]) [3,26] xv underlying99 rfl rfl rfl (Src.slT (enc:=RN.e) (R:=[(⟨at4,281474976710655⟩:RN)]) rfl (fun _=>rfl)) (fun _=>rfl) hy24 rfl rfl) ?_;(iterate 2 refine g5 ?_);refine wX ?_;cases h;exact ⟨.inr rfl,2,rfl,.inr ⟨3,_,rfl,(by simp),rfl⟩⟩

theorem QZ (a1:List RN) (b2:List RN) (r0:List RN) (h:(Zx a1 b2).wp (· = r0)):PRow prog 147 [.d (.sl (List.map RN.e a1)),.d (.sl (List.map RN.e b2))] 103 2 (List.map RN.e r0):=by
 refine PRow.intro (sl:=[(0,_),(1,_)]) func147 rfl ntmps147 rfl rfl ?_;intro ctx hK;(iterate 2 refine g5 ?_);refine ws (aR 103 2 rfl) ?_;(iterate 5 refine g5 ?_);obtain ⟨v3,hy4,h⟩:=zI h;refine ws (LR.rowN (z4a b2 v3 hy4) rfl call168 rfl rfl rfl rfl) ?_;obtain ⟨v5,hy6,h⟩:=zI h;refine PWl.frz [7] hK (.cons rfl<|.nil) rfl (by simp) ?_;refine ws (LR.rowN (z3a a1 v3 v5 hy6) rfl call167 rfl rfl rfl rfl)<|wy (tl:=[(0,_),(1,_),(5,_),(6,_),(7,_),(8,_)]) (to:=[(8,_)]) ?_;(iterate 2 refine g5 ?_);refine wX ?_;cases h;exact ⟨.inr rfl,4,rfl,.inr ⟨8,_,rfl,(by simp),rfl⟩⟩

theorem XM (a1:List PT) (b2:List PT) (r0:List PT) (h:(wj a1 b2).wp (· = r0)):PRow prog 146 [.d (.sl (List.map PT.e a1)),.d (.sl (List.map PT.e b2)),.d (.v (.func (.func 147) #[] #[]))] 101 2 (List.map PT.e r0):=by
 refine PRow.intro (sl:=[(0,_),(1,_),(2,_)]) func146 rfl ntmps146 rfl rfl ?_;intro ctx hK;(iterate 2 refine g5 ?_);refine ws (aR 101 2 rfl) ?_;(iterate 4 refine g5 ?_);obtain ⟨v3,hy4,h⟩:=zI h;refine PWl.mapN (Yq a1 v3 hy4) rfl call123 rfl rfl rfl rfl rfl (fun bs5 ck5 _=>?_);refine g5 ?_;obtain ⟨v6,hy7,h⟩:=zI h;refine PWl.mapN (Yq b2 v6 hy7) rfl call123 rfl rfl rfl rfl rfl (fun bs8 ck8 _=>?_);(iterate 9 refine g5 ?_);refine wJ (zF h) (fun (v9:List (Int × List RN)) (_:Unit)=>⟨32,[(7,.mp 12)],[(12,.map [.u16] false (VA kI (eL RN.e) v9) bs5 ck5)]⟩) (fun h=>?_) ?_
 ·refine g5 ?_;refine wM (fun (⟨seen32,v33⟩:List Nat × (List (Int × List RN))) (_:Unit)=>⟨32,[(2,.d (.v (.func (.func 147) #[] #[]))),(7,.mp 12),(8,.mp 14),(16,.ref 16 0)],[(12,.map [.u16] false (VA kI (eL RN.e) v33) bs5 ck5),(14,.map [.u16] false (VA kI (eL RN.e) v6) bs8 ck8),(16,.iterO 12 bs5 ck5 seen32)]⟩) () h (sP) ?_;rintro N ⟨seen32,v33⟩ _ h;(iterate 2 refine g5 ?_);obtain ⟨hy43,h⟩:=zm h;replace h:=iNxt h;refine PWl.nextO rfl rfl rfl (nxtD hy43) rfl (fun hy35=>?_) (fun j34 hy36 hy37=>?_)
  ·replace h:=h.1 (nxtA hy35);(iterate 3 refine g5 ?_);refine PWc.condF rfl<|wZ ?_;exact ⟨v33,(),h,sP⟩
  ·replace h:=h.2 j34 (nxtB hy36) hy37;(iterate 3 refine g5 ?_);refine PWc.condT rfl ?_;(iterate 4 refine g5 ?_);obtain ⟨kv38,hy39,h⟩:=yF h;refine ws (LR.entryO rfl rfl rfl (entGet hy39) rfl rfl) ?_;(iterate 12 refine g5 ?_);refine ws (LR.getO (eV:=(eL RN.e)) (zv:=([]:List RN)) (q:=kv38.1) (m:=v6) wIa underlying153 jo zeroValue99 (zRd1 (.slice none 0 0) rfl) rfl rfl rfl rfl rfl rfl) ?_;obtain ⟨v40,hy41,h⟩:=zI h;refine ws (LR.rowN (QZ kv38.2 (AL.getZ v6 kv38.1 ([]:List RN)) v40 hy41) rfl call147 rfl rfl rfl rfl) ?_;obtain ⟨hy42,h⟩:=zm h;refine PWl.frz [29] hK (.cons rfl<|.nil) rfl (by simp) ?_;refine ws (LR.setIn (eV:=(eL RN.e)) (q:=kv38.1) (v:=v40) (m:=v33) wIa underlying153 jo rfl rfl rfl rfl rfl rfl rfl (fun _=>rfl) hy42) ?_;refine g5 ?_;exact ⟨((seen32 ++ [j34]),(AL.set v33 kv38.1 v40)),(),h,sP⟩
 ·rintro v9 _ h;(iterate 3 refine g5 ?_);obtain ⟨v44,hy45,h⟩:=zI h;refine PWl.frzM [7,30] hK (.cons rfl<|.cons rfl<|.nil) rfl<|ws (LR.rowN (Ur v9 v44 hy45) rfl call122 rfl rfl rfl rfl) ?_;(iterate 2 refine g5 ?_);refine wX ?_;cases h;exact ⟨.inr rfl,6,rfl,.inr ⟨31,_,rfl,(by simp),rfl⟩⟩

theorem z5a (a1:List PT) (b2:List PT) (r0:List PT) (h:(VL a1 b2).wp (· = r0)):PRow prog 103 [.d (.sl (List.map PT.e a1)),.d (.sl (List.map PT.e b2))] 101 2 (List.map PT.e r0):=by
 refine PRow.intro (sl:=[(0,_),(1,_)]) func103 rfl ntmps103 rfl rfl ?_;intro ctx hK;(iterate 2 refine g5 ?_);refine ws (aR 101 2 rfl) ?_;(iterate 5 refine g5 ?_);obtain ⟨v3,hy4,h⟩:=zI h;refine ws (LR.rowN (XM a1 b2 v3 hy4) rfl call146 rfl rfl rfl rfl)<|wy (tl:=[(0,_),(1,_),(5,_),(6,_),(7,_)]) (to:=[(7,_)]) ?_;(iterate 2 refine g5 ?_);refine wX ?_;cases h;exact ⟨.inr rfl,4,rfl,.inr ⟨7,_,rfl,(by simp),rfl⟩⟩

theorem Yr (a1:List PT) (b2:List PT) (r0:Bool) (h:(uj a1 b2).wp (· = r0)):PFun prog 66 [.d (.sl (List.map PT.e a1)),.d (.sl (List.map PT.e b2))] (.d (.v (.bool r0))):=by
 refine fI (sl:=[(0,_),(1,_)]) func66 rfl ntmps66 rfl rfl ?_;intro ctx hK;(iterate 8 refine g5 ?_);obtain ⟨v3,hy4,h⟩:=zI h;refine ws (LR.rowN (z5a a1 b2 v3 hy4) rfl call103 rfl rfl rfl rfl) ?_;(iterate 4 refine g5 ?_);refine wX ?_;cases h;exact xT


theorem YE (a1:DT) (b2:DT) (r0:Int) (h:(vT a1 b2).wp (· = r0)):PFun prog 94 [.agg (List.map .d (DT.e a1)),.agg (List.map .d (DT.e b2))] (.d (.v (.int .i64 r0))):=by
 refine fI (sl:=[(0,_),(1,_)]) func94 rfl ntmps94 rfl rfl ?_;intro ctx hK;(iterate 13 refine g5 ?_);obtain ⟨v3,hy4,h⟩:=zI h;refine xN (XV a1.dev b2.dev v3 hy4) call131 ?_;(iterate 7 refine g5 ?_);refine xD h rfl (fun _ h=>?_) (fun _ h=>?_)
 ·(iterate 5 refine g5 ?_);refine wX ?_;cases h;exact xT
 ·(iterate 7 refine g5 ?_);obtain ⟨v6,hy7,h⟩:=zI h;refine xN (uD a1.n b2.n v6 hy7) call132 ?_;(iterate 2 refine g5 ?_);refine wX ?_;cases h;exact xT

theorem ZG (d1:DT) (r0:Bool) (h:(Zb d1).wp (· = r0)):PFun prog 138 [.agg (List.map .d (DT.e d1))] (.d (.v (.bool r0))):=by
 refine fI (sl:=[(0,_)]) func138 rfl ntmps138 rfl rfl ?_;intro ctx hK;(iterate 6 refine g5 ?_);refine wJ (zF h) (fun (v2:Bool) (_:Unit)=>⟨16,[(2,.d (.v (.bool v2)))],[]⟩) (fun h=>?_) ?_
 ·(iterate 5 refine g5 ?_);refine xG (d:=6) h rfl (fun _ h=>?_) (fun _ h=>?_)
  ·(iterate 5 refine g5 ?_);refine xG (d:=11) h rfl (fun _ h=>?_) (fun _ h=>?_)
   ·(iterate 6 refine g5 ?_);exact ⟨(decide (d1.n <= 281474976710655)),(),h,sP⟩
   ·(iterate 6 refine g5 ?_);exact ⟨false,(),h,sP⟩
  ·(iterate 11 refine g5 ?_);exact ⟨false,(),h,sP⟩
 ·rintro v2 _ h;refine wX ?_;cases h;exact xT

theorem qB (v1:Int) (r0:Int × Int) (h:(YW v1).wp (· = r0)):PFun prog 160 [.d (.v (.int .u64 v1))] (.tup [.d (.v (.int .u16 r0.1)),.d (.v (.int .u64 r0.2))]):=by
 refine fI (sl:=[(0,_)]) func160 rfl ntmps160 rfl rfl ?_;intro ctx hK;(iterate 9 refine g5 ?_);refine ws (LR.convInt underlying25 (by rw [underlying24];rfl) rfl rfl) ?_;(iterate 5 refine g5 ?_);refine wX ?_;cases h;exact ⟨.inr rfl,_,.cons (.tmp rfl rfl)<|.cons (.tmp rfl rfl)<|.nil,rfl⟩

theorem Qa (v1:Int) (r0:DT × Bool) (h:(Xr v1).wp (· = r0)):PFun prog 137 [.d (.v (.int .u64 v1))] (.tup [.agg (List.map .d (DT.e r0.1)),.d (.v (.bool r0.2))]):=by
 refine fI (sl:=[(0,_)]) func137 rfl ntmps137 rfl rfl ?_;intro ctx hK;(iterate 8 refine g5 ?_);obtain ⟨v2,hy3,h⟩:=zI h;refine xN (qB v1 v2 hy3) call160 ?_;(iterate 10 refine g5 ?_);refine ws (LR.build (ns:=[_,_]) vi rfl rfl rfl) ?_;(iterate 7 refine g5 ?_);obtain ⟨v4,hy5,h⟩:=zI h;refine xN (ZG (⟨v2.1,v2.2⟩:DT) v4 hy5) call138 ?_;(iterate 2 refine g5 ?_);refine xD h rfl (fun _ h=>?_) (fun _ h=>?_)
 ·(iterate 2 refine g5 ?_);refine ws (LR.build (ns:=[_,_]) vi rfl rfl rfl) ?_;(iterate 3 refine g5 ?_);refine wX ?_;cases h;exact ⟨.inr rfl,_,.cons (.agg isAgg105 sizeOf105 rfl rfl rfl rfl)<|.cons (.tmp rfl rfl)<|.nil,rfl⟩
 ·(iterate 7 refine g5 ?_);refine wX ?_;cases h;exact ⟨.inr rfl,_,.cons (.agg isAgg105 sizeOf105 rfl rfl rfl rfl)<|.cons (.tmp rfl rfl)<|.nil,rfl⟩

theorem Qb (f1:Int) (r0:Bool) (h:(Xs f1).wp (· = r0)):PFun prog 139 [.d (.v (.int .u8 f1))] (.d (.v (.bool r0))):=by
 refine fI (sl:=[(0,_)]) func139 rfl ntmps139 rfl rfl ?_;intro ctx hK;(iterate 5 refine g5 ?_);refine wJ (zF h) (fun (v2:Bool) (_:Unit)=>⟨9,[(2,.d (.v (.bool v2)))],[]⟩) (fun h=>?_) ?_
 ·(iterate 4 refine g5 ?_);refine xG (d:=5) h rfl (fun _ h=>?_) (fun _ h=>?_)
  ·(iterate 5 refine g5 ?_);exact ⟨(decide (f1 <= 5)),(),h,sP⟩
  ·(iterate 5 refine g5 ?_);exact ⟨false,(),h,sP⟩
 ·rintro v2 _ h;refine wX ?_;cases h;exact xT


theorem Qc (s1:ByteArray) (r0:Bool) (h:(Xt s1).wp (· = r0)):PFun prog 140 [.d (.v (.string s1))] (.d (.v (.bool r0))):=by
 refine fI (sl:=[(0,_)]) func140 rfl ntmps140 rfl rfl ?_;intro ctx hK;(iterate 11 refine g5 ?_);refine xD h rfl (fun _ h=>?_) (fun _ h=>?_)
 ·(iterate 4 refine g5 ?_);refine wX ?_;cases h;exact xT
 ·(iterate 8 refine g5 ?_);refine PWc.jnX (zF h) (fun (_:Unit) (_:Unit)=>⟨23,[],[]⟩) (fun h=>?_) ?_
  ·refine g5 ?_;refine wM (fun (v20:Int) (_:Unit)=>⟨23,[(0,.d (.v (.string s1))),(8,.d (.v (.int .i64 (ByteArray.size s1:Int)))),(9,.d (.v (.int .i64 v20)))],[]⟩) () h (sP) ?_;rintro N v20 _ h;(iterate 5 refine g5 ?_);refine xD h rfl (fun _ h=>?_) (fun _ h=>?_)
   ·(iterate 9 refine g5 ?_);refine wJ (zF h) (fun (v22:Bool) (_:Unit)=>⟨23,[(0,.d (.v (.string s1))),(8,.d (.v (.int .i64 (ByteArray.size s1:Int)))),(9,.d (.v (.int .i64 v20))),(21,.d (.v (.bool v22)))],[]⟩) (fun h=>?_) ?_
    ·(iterate 3 refine g5 ?_);obtain ⟨b23,hy24,h⟩:=yF h;refine ws (LR.strIdx underlying9 rfl rfl hy24) ?_;(iterate 2 refine g5 ?_);refine xG (d:=16) h rfl (fun _ h=>?_) (fun _ h=>?_)
     ·(iterate 6 refine g5 ?_);exact ⟨true,(),h,sP⟩
     ·(iterate 2 refine g5 ?_);obtain ⟨b26,hy27,h⟩:=yF h;refine wt (LR.strIdx underlying9 rfl rfl hy27) ?_;(iterate 3 refine g5 ?_);exact ⟨(decide (126 < b26)),(),h,sP⟩
    ·rintro v22 _ h;refine xD h rfl (fun _ h=>?_) (fun _ h=>?_)
     ·(iterate 4 refine g5 ?_);refine wX ?_;cases h;exact xT
     ·(iterate 5 refine g5 ?_);exact ⟨(IntKind.i64.wrap (v20 + 1)),(),h,sP⟩
   ·refine wZ ?_;exact ⟨(),(),h,sP⟩
  ·rintro _ _ h;(iterate 4 refine g5 ?_);refine wX ?_;cases h;exact xT

theorem Qd (l1:List DT) (r0:Bool) (h:(Xu l1).wp (· = r0)):PFun prog 141 [.d (.sl (List.map DT.e l1))] (.d (.v (.bool r0))):=by
 refine fI (sl:=[(0,_)]) func141 rfl ntmps141 rfl rfl ?_;intro ctx hK;(iterate 11 refine g5 ?_);refine PWc.jnX (zF h) (fun (_:Unit) (_:Unit)=>⟨25,[],[]⟩) (fun h=>?_) ?_
 ·refine g5 ?_;refine wM (fun (v23:Int) (_:Unit)=>⟨25,[(0,.d (.sl (List.map DT.e l1))),(5,.d (.v (.int .i64 (l1.length:Int)))),(6,.d (.v (.int .i64 v23)))],[]⟩) () h (sP) ?_;rintro N v23 _ h;(iterate 5 refine g5 ?_);refine xD h rfl (fun _ h=>?_) (fun _ h=>?_)
  ·(iterate 9 refine g5 ?_);refine wJ (zF h) (fun (v25:Bool) (_:Unit)=>⟨25,[(0,.d (.sl (List.map DT.e l1))),(5,.d (.v (.int .i64 (l1.length:Int)))),(6,.d (.v (.int .i64 v23))),(23,.d (.v (.bool v25)))],[]⟩) (fun h=>?_) ?_
   ·refine g5 ?_;(iterate 3 refine h5 ?_);refine xQ (d:=11) h rfl (fun _ h=>?_) (fun _ h=>?_)
    ·(iterate 3 refine h5 ?_);obtain ⟨x27,hy28,h⟩:=yF h;refine qt (fun _ U W=>iX (enc:=DT.e) (L:=l1) (y:=x27) underlying106 sizeOf105 U U hy28 (fun _=>rfl)) ?_;(iterate 3 refine h5 ?_);obtain ⟨x29,hy30,h⟩:=yF h;refine qt (fun _ U W=>iX (enc:=DT.e) (L:=l1) (y:=x29) underlying106 sizeOf105 U U hy30 (fun _=>rfl)) ?_;refine h5 ?_;obtain ⟨v31,hy32,h⟩:=zI h;refine qt (fun _ U W=>cN (YE x27 x29 v31 hy32) U call94 (vu (fun a b=>U a b) rfl rfl) rfl rfl rfl) ?_;(iterate 3 refine h5 ?_);exact ⟨(decide (0 <= v31)),(),h,sP⟩
    ·(iterate 13 refine h5 ?_);exact ⟨false,(),h,sP⟩
   ·rintro v25 _ h;refine xD h rfl (fun _ h=>?_) (fun _ h=>?_)
    ·(iterate 4 refine g5 ?_);refine wX ?_;cases h;exact xT
    ·(iterate 5 refine g5 ?_);exact ⟨(IntKind.i64.wrap (v23 + 1)),(),h,sP⟩
  ·refine wZ ?_;exact ⟨(),(),h,sP⟩
 ·rintro _ _ h;(iterate 4 refine g5 ?_);refine wX ?_;cases h;exact xT

theorem Ys (e1:EV) (r0:Bool) (h:(uk e1).wp (· = r0)):PFun prog 98 [.agg (List.map .d (EV.e e1))] (.d (.v (.bool r0))):=by
 refine fI (sl:=[(0,_)]) func98 rfl ntmps98 rfl rfl ?_;intro ctx hK;(iterate 10 refine g5 ?_);obtain ⟨v2,hy3,h⟩:=zI h;refine xN (Qa e1.cid v2 hy3) call137 ?_;(iterate 8 refine g5 ?_);refine wJ (zF h) (fun (v4:Bool) (_:Unit)=>⟨72,[(1,.ref 1 0),(20,.d (.v (.bool v4)))],[(1,.cells 108 [.d (.v (.int .u16 e1.dot.dev)),.d (.v (.int .u64 e1.dot.n)),.d (.v (.int .u8 e1.kind)),.d (.v (.int .u64 e1.cid)),.d (.v (.int .u8 e1.field)),.d (.v (.string e1.text)),.d (.sl (List.map DT.e e1.kills))])]⟩) (fun h=>?_) ?_
 ·(iterate 4 refine g5 ?_);refine xG (d:=15) h rfl (fun _ h=>?_) (fun _ h=>?_)
  ·(iterate 6 refine g5 ?_);exact ⟨true,(),h,sP⟩
  ·(iterate 2 refine g5 ?_);obtain ⟨v6,hy7,h⟩:=zI h;refine wt (cN (ZG e1.dot v6 hy7) rfl call138 rfl rfl rfl rfl) ?_;(iterate 3 refine g5 ?_);exact ⟨(!v6),(),h,sP⟩
 ·rintro v4 _ h;refine xD h rfl (fun _ h=>?_) (fun _ h=>?_)
  ·(iterate 4 refine g5 ?_);refine wX ?_;cases h;exact xT
  ·(iterate 7 refine g5 ?_);refine PWc.jnX (zF h) (fun (_:Unit) (_:Unit)=>⟨72,[(1,.ref 1 0)],[(1,.cells 108 [.d (.v (.int .u16 e1.dot.dev)),.d (.v (.int .u64 e1.dot.n)),.d (.v (.int .u8 e1.kind)),.d (.v (.int .u64 e1.cid)),.d (.v (.int .u8 e1.field)),.d (.v (.string e1.text)),.d (.sl (List.map DT.e e1.kills))])]⟩) (fun h=>?_) ?_
   ·(iterate 6 refine g5 ?_);refine xD h rfl (fun _ h=>?_) (fun _ h=>?_)
    ·refine g5 ?_;refine wJ (zF h) (fun (v10:Bool) (_:Unit)=>⟨72,[(1,.ref 1 0),(34,.d (.v (.bool v10)))],[(1,.cells 108 [.d (.v (.int .u16 e1.dot.dev)),.d (.v (.int .u64 e1.dot.n)),.d (.v (.int .u8 e1.kind)),.d (.v (.int .u64 e1.cid)),.d (.v (.int .u8 e1.field)),.d (.v (.string e1.text)),.d (.sl (List.map DT.e e1.kills))])]⟩) (fun h=>?_) ?_
     ·(iterate 3 refine g5 ?_);obtain ⟨v11,hy12,h⟩:=zI h;refine xN (Qb e1.field v11 hy12) call139 ?_;(iterate 2 refine g5 ?_);refine xG (d:=29) h rfl (fun _ h=>?_) (fun _ h=>?_)
      ·(iterate 6 refine g5 ?_);exact ⟨true,(),h,sP⟩
      ·(iterate 2 refine g5 ?_);obtain ⟨v14,hy15,h⟩:=zI h;refine wt (cN (Qc e1.text v14 hy15) rfl call140 rfl rfl rfl rfl) ?_;(iterate 3 refine g5 ?_);exact ⟨(!v14),(),h,sP⟩
     ·rintro v10 _ h;refine xD h rfl (fun _ h=>?_) (fun _ h=>?_)
      ·(iterate 4 refine g5 ?_);refine wX ?_;cases h;exact xT
      ·refine g5 ?_;exact ⟨(),(),h,sP⟩
    ·(iterate 5 refine g5 ?_);refine xD h rfl (fun _ h=>?_) (fun _ h=>?_)
     ·refine g5 ?_;refine wJ (zF h) (fun (v18:Bool) (_:Unit)=>⟨72,[(1,.ref 1 0),(44,.d (.v (.bool v18)))],[(1,.cells 108 [.d (.v (.int .u16 e1.dot.dev)),.d (.v (.int .u64 e1.dot.n)),.d (.v (.int .u8 e1.kind)),.d (.v (.int .u64 e1.cid)),.d (.v (.int .u8 e1.field)),.d (.v (.string e1.text)),.d (.sl (List.map DT.e e1.kills))])]⟩) (fun h=>?_) ?_
      ·(iterate 5 refine g5 ?_);refine xG (d:=40) h rfl (fun _ h=>?_) (fun _ h=>?_)
       ·(iterate 5 refine g5 ?_);exact ⟨true,(),h,sP⟩
       ·(iterate 5 refine g5 ?_);exact ⟨(!decide (e1.text = (⟨#[]⟩:ByteArray))),(),h,sP⟩
      ·rintro v18 _ h;refine xD h rfl (fun _ h=>?_) (fun _ h=>?_)
       ·(iterate 4 refine g5 ?_);refine wX ?_;cases h;exact xT
       ·refine g5 ?_;exact ⟨(),(),h,sP⟩
     ·(iterate 4 refine g5 ?_);refine wX ?_;cases h;exact xT
   ·rintro _ _ h;(iterate 2 refine g5 ?_);refine wJ (zF h) (fun (v21:Bool) (_:Unit)=>⟨72,[(1,.ref 1 0),(54,.d (.v (.bool v21)))],[(1,.cells 108 [.d (.v (.int .u16 e1.dot.dev)),.d (.v (.int .u64 e1.dot.n)),.d (.v (.int .u8 e1.kind)),.d (.v (.int .u64 e1.cid)),.d (.v (.int .u8 e1.field)),.d (.v (.string e1.text)),.d (.sl (List.map DT.e e1.kills))])]⟩) (fun h=>?_) ?_
    ·(iterate 6 refine g5 ?_);refine xG (d:=49) h rfl (fun _ h=>?_) (fun _ h=>?_)
     ·(iterate 6 refine g5 ?_);exact ⟨true,(),h,sP⟩
     ·(iterate 2 refine g5 ?_);obtain ⟨v23,hy24,h⟩:=zI h;refine wt (cN (Qd e1.kills v23 hy24) rfl call141 rfl rfl rfl rfl) ?_;(iterate 3 refine g5 ?_);exact ⟨(!v23),(),h,sP⟩
    ·rintro v21 _ h;refine xD h rfl (fun _ h=>?_) (fun _ h=>?_)
     ·(iterate 4 refine g5 ?_);refine wX ?_;cases h;exact xT
     ·(iterate 9 refine g5 ?_);refine PWc.jnX (zF h) (fun (_:Unit) (_:Unit)=>⟨72,[],[]⟩) (fun h=>?_) ?_
      ·refine g5 ?_;refine wM (fun (v43:Int) (_:Unit)=>⟨72,[(1,.ref 1 0),(56,.d (.sl (List.map DT.e e1.kills))),(57,.d (.v (.int .i64 (e1.kills.length:Int)))),(58,.d (.v (.int .i64 v43)))],[(1,.cells 108 [.d (.v (.int .u16 e1.dot.dev)),.d (.v (.int .u64 e1.dot.n)),.d (.v (.int .u8 e1.kind)),.d (.v (.int .u64 e1.cid)),.d (.v (.int .u8 e1.field)),.d (.v (.string e1.text)),.d (.sl (List.map DT.e e1.kills))])]⟩) () h (sP) ?_;rintro N v43 _ h;(iterate 5 refine g5 ?_);refine xD h rfl (fun _ h=>?_) (fun _ h=>?_)
       ·(iterate 5 refine g5 ?_);obtain ⟨x45,hy46,h⟩:=yF h;refine ws (iX (enc:=DT.e) (L:=e1.kills) (y:=x45) underlying106 sizeOf105 rfl rfl hy46 (fun _=>rfl)) ?_;(iterate 5 refine g5 ?_);refine wJ (zF h) (fun (v47:Bool) (_:Unit)=>⟨72,[(1,.ref 1 0),(56,.d (.sl (List.map DT.e e1.kills))),(57,.d (.v (.int .i64 (e1.kills.length:Int)))),(58,.d (.v (.int .i64 v43))),(70,.d (.v (.bool v47)))],[(1,.cells 108 [.d (.v (.int .u16 e1.dot.dev)),.d (.v (.int .u64 e1.dot.n)),.d (.v (.int .u8 e1.kind)),.d (.v (.int .u64 e1.cid)),.d (.v (.int .u8 e1.field)),.d (.v (.string e1.text)),.d (.sl (List.map DT.e e1.kills))])]⟩) (fun h=>?_) ?_
        ·(iterate 2 refine g5 ?_);obtain ⟨v48,hy49,h⟩:=zI h;refine xN (ZG x45 v48 hy49) call138 ?_;(iterate 2 refine g5 ?_);refine xG (d:=65) h rfl (fun _ h=>?_) (fun _ h=>?_)
         ·(iterate 6 refine g5 ?_);exact ⟨true,(),h,sP⟩
         ·(iterate 3 refine g5 ?_);refine wt (LR.eqlAgg rfl rfl rfl rfl zma) ?_;(iterate 2 refine g5 ?_);exact ⟨((decide (x45.dev = e1.dot.dev) && decide (x45.n = e1.dot.n))),(),h,sP⟩
        ·rintro v47 _ h;refine xD h rfl (fun _ h=>?_) (fun _ h=>?_)
         ·(iterate 4 refine g5 ?_);refine wX ?_;cases h;exact xT
         ·(iterate 5 refine g5 ?_);exact ⟨(IntKind.i64.wrap (v43 + 1)),(),h,sP⟩
       ·refine wZ ?_;exact ⟨(),(),h,sP⟩
      ·rintro _ _ h;(iterate 4 refine g5 ?_);refine wX ?_;cases h;exact xT

theorem JD (c1:List PT) (dev2:Int) (r0:List RN) (h:(VM c1 dev2).wp (· = r0)):PRow prog 133 [.d (.sl (List.map PT.e c1)),.d (.v (.int .u16 dev2))] 103 2 (List.map RN.e r0):=by
 refine PRow.intro (sl:=[(0,_),(1,_)]) func133 rfl ntmps133 rfl rfl ?_;intro ctx hK;(iterate 2 refine g5 ?_);refine ws (aR 103 2 rfl) ?_;(iterate 4 refine g5 ?_);obtain ⟨v3,hy4,h⟩:=zI h;refine PWl.mapN (Yq c1 v3 hy4) rfl call123 rfl rfl rfl rfl rfl (fun bs5 ck5 _=>?_);refine g5 ?_;refine ws (LR.getO (eV:=(eL RN.e)) (zv:=([]:List RN)) (q:=dev2) (m:=v3) wIa underlying153 jo zeroValue99 (zRd1 (.slice none 0 0) rfl) rfl rfl rfl rfl rfl rfl) ?_;obtain ⟨v6,hy7,h⟩:=zI h;refine ws (LR.rowN (vA (AL.getZ v3 dev2 ([]:List RN)) v6 hy7) rfl call155 rfl rfl rfl rfl)<|wy (tl:=[(0,_),(1,_),(5,_),(6,_),(7,_),(8,_),(9,_)]) (to:=[(6,_),(9,_)]) ?_;(iterate 2 refine g5 ?_);refine wX ?_;cases h;exact ⟨.inr rfl,4,rfl,.inr ⟨9,_,rfl,(by simp),rfl⟩⟩

theorem We (x1:RN) (n2:Int) (r0:Int) (h:(uu x1 n2).wp (· = r0)):PFun prog 162 [.agg (List.map .d (RN.e x1)),.d (.v (.int .u64 n2))] (.d (.v (.int .i64 r0))):=by
 refine fI (sl:=[(0,_),(1,_)]) func162 rfl ntmps162 rfl rfl ?_;intro ctx hK;(iterate 10 refine g5 ?_);obtain ⟨v3,hy4,h⟩:=zI h;refine xN (uD x1.hi n2 v3 hy4) call132 ?_;(iterate 2 refine g5 ?_);refine wX ?_;cases h;exact xT


theorem yQ (x1:List RN) (target2:Int) (r0:Int × Bool) (h:(zU x1 target2).wp (· = r0)):PFun prog 161 [.d (.sl (List.map RN.e x1)),.d (.v (.int .u64 target2)),.d (.v (.func (.func 162) #[] #[]))] (.tup [.d (.v (.int .i64 r0.1)),.d (.v (.bool r0.2))]):=by
 refine fI (sl:=[(0,_),(1,_),(2,_)]) func161 rfl ntmps161 rfl rfl ?_;intro ctx hK;(iterate 18 refine g5 ?_);refine wJ (zF h) (fun (i3:Int) (_:Unit)=>⟨49,[(0,.d (.sl (List.map RN.e x1))),(1,.d (.v (.int .u64 target2))),(2,.d (.v (.func (.func 162) #[] #[]))),(8,.d (.v (.int .i64 (x1.length:Int)))),(9,.d (.v (.int .i64 i3)))],[]⟩) (fun h=>?_) ?_
 ·refine g5 ?_;refine wM (fun (⟨i18,j19⟩:Int × Int) (_:Unit)=>⟨49,[(0,.d (.sl (List.map RN.e x1))),(1,.d (.v (.int .u64 target2))),(2,.d (.v (.func (.func 162) #[] #[]))),(8,.d (.v (.int .i64 (x1.length:Int)))),(9,.d (.v (.int .i64 i18))),(10,.d (.v (.int .i64 j19)))],[]⟩) () h (sP) ?_;rintro N ⟨i18,j19⟩ _ h;(iterate 7 refine g5 ?_);refine xD h rfl (fun _ h=>?_) (fun _ h=>?_)
  ·(iterate 7 refine g5 ?_);refine ws (LR.convInt underlying127 (by rw [underlying3];rfl) rfl rfl) ?_;refine g5 ?_;refine ws (LR.convInt underlying3 (by rw [underlying127];rfl) rfl rfl) ?_;(iterate 7 refine g5 ?_);obtain ⟨x21,hy22,h⟩:=yF h;refine ws (iX (enc:=RN.e) (L:=x1) (y:=x21) underlying99 sizeOf103 rfl rfl hy22 (fun _=>rfl)) ?_;refine g5 ?_;refine wy (tl:=[(0,_),(1,_),(2,_),(8,_),(9,_),(10,_),(11,_),(24,_),(28,_)]) (to:=[]) ?_;refine g5 ?_;obtain ⟨v23,hy24,h⟩:=zI h;refine xN (We x21 target2 v23 hy24) call162 ?_;(iterate 2 refine g5 ?_);refine xD h rfl (fun _ h=>?_) (fun _ h=>?_)
   ·(iterate 5 refine g5 ?_);exact ⟨((IntKind.i64.wrap (((IntKind.i64.wrap ((Int.fdiv ((IntKind.u64.wrap (IntKind.i64.wrap (i18 + j19)))) (2 ^ 1))))) + 1)),j19),(),h,sP⟩
   ·(iterate 4 refine g5 ?_);exact ⟨(i18,(IntKind.i64.wrap ((Int.fdiv ((IntKind.u64.wrap (IntKind.i64.wrap (i18 + j19)))) (2 ^ 1))))),(),h,sP⟩
  ·refine wZ ?_;exact ⟨i18,(),h,sP⟩
 ·rintro i3 _ h;refine g5 ?_;refine wJ (zF h) (fun (v26:Bool) (_:Unit)=>⟨49,[(6,.d (.v (.int .i64 i3))),(7,.d (.v (.bool v26)))],[]⟩) (fun h=>?_) ?_
  ·(iterate 6 refine g5 ?_);refine xG (d:=39) h rfl (fun _ h=>?_) (fun _ h=>?_)
   ·(iterate 3 refine g5 ?_);obtain ⟨x28,hy29,h⟩:=yF h;refine wt (iX (enc:=RN.e) (L:=x1) (y:=x28) underlying99 sizeOf103 rfl rfl hy29 (fun _=>rfl)) ?_;(iterate 2 refine g5 ?_);obtain ⟨v30,hy31,h⟩:=zI h;refine wt (cN (We x28 target2 v30 hy31) rfl call162 rfl rfl rfl rfl) ?_;(iterate 3 refine g5 ?_);refine wy (tl:=[(6,_),(48,_)]) (to:=[]) ?_;(iterate 2 refine g5 ?_);exact ⟨(decide (v30 = 0)),(),h,sP⟩
   ·(iterate 10 refine g5 ?_);refine wy (tl:=[(6,_),(48,_)]) (to:=[]) ?_;(iterate 2 refine g5 ?_);exact ⟨false,(),h,sP⟩
  ·rintro v26 _ h;refine wX ?_;cases h;exact ⟨.inr rfl,_,.cons (.tmp rfl rfl)<|.cons (.tmp rfl rfl)<|.nil,rfl⟩

theorem xDa (l1:List RN) (n2:Int) (r0:Bool) (h:(jA l1 n2).wp (· = r0)):PFun prog 142 [.d (.sl (List.map RN.e l1)),.d (.v (.int .u64 n2))] (.d (.v (.bool r0))):=by
 refine fI (sl:=[(0,_),(1,_)]) func142 rfl ntmps142 rfl rfl ?_;intro ctx hK;(iterate 7 refine g5 ?_);obtain ⟨v3,hy4,h⟩:=zI h;refine ws (LR.rowN (vA l1 v3 hy4) rfl call155 rfl rfl rfl rfl) ?_;(iterate 6 refine g5 ?_);obtain ⟨v5,hy6,h⟩:=zI h;refine PWl.frz [0,8,10] hK (.cons rfl<|.cons rfl<|.cons rfl<|.nil) rfl (by simp) ?_;refine xN (yQ v3 n2 v5 hy6) call161 ?_;(iterate 7 refine g5 ?_);refine wJ (zF h) (fun (v7:Bool) (_:Unit)=>⟨28,[(4,.d (.v (.bool v7)))],[]⟩) (fun h=>?_) ?_
 ·(iterate 6 refine g5 ?_);refine xG (d:=19) h rfl (fun _ h=>?_) (fun _ h=>?_)
  ·refine g5 ?_;refine wy (tl:=[(1,_),(4,_),(5,_),(19,_),(20,_)]) (to:=[]) ?_;refine g5 ?_;obtain ⟨x9,hy10,h⟩:=yF h;refine wt (iX (enc:=RN.e) (L:=v3) (y:=x9) underlying99 sizeOf103 rfl rfl hy10 (fun _=>rfl)) ?_;(iterate 7 refine g5 ?_);exact ⟨(decide (x9.lo <= n2)),(),h,sP⟩
  ·refine g5 ?_;refine wy (tl:=[(1,_),(4,_),(5,_),(19,_),(20,_)]) (to:=[]) ?_;(iterate 9 refine g5 ?_);exact ⟨false,(),h,sP⟩
 ·rintro v7 _ h;refine wX ?_;cases h;exact xT

theorem UQ (c1:List PT) (d2:DT) (r0:Bool) (h:(Wp c1 d2).wp (· = r0)):PFun prog 99 [.d (.sl (List.map PT.e c1)),.agg (List.map .d (DT.e d2))] (.d (.v (.bool r0))):=by
 refine fI (sl:=[(0,_),(1,_)]) func99 rfl ntmps99 rfl rfl ?_;intro ctx hK;(iterate 6 refine g5 ?_);refine wJ (zF h) (fun (v3:Bool) (_:Unit)=>⟨17,[(4,.d (.v (.bool v3)))],[]⟩) (fun h=>?_) ?_
 ·refine g5 ?_;(iterate 4 refine h5 ?_);refine xQ (d:=8) h rfl (fun _ h=>?_) (fun _ h=>?_)
  ·(iterate 3 refine h5 ?_);obtain ⟨v5,hy6,h⟩:=zI h;refine qt (fun _ U W=>cN (PRow.fun (JD c1 d2.dev v5 hy6)) U call133 (vu (fun a b=>U a b) rfl rfl) rfl rfl rfl) ?_;(iterate 2 refine h5 ?_);obtain ⟨v7,hy8,h⟩:=zI h;refine qt (fun _ U W=>cN (xDa v5 d2.n v7 hy8) U call142 (vu (fun a b=>U a b) rfl rfl) rfl rfl rfl) ?_;(iterate 3 refine h5 ?_);exact ⟨v7,(),h,sP⟩
  ·(iterate 10 refine h5 ?_);exact ⟨false,(),h,sP⟩
 ·rintro v3 _ h;refine wX ?_;cases h;exact xT

theorem ZU (s1:List DT) (v2:DT) (r0:Int) (h:(xJ s1 v2).wp (· = r0)):PFun prog 188 [.d (.sl (List.map DT.e s1)),.agg (List.map .d (DT.e v2))] (.d (.v (.int .i64 r0))):=by
 refine fI (sl:=[(0,_),(1,_)]) func188 rfl ntmps188 rfl rfl ?_;intro ctx hK;(iterate 12 refine g5 ?_);refine PWc.jnX (zF h) (fun (_:Unit) (_:Unit)=>⟨19,[],[]⟩) (fun h=>?_) ?_
 ·refine g5 ?_;refine wM (fun (v12:Int) (_:Unit)=>⟨19,[(0,.d (.sl (List.map DT.e s1))),(3,.ref 3 0),(7,.d (.v (.int .i64 (s1.length:Int)))),(8,.d (.v (.int .i64 v12)))],[(3,.cells 105 [.d (.v (.int .u16 v2.dev)),.d (.v (.int .u64 v2.n))])]⟩) () h (sP) ?_;rintro N v12 _ h;(iterate 5 refine g5 ?_);refine xD h rfl (fun _ h=>?_) (fun _ h=>?_)
  ·(iterate 10 refine g5 ?_);(iterate 3 refine h5 ?_);obtain ⟨x14,hy15,h⟩:=yF h;refine qs (fun _ U W=>iX (enc:=DT.e) (L:=s1) (y:=x14) underlying106 sizeOf105 U U hy15 (fun _=>rfl)) ?_;refine h5 ?_;refine qs (fun _ U W=>LR.eqlAgg U U rfl rfl zma) ?_;refine h5 ?_;refine xD h rfl (fun _ h=>?_) (fun _ h=>?_)
   ·(iterate 5 refine g5 ?_);refine wX ?_;cases h;exact xT
   ·(iterate 5 refine g5 ?_);exact ⟨(IntKind.i64.wrap (v12 + 1)),(),h,sP⟩
  ·refine wZ ?_;exact ⟨(),(),h,sP⟩
 ·rintro _ _ h;(iterate 4 refine g5 ?_);refine wX ?_;cases h;exact xT

theorem uP (s1:List DT) (v2:DT) (r0:Bool) (h:(yg s1 v2).wp (· = r0)):PFun prog 174 [.d (.sl (List.map DT.e s1)),.agg (List.map .d (DT.e v2))] (.d (.v (.bool r0))):=by
 refine fI (sl:=[(0,_),(1,_)]) func174 rfl ntmps174 rfl rfl ?_;intro ctx hK;(iterate 9 refine g5 ?_);obtain ⟨v3,hy4,h⟩:=zI h;refine xN (ZU s1 v2 v3 hy4) call188 ?_;(iterate 3 refine g5 ?_);refine wX ?_;cases h;exact xT


theorem vaa (l1:List DT) (d2:DT) (r0:Bool) (h:(QR l1 d2).wp (· = r0)):PFun prog 163 [.d (.sl (List.map DT.e l1)),.agg (List.map .d (DT.e d2))] (.d (.v (.bool r0))):=by
 refine fI (sl:=[(0,_),(1,_)]) func163 rfl ntmps163 rfl rfl ?_;intro ctx hK;(iterate 9 refine g5 ?_);obtain ⟨v3,hy4,h⟩:=zI h;refine xN (uP l1 d2 v3 hy4) call174 ?_;(iterate 2 refine g5 ?_);refine wX ?_;cases h;exact xT

theorem qC (e1:EV) (d2:DT) (r0:Bool) (h:(Wq e1 d2).wp (· = r0)):PFun prog 143 [.agg (List.map .d (EV.e e1)),.agg (List.map .d (DT.e d2))] (.d (.v (.bool r0))):=by
 refine fI (sl:=[(0,_),(1,_)]) func143 rfl ntmps143 rfl rfl ?_;intro ctx hK;(iterate 11 refine g5 ?_);obtain ⟨v3,hy4,h⟩:=zI h;refine xN (vaa e1.kills d2 v3 hy4) call163 ?_;(iterate 2 refine g5 ?_);refine wX ?_;cases h;exact xT

theorem Qe (l1:List EV) (d2:DT) (r0:Bool) (h:(Xv l1 d2).wp (· = r0)):PFun prog 100 [.d (.sl (List.map EV.e l1)),.agg (List.map .d (DT.e d2))] (.d (.v (.bool r0))):=by
 refine fI (sl:=[(0,_),(1,_)]) func100 rfl ntmps100 rfl rfl ?_;intro ctx hK;(iterate 12 refine g5 ?_);refine PWc.jnX (zF h) (fun (_:Unit) (_:Unit)=>⟨17,[],[]⟩) (fun h=>?_) ?_
 ·refine g5 ?_;refine wM (fun (v16:Int) (_:Unit)=>⟨17,[(3,.ref 3 0),(7,.d (.sl (List.map EV.e l1))),(8,.d (.v (.int .i64 (l1.length:Int)))),(9,.d (.v (.int .i64 v16)))],[(3,.cells 105 [.d (.v (.int .u16 d2.dev)),.d (.v (.int .u64 d2.n))])]⟩) () h (sP) ?_;rintro N v16 _ h;(iterate 5 refine g5 ?_);refine xD h rfl (fun _ h=>?_) (fun _ h=>?_)
  ·(iterate 5 refine g5 ?_);obtain ⟨x18,hy19,h⟩:=yF h;refine ws (iX (enc:=EV.e) (L:=l1) (y:=x18) underlying28 sizeOf108 rfl rfl hy19 (fun _=>rfl)) ?_;(iterate 8 refine g5 ?_);obtain ⟨v20,hy21,h⟩:=zI h;refine xN (qC x18 d2 v20 hy21) call143 ?_;refine g5 ?_;refine xD h rfl (fun _ h=>?_) (fun _ h=>?_)
   ·(iterate 4 refine g5 ?_);refine wX ?_;cases h;exact xT
   ·(iterate 5 refine g5 ?_);exact ⟨(IntKind.i64.wrap (v16 + 1)),(),h,sP⟩
  ·refine wZ ?_;exact ⟨(),(),h,sP⟩
 ·rintro _ _ h;(iterate 4 refine g5 ?_);refine wX ?_;cases h;exact xT

theorem ZV (s1:List DT) (r0:List DT) (h:(yX s1).wp (· = r0)):PRow prog 164 [.d (.sl (List.map DT.e s1))] 105 2 (List.map DT.e r0):=by
 refine PRow.intro (sl:=[(0,_)]) func164 rfl ntmps164 rfl rfl ?_;intro ctx hK;(iterate 2 refine g5 ?_);refine ws (aR 105 2 rfl) ?_;(iterate 5 refine g5 ?_);replace h:=iNil h;refine PWl.eqlNilT (enc:=DT.e) (L:=s1) underlying106 rfl rfl (fun b2 hy3=>?_);replace h:=h b2 hy3;refine g5 ?_;refine xD h rfl (fun _ h=>?_) (fun _ h=>?_)
 ·(iterate 2 refine g5 ?_);refine wy (tl:=[(0,_),(3,_),(4,_)]) (to:=[]) ?_;refine ws (aR 105 2 rfl) ?_;refine g5 ?_;refine wX ?_;cases h;exact ⟨.inr rfl,2,rfl,.inr ⟨2,_,rfl,(by first | (simp;done) | (simp;omega) | omega),rfl⟩⟩
 ·(iterate 5 refine g5 ?_);obtain ⟨hy5,h⟩:=zm h;refine ws (LR.appT (enc:=DT.e) (L:=([]:List DT)) (R:=s1) [5] xI underlying106 rfl (by first | (simp;done) | (simp;omega) | omega) rfl (Src.slT (enc:=DT.e) (R:=s1) rfl (fun _=>rfl)) (fun _=>rfl) hy5 rfl rfl) ?_;refine wy (tl:=[(0,_),(3,_),(4,_),(6,_),(7,_)]) (to:=[(5,_)]) ?_;(iterate 2 refine g5 ?_);refine wX ?_;cases h;exact ⟨.inr rfl,2,rfl,.inr ⟨5,_,rfl,(by simp),rfl⟩⟩

theorem uE (row1:List DT) (r0:List DT) (h:(zt row1).wp (· = r0)):PObj prog 166 [.row 100 (row1.length)] [(100,.row 105 2 (List.map DT.e row1))] [] (.row 100 (r0.length)) (fun _:Unit=>[(100,.row 105 2 (List.map DT.e r0))]):=by
 refine PObj.intro (sl:=[(0,_)]) func166 rfl ntmps166 rfl rfl rfl ?_;intro ctx hK pv;(iterate 2 refine g5 ?_);refine ws (aR 105 2 rfl) ?_;(iterate 8 refine g5 ?_);refine xD h rfl (fun _ h=>?_) (fun _ h=>?_)
 ·(iterate 3 refine g5 ?_);refine wy (tl:=[(0,_),(6,_),(7,_),(8,_),(9,_)]) (to:=[(100,_)]) ?_;(iterate 2 refine g5 ?_);refine wX ?_;cases h;exact EndsO.mk () (.inr rfl) (sO (tl:=[(2,_)]) (to:=[(100,_)]) rfl (.cons rfl (by first | rfl | (simp;done) | (congr 1;first | (simp;done) | (simp;omega) | omega))<|.nil) (.cons rfl rfl<|.nil)) (.cons (.tmp rfl)<|.nil) rfl rfl
 ·(iterate 6 refine g5 ?_);refine PWc.jnX (zF h) (fun (_:Unit) (_:Unit)=>⟨61,[(0,.row 100 (row1.length))],[(100,.row 105 2 (List.map DT.e row1))]⟩) (fun h=>?_) ?_
  ·refine g5 ?_;refine wM (fun (k148:Int) (_:Unit)=>⟨61,[(0,.row 100 (row1.length)),(3,.d (.v (.int .i64 k148)))],[(100,.row 105 2 (List.map DT.e row1))]⟩) () h (sP) ?_;rintro N k148 _ h;(iterate 8 refine g5 ?_);refine xD h rfl (fun _ h=>?_) (fun _ h=>?_)
   ·(iterate 2 refine g5 ?_);refine PWc.jnX (zF h) (fun (_:Unit) (_:Unit)=>⟨61,[(0,.row 100 (row1.length)),(3,.d (.v (.int .i64 k148)))],[(100,.row 105 2 (List.map DT.e row1))]⟩) (fun h=>?_) ?_
    ·(iterate 3 refine g5 ?_);(iterate 2 refine h5 ?_);obtain ⟨x150,hy151,h⟩:=yF h;refine qs (fun _ U W=>LR.idxRowT (L:=row1) (y:=x150) underlying106 sizeOf105 U rfl U hy151) ?_;refine qs (fun _ U W=>LR.loadRpT (enc:=DT.e) (L:=row1) (y:=x150) isAgg105 sizeOf105 U (W rfl) hy151.2) ?_;(iterate 3 refine h5 ?_);obtain ⟨x152,hy153,h⟩:=yF h;refine qs (fun _ U W=>LR.idxRowT (L:=row1) (y:=x152) underlying106 sizeOf105 U rfl U hy153) ?_;refine qs (fun _ U W=>LR.loadRpT (enc:=DT.e) (L:=row1) (y:=x152) isAgg105 sizeOf105 U (W rfl) hy153.2) ?_;refine qs (fun _ U W=>LR.eqlAgg U U rfl rfl zma) ?_;refine h5 ?_;refine xD h rfl (fun _ h=>?_) (fun _ h=>?_)
     ·(iterate 4 refine g5 ?_);obtain ⟨hy155,h⟩:=zm h;refine ws (LR.pieceRowT (enc:=DT.e) (L:=row1) underlying106 sizeOf105 rfl rfl rfl rfl hy155) ?_;(iterate 7 refine g5 ?_);refine wJ (zF h) (fun (⟨k156,v157⟩:Int × List DT) (_:Unit)=>⟨61,[(0,.row 100 (v157.length)),(3,.d (.v (.int .i64 k156)))],[(100,.row 105 2 (List.map DT.e v157))]⟩) (fun h=>?_) ?_
      ·refine g5 ?_;refine wM (fun (⟨k197,k2_198,v199⟩:Int × Int × List DT) (_:Unit)=>⟨61,[(0,.row 100 (v199.length)),(3,.d (.v (.int .i64 k197))),(4,.pc 100 (Int.toNat k148) (row1.length - Int.toNat k148) 2),(5,.d (.v (.int .i64 k2_198)))],[(100,.row 105 2 (List.map DT.e v199))]⟩) () h (sP) ?_;rintro N ⟨k197,k2_198,v199⟩ _ h;(iterate 8 refine g5 ?_);refine xD h rfl (fun _ h=>?_) (fun _ h=>?_)
       ·(iterate 2 refine g5 ?_);refine wJ (zF h) (fun (⟨k201,v202⟩:Int × List DT) (_:Unit)=>⟨61,[(0,.row 100 (v202.length)),(3,.d (.v (.int .i64 k201))),(4,.pc 100 (Int.toNat k148) (row1.length - Int.toNat k148) 2),(5,.d (.v (.int .i64 k2_198)))],[(100,.row 105 2 (List.map DT.e v202))]⟩) (fun h=>?_) ?_
        ·(iterate 3 refine g5 ?_);(iterate 2 refine h5 ?_);obtain ⟨hy205,h⟩:=zm h;obtain ⟨x203,hy204,h⟩:=yF h;have hy206:True /\ v199[((Int.toNat k148) + Int.toNat k2_198)]? = some x203:=⟨trivial,hy204.2⟩
         refine qs (fun _ U W=>LR.idxPc underlying106 sizeOf105 U U hy205) ?_;refine qs (fun _ U W=>LR.loadRpT (enc:=DT.e) (L:=v199) (y:=x203) isAgg105 sizeOf105 U (W rfl) hy206.2) ?_;(iterate 3 refine h5 ?_);obtain ⟨hy209,h⟩:=zm h;obtain ⟨x207,hy208,h⟩:=yF h;have hy210:True /\ v199[((Int.toNat k148) + Int.toNat (IntKind.i64.wrap (k2_198 - 1)))]? = some x207:=⟨trivial,hy208.2⟩
         refine qs (fun _ U W=>LR.idxPc underlying106 sizeOf105 U U hy209) ?_;refine qs (fun _ U W=>LR.loadRpT (enc:=DT.e) (L:=v199) (y:=x207) isAgg105 sizeOf105 U (W rfl) hy210.2) ?_;refine qs (fun _ U W=>LR.neqAgg U U rfl rfl zma) ?_;refine h5 ?_;refine xD h rfl (fun _ h=>?_) (fun _ h=>?_)
         ·(iterate 5 refine g5 ?_);refine wy (tl:=[(0,_),(3,_),(4,_),(5,_),(45,_),(46,_),(47,_)]) (to:=[(100,_)]) ?_;refine g5 ?_;obtain ⟨hy214,h⟩:=zm h;obtain ⟨x212,hy213,h⟩:=yF h;have hy215:True /\ v199[((Int.toNat k148) + Int.toNat k2_198)]? = some x212:=⟨trivial,hy213.2⟩
          refine ws (LR.idxPc underlying106 sizeOf105 rfl rfl hy214)<|ws (LR.loadRpT (enc:=DT.e) (L:=v199) (y:=x212) isAgg105 sizeOf105 rfl rfl hy215.2) ?_;obtain ⟨x216,hy217,h⟩:=yF h;refine ws (LR.idxRowT (L:=v199) (y:=x216) underlying106 sizeOf105 rfl rfl rfl hy217)<|ws (LR.storeRpT (enc:=DT.e) (L:=v199) (a:=x216) (b:=x212) sizeOf105 rfl rfl rfl rfl rfl hy217.2 rfl rfl) ?_;(iterate 6 refine g5 ?_);exact ⟨((IntKind.i64.wrap (k197 + 1)),(List.set v199 (Int.toNat k197) x212)),(),h,sO rfl (.cons rfl (by first | rfl | (simp;done) | (congr 1;first | (simp;done) | (simp;omega) | omega))<|.c2 rfl rfl rfl rfl<|.cons rfl rfl<|.nil) (.cons rfl rfl<|.nil)⟩
         ·refine g5 ?_;exact ⟨(k197,v199),(),h,sP⟩
        ·rintro ⟨k201,v202⟩ _ h;(iterate 5 refine g5 ?_);exact ⟨(k201,(IntKind.i64.wrap (k2_198 + 1)),v202),(),h,sP⟩
       ·refine wZ ?_;exact ⟨(k197,v199),(),h,sP⟩
      ·rintro ⟨k156,v157⟩ _ h;(iterate 4 refine g5 ?_);obtain ⟨hy218,h⟩:=zm h;refine ws (LR.pieceRowT (enc:=DT.e) (L:=v157) underlying106 sizeOf105 rfl rfl rfl rfl hy218) ?_;obtain ⟨hy219,h⟩:=zm h;refine ws (LR.clearPcT (enc:=DT.e) (L:=v157) (z:=(⟨0,0⟩:DT)) underlying106 rfl rfl zeroValue105 rfl rfl rfl rfl hy219 rfl) ?_;(iterate 5 refine g5 ?_);obtain ⟨hy220,h⟩:=zm h;refine ws (LR.cutRowT (enc:=DT.e) (L:=(List.take (Int.toNat k156) v157 ++ List.replicate (v157.length - Int.toNat k156) (⟨0,0⟩:DT) ++ List.drop ((Int.toNat k156) + (v157.length - Int.toNat k156)) v157)) [0,54,56,57] underlying106 sizeOf105 rfl (by first | (simp;done) | (simp;omega) | omega) rfl rfl hy220 rfl) ?_;(iterate 2 refine g5 ?_);refine wX ?_;cases h;exact EndsO.mk () (.inr rfl) (sO (tl:=[(2,_)]) (to:=[(100,_)]) rfl (.cons rfl (by first | rfl | (simp;done) | (congr 1;first | (simp;done) | (simp;omega) | omega))<|.nil) (.cons rfl rfl<|.nil)) (.cons (.tmp rfl)<|.nil) rfl rfl
     ·refine g5 ?_;exact ⟨(),(),h,sP⟩
    ·rintro _ _ h;(iterate 5 refine g5 ?_);exact ⟨(IntKind.i64.wrap (k148 + 1)),(),h,sP⟩
   ·refine wZ ?_;exact ⟨(),(),h,sP⟩
  ·rintro _ _ h;(iterate 5 refine g5 ?_);refine wX ?_;cases h;exact EndsO.mk () (.inr rfl) (sO (tl:=[(2,_)]) (to:=[(100,_)]) rfl (.cons rfl (by first | rfl | (simp;done) | (congr 1;first | (simp;done) | (simp;omega) | omega))<|.nil) (.cons rfl rfl<|.nil)) (.cons (.tmp rfl)<|.nil) rfl rfl


theorem Wv (l1:List DT) (r0:List DT) (h:(Xw l1).wp (· = r0)):PRow prog 145 [.d (.sl (List.map DT.e l1))] 105 2 (List.map DT.e r0):=by
 refine PRow.intro (sl:=[(0,_)]) func145 rfl ntmps145 rfl rfl ?_;intro ctx hK;(iterate 2 refine g5 ?_);refine ws (aR 105 2 rfl) ?_;(iterate 4 refine g5 ?_);obtain ⟨v2,hy3,h⟩:=zI h;refine ws (LR.rowN (ZV l1 v2 hy3) rfl call164 rfl rfl rfl rfl) ?_;(iterate 5 refine g5 ?_);obtain ⟨hy5,h⟩:=zm h;refine PWl.sortFn (encD:=DT.e) (enc:=DT.v) (l:=v2) uOa (fun _=>rfl) DT.v1 (fun _=>rfl) rfl call165 rfl rfl rfl (by simp) hy5 rfl (fun s4 hy6 hy7=>?_);replace h:=iSrt h s4 hy6 hy7;have hy6l:=hy6.length_eq;(iterate 4 refine g5 ?_);obtain ⟨y8,hy9,h⟩:=zI h;refine xO [(100,5)] [3,5,6,8] [100] (uE s4 y8 hy9) call166<|wy (tl:=[(0,_),(4,_),(7,_),(9,_)]) (to:=[(5,_)]) ?_;(iterate 2 refine g5 ?_);refine wX ?_;cases h;exact ⟨.inr rfl,2,rfl,.inr ⟨5,_,rfl,(by simp),rfl⟩⟩

theorem Qf (l1:List DT) (c2:List PT) (has3:Bool) (r0:List DT) (h:(UN l1 c2 has3).wp (· = r0)):PRow prog 144 [.d (.sl (List.map DT.e l1)),.d (.sl (List.map PT.e c2)),.d (.v (.bool has3))] 105 2 (List.map DT.e r0):=by
 refine PRow.intro (sl:=[(0,_),(1,_),(2,_)]) func144 rfl ntmps144 rfl rfl ?_;intro ctx hK;(iterate 2 refine g5 ?_);refine ws (aR 105 2 rfl) ?_;(iterate 3 refine g5 ?_);refine ws (aR 105 2 rfl) ?_;(iterate 8 refine g5 ?_);refine wJ (zF h) (fun (out4:List DT) (_:Unit)=>⟨28,[(7,.row 7 (out4.length))],[(7,.row 105 2 (List.map DT.e out4))]⟩) (fun h=>?_) ?_
 ·refine g5 ?_;refine wM (fun (⟨v23,out24⟩:Int × List DT) (_:Unit)=>⟨28,[(1,.d (.sl (List.map PT.e c2))),(2,.d (.v (.bool has3))),(7,.row 7 (out24.length)),(10,.d (.sl (List.map DT.e l1))),(11,.d (.v (.int .i64 (l1.length:Int)))),(12,.d (.v (.int .i64 v23)))],[(7,.row 105 2 (List.map DT.e out24))]⟩) () h (sP) ?_;rintro N ⟨v23,out24⟩ _ h;(iterate 5 refine g5 ?_);refine xD h rfl (fun _ h=>?_) (fun _ h=>?_)
  ·(iterate 2 refine g5 ?_);refine wJ (zF h) (fun (out26:List DT) (_:Unit)=>⟨28,[(1,.d (.sl (List.map PT.e c2))),(2,.d (.v (.bool has3))),(7,.row 7 (out26.length)),(10,.d (.sl (List.map DT.e l1))),(11,.d (.v (.int .i64 (l1.length:Int)))),(12,.d (.v (.int .i64 v23)))],[(7,.row 105 2 (List.map DT.e out26))]⟩) (fun h=>?_) ?_
   ·(iterate 3 refine g5 ?_);obtain ⟨x27,hy28,h⟩:=yF h;refine ws (iX (enc:=DT.e) (L:=l1) (y:=x27) underlying106 sizeOf105 rfl rfl hy28 (fun _=>rfl)) ?_;(iterate 8 refine g5 ?_);obtain ⟨v29,hy30,h⟩:=zI h;refine xN (UQ c2 x27 v29 hy30) call99 ?_;(iterate 3 refine g5 ?_);refine xD h rfl (fun _ h=>?_) (fun _ h=>?_)
    ·(iterate 3 refine g5 ?_);refine ws (LR.buildSliceD [.tmp 22] xI rfl rfl (.cons rfl rfl rfl<|.nil) (by decide) (by decide)) ?_;obtain ⟨hy32,h⟩:=zm h;refine ws (LR.appT (enc:=DT.e) (L:=out24) (R:=[x27]) [7,21] xI underlying106 rfl rfl rfl (Src.slT (enc:=DT.e) (R:=[x27]) rfl (fun _=>rfl)) (fun _=>rfl) hy32 rfl rfl) ?_;(iterate 2 refine g5 ?_);exact ⟨(out24 ++ [x27]),(),h,sP⟩
    ·refine g5 ?_;exact ⟨out24,(),h,sP⟩
   ·rintro out26 _ h;(iterate 4 refine g5 ?_);exact ⟨((IntKind.i64.wrap (v23 + 1)),out26),(),h,sP⟩
  ·refine wZ ?_;exact ⟨out24,(),h,sP⟩
 ·rintro out4 _ h;(iterate 3 refine g5 ?_);obtain ⟨v33,hy34,h⟩:=zI h;refine PWl.frz [7,26] hK (.cons rfl<|.cons rfl<|.nil) rfl (by simp) ?_;refine ws (LR.rowN (Wv out4 v33 hy34) rfl call145 rfl rfl rfl rfl) ?_;(iterate 2 refine g5 ?_);refine wX ?_;cases h;exact ⟨.inr rfl,6,rfl,.inr ⟨27,_,rfl,(by simp),rfl⟩⟩

theorem Qg (l1:List DT) (c2:List PT) (r0:List DT) (h:(Xx l1 c2).wp (· = r0)):PRow prog 101 [.d (.sl (List.map DT.e l1)),.d (.sl (List.map PT.e c2))] 105 2 (List.map DT.e r0):=by
 refine PRow.intro (sl:=[(0,_),(1,_)]) func101 rfl ntmps101 rfl rfl ?_;intro ctx hK;(iterate 2 refine g5 ?_);refine ws (aR 105 2 rfl) ?_;(iterate 5 refine g5 ?_);obtain ⟨v3,hy4,h⟩:=zI h;refine ws (LR.rowN (Qf l1 c2 false v3 hy4) rfl call144 rfl rfl rfl rfl)<|wy (tl:=[(0,_),(1,_),(5,_),(6,_),(7,_)]) (to:=[(7,_)]) ?_;(iterate 2 refine g5 ?_);refine wX ?_;cases h;exact ⟨.inr rfl,4,rfl,.inr ⟨7,_,rfl,(by simp),rfl⟩⟩

theorem Qh (l1:List EV) (r0:List DT) (h:(Xy l1).wp (· = r0)):PRow prog 102 [.d (.sl (List.map EV.e l1))] 105 2 (List.map DT.e r0):=by
 refine PRow.intro (sl:=[(0,_)]) func102 rfl ntmps102 rfl rfl ?_;intro ctx hK;(iterate 2 refine g5 ?_);refine ws (aR 105 2 rfl) ?_;(iterate 3 refine g5 ?_);refine ws (aR 105 2 rfl) ?_;(iterate 8 refine g5 ?_);refine wJ (zF h) (fun (out2:List DT) (_:Unit)=>⟨23,[(3,.row 3 (out2.length))],[(3,.row 105 2 (List.map DT.e out2))]⟩) (fun h=>?_) ?_
 ·refine g5 ?_;refine wM (fun (⟨v15,out16⟩:Int × List DT) (_:Unit)=>⟨23,[(3,.row 3 (out16.length)),(6,.d (.sl (List.map EV.e l1))),(7,.d (.v (.int .i64 (l1.length:Int)))),(8,.d (.v (.int .i64 v15)))],[(3,.row 105 2 (List.map DT.e out16))]⟩) () h (sP) ?_;rintro N ⟨v15,out16⟩ _ h;(iterate 5 refine g5 ?_);refine xD h rfl (fun _ h=>?_) (fun _ h=>?_)
  ·(iterate 5 refine g5 ?_);obtain ⟨x18,hy19,h⟩:=yF h;refine ws (iX (enc:=EV.e) (L:=l1) (y:=x18) underlying28 sizeOf108 rfl rfl hy19 (fun _=>rfl)) ?_;(iterate 4 refine g5 ?_);refine wz (tl:=[(3,_),(5,_),(6,_),(7,_),(8,_)]) (to:=[(3,_),(5,_)]) ?_;refine PWc.regionE [⟨[12],[],[],[],[],[3],[],[]⟩,⟨[13],[],[],[],[],[5],[],[]⟩,⟨[14],[],[5],[],[],[],[],[]⟩,{ws:=[15]},⟨[3,12,16],[3],[3],[],[(3,[3,12])],[3],[],[]⟩,⟨[17],[],[],[],[],[5],[],[]⟩,⟨[18],[],[5],[],[],[],[],[]⟩,⟨[3,12,16,19],[3],[3],[],[(3,[3,12,16])],[3],[],[]⟩,⟨[3],[],[],[],[],[3],[],[]⟩] (by kernel_rfl) (by kernel_rfl) rfl ?_;(iterate 3 refine h5 ?_);refine kp (fun _ U W=>LR.buildSliceD [.tmp 14] xI rfl rfl (.cons U rfl rfl<|.nil) (by decide) (by decide)) ?_;obtain ⟨hy20,h⟩:=zm h;refine PQe.stepA [3,12] (fun _ U W ha=>LR.appT (enc:=DT.e) (L:=out16) (R:=[x18.dot]) [3,12] xI underlying106 (U rfl rfl) rfl (W rfl rfl) (Src.slT (enc:=DT.e) (R:=[x18.dot]) (U rfl rfl) (fun _=>rfl)) (fun _=>rfl) hy20 rfl ha) rfl (.inl rfl) rfl ?_;(iterate 2 refine h5 ?_);obtain ⟨hy21,h⟩:=zm h;refine PQe.stepA [3,12,16] (fun _ U W ha=>LR.appT (enc:=DT.e) (L:=(out16 ++ [x18.dot])) (R:=x18.kills) [3,12,16] xI underlying106 (U rfl rfl) rfl (W rfl rfl) (Src.slT (enc:=DT.e) (R:=x18.kills) (U rfl rfl) (fun _=>rfl)) (fun _=>rfl) hy21 rfl ha) rfl (.inl rfl) rfl ?_;refine h5 ?_;refine PQe.nil ?_;(iterate 4 refine g5 ?_);exact ⟨((IntKind.i64.wrap (v15 + 1)),((out16 ++ [x18.dot]) ++ x18.kills)),(),h,sP⟩
  ·refine wZ ?_;exact ⟨out16,(),h,sP⟩
 ·rintro out2 _ h;(iterate 3 refine g5 ?_);obtain ⟨v22,hy23,h⟩:=zI h;refine PWl.frz [3,21] hK (.cons rfl<|.cons rfl<|.nil) rfl (by simp) ?_;refine ws (LR.rowN (Wv out2 v22 hy23) rfl call145 rfl rfl rfl rfl) ?_;(iterate 2 refine g5 ?_);refine wX ?_;cases h;exact ⟨.inr rfl,2,rfl,.inr ⟨22,_,rfl,(by simp),rfl⟩⟩

theorem Yt (d1:DL) (r0:Bool) (h:(vU d1).wp (· = r0)):PFun prog 65 [.agg (List.map .d (DL.e d1))] (.d (.v (.bool r0))):=by
 refine fI (sl:=[(0,_)]) func65 rfl ntmps65 rfl rfl ?_;intro ctx hK;(iterate 7 refine g5 ?_);refine wJ (zF h) (fun (v2:Bool) (_:Unit)=>⟨84,[(1,.ref 1 0),(28,.d (.v (.bool v2)))],[(1,.cells 30 [.d (.sl (List.map PT.e d1.from_)),.d (.sl (List.map PT.e d1.to_)),.d (.sl (List.map EV.e d1.events))])]⟩) (fun h=>?_) ?_
 ·(iterate 3 refine g5 ?_);obtain ⟨v3,hy4,h⟩:=zI h;refine xN (vX d1.from_ v3 hy4) call64 ?_;(iterate 2 refine g5 ?_);refine xG (d:=9) h rfl (fun _ h=>?_) (fun _ h=>?_)
  ·(iterate 12 refine g5 ?_);refine wy (tl:=[(1,_),(15,_),(21,_)]) (to:=[(1,_)]) ?_;(iterate 8 refine g5 ?_);exact ⟨true,(),h,sP⟩
  ·(iterate 2 refine g5 ?_);obtain ⟨v6,hy7,h⟩:=zI h;refine wt (cN (vX d1.to_ v6 hy7) rfl call64 rfl rfl rfl rfl) ?_;(iterate 3 refine g5 ?_);refine xG (d:=15) h rfl (fun _ h=>?_) (fun _ h=>?_)
   ·(iterate 5 refine g5 ?_);refine wy (tl:=[(1,_),(15,_),(20,_)]) (to:=[(1,_)]) ?_;(iterate 9 refine g5 ?_);exact ⟨true,(),h,sP⟩
   ·(iterate 4 refine g5 ?_);obtain ⟨v9,hy10,h⟩:=zI h;refine wt (cN (Yr d1.from_ d1.to_ v9 hy10) rfl call66 rfl rfl rfl rfl)<|wy (tl:=[(1,_),(15,_),(20,_)]) (to:=[(1,_)]) ?_;(iterate 3 refine g5 ?_);refine xG (d:=23) h rfl (fun _ h=>?_) (fun _ h=>?_)
    ·(iterate 6 refine g5 ?_);exact ⟨true,(),h,sP⟩
    ·(iterate 6 refine g5 ?_);exact ⟨(decide (4096 < (d1.events.length:Int))),(),h,sP⟩
 ·rintro v2 _ h;refine xD h rfl (fun _ h=>?_) (fun _ h=>?_)
  ·(iterate 4 refine g5 ?_);refine wX ?_;cases h;exact xT
  ·(iterate 9 refine g5 ?_);refine PWc.jnX (zF h) (fun (_:Unit) (_:Unit)=>⟨84,[(1,.ref 1 0)],[(1,.cells 30 [.d (.sl (List.map PT.e d1.from_)),.d (.sl (List.map PT.e d1.to_)),.d (.sl (List.map EV.e d1.events))])]⟩) (fun h=>?_) ?_
   ·refine g5 ?_;refine wM (fun (v58:Int) (_:Unit)=>⟨84,[(1,.ref 1 0),(30,.d (.sl (List.map EV.e d1.events))),(31,.d (.v (.int .i64 (d1.events.length:Int)))),(32,.d (.v (.int .i64 v58)))],[(1,.cells 30 [.d (.sl (List.map PT.e d1.from_)),.d (.sl (List.map PT.e d1.to_)),.d (.sl (List.map EV.e d1.events))])]⟩) () h (sP) ?_;rintro N v58 _ h;(iterate 5 refine g5 ?_);refine xD h rfl (fun _ h=>?_) (fun _ h=>?_)
    ·(iterate 6 refine g5 ?_);obtain ⟨x60,hy61,h⟩:=yF h;refine ws (iX (enc:=EV.e) (L:=d1.events) (y:=x60) underlying28 sizeOf108 rfl rfl hy61 (fun _=>rfl)) ?_;(iterate 7 refine g5 ?_);refine wJ (zF h) (fun (v62:Bool) (_:Unit)=>⟨84,[(1,.ref 1 0),(3,.d (.v (.int .i64 v58))),(4,.ref 4 0),(30,.d (.sl (List.map EV.e d1.events))),(31,.d (.v (.int .i64 (d1.events.length:Int)))),(32,.d (.v (.int .i64 v58))),(37,.d (.v (.bool v62)))],[(1,.cells 30 [.d (.sl (List.map PT.e d1.from_)),.d (.sl (List.map PT.e d1.to_)),.d (.sl (List.map EV.e d1.events))]),(4,.cells 108 [.d (.v (.int .u16 x60.dot.dev)),.d (.v (.int .u64 x60.dot.n)),.d (.v (.int .u8 x60.kind)),.d (.v (.int .u64 x60.cid)),.d (.v (.int .u8 x60.field)),.d (.v (.string x60.text)),.d (.sl (List.map DT.e x60.kills))])]⟩) (fun h=>?_) ?_
     ·(iterate 2 refine g5 ?_);obtain ⟨v63,hy64,h⟩:=zI h;refine xN (Ys x60 v63 hy64) call98 ?_;(iterate 2 refine g5 ?_);refine xG (d:=41) h rfl (fun _ h=>?_) (fun _ h=>?_)
      ·(iterate 6 refine g5 ?_);refine wy (tl:=[(1,_),(3,_),(4,_),(30,_),(31,_),(32,_),(42,_),(43,_),(44,_),(45,_),(46,_),(47,_)]) (to:=[(1,_),(4,_)]) ?_;(iterate 2 refine g5 ?_);exact ⟨true,(),h,sP⟩
      ·(iterate 4 refine g5 ?_);obtain ⟨v66,hy67,h⟩:=zI h;refine wt (cN (UQ d1.from_ x60.dot v66 hy67) rfl call99 rfl rfl rfl rfl) ?_;refine g5 ?_;refine wy (tl:=[(1,_),(3,_),(4,_),(30,_),(31,_),(32,_),(42,_),(43,_),(44,_),(45,_),(46,_),(47,_)]) (to:=[(1,_),(4,_)]) ?_;(iterate 2 refine g5 ?_);exact ⟨v66,(),h,sP⟩
     ·rintro v62 _ h;refine xD h rfl (fun _ h=>?_) (fun _ h=>?_)
      ·(iterate 4 refine g5 ?_);refine wX ?_;cases h;exact xT
      ·refine g5 ?_;refine wJ (zF h) (fun (v69:Bool) (_:Unit)=>⟨84,[(1,.ref 1 0),(4,.ref 4 0),(30,.d (.sl (List.map EV.e d1.events))),(31,.d (.v (.int .i64 (d1.events.length:Int)))),(32,.d (.v (.int .i64 v58))),(48,.d (.v (.bool v69)))],[(1,.cells 30 [.d (.sl (List.map PT.e d1.from_)),.d (.sl (List.map PT.e d1.to_)),.d (.sl (List.map EV.e d1.events))]),(4,.cells 108 [.d (.v (.int .u16 x60.dot.dev)),.d (.v (.int .u64 x60.dot.n)),.d (.v (.int .u8 x60.kind)),.d (.v (.int .u64 x60.cid)),.d (.v (.int .u8 x60.field)),.d (.v (.string x60.text)),.d (.sl (List.map DT.e x60.kills))])]⟩) (fun h=>?_) ?_
       ·refine g5 ?_;(iterate 3 refine h5 ?_);refine xQ (d:=51) h rfl (fun _ h=>?_) (fun _ h=>?_)
        ·(iterate 4 refine h5 ?_);obtain ⟨x71,hy72,h⟩:=yF h;refine qt (fun _ U W=>iX (enc:=EV.e) (L:=d1.events) (y:=x71) underlying28 sizeOf108 U U hy72 (fun _=>rfl)) ?_;(iterate 4 refine h5 ?_);obtain ⟨v73,hy74,h⟩:=zI h;refine qt (fun _ U W=>cN (YE x71.dot x60.dot v73 hy74) U call94 (vu (fun a b=>U a b) rfl rfl) rfl rfl rfl) ?_;(iterate 4 refine h5 ?_);exact ⟨(decide (0 <= v73)),(),h,sP⟩
        ·(iterate 14 refine h5 ?_);exact ⟨false,(),h,sP⟩
       ·rintro v69 _ h;refine xD h rfl (fun _ h=>?_) (fun _ h=>?_)
        ·(iterate 4 refine g5 ?_);refine wX ?_;cases h;exact xT
        ·refine g5 ?_;refine wJ (zF h) (fun (v76:Bool) (_:Unit)=>⟨84,[(1,.ref 1 0),(30,.d (.sl (List.map EV.e d1.events))),(31,.d (.v (.int .i64 (d1.events.length:Int)))),(32,.d (.v (.int .i64 v58))),(64,.d (.v (.bool v76)))],[(1,.cells 30 [.d (.sl (List.map PT.e d1.from_)),.d (.sl (List.map PT.e d1.to_)),.d (.sl (List.map EV.e d1.events))])]⟩) (fun h=>?_) ?_
         ·(iterate 5 refine g5 ?_);refine xG (d:=68) h rfl (fun _ h=>?_) (fun _ h=>?_)
          ·(iterate 4 refine g5 ?_);obtain ⟨v78,hy79,h⟩:=zI h;refine wt (cN (Qe d1.events x60.dot v78 hy79) rfl call100 rfl rfl rfl rfl) ?_;(iterate 3 refine g5 ?_);exact ⟨v78,(),h,sP⟩
          ·(iterate 8 refine g5 ?_);exact ⟨false,(),h,sP⟩
         ·rintro v76 _ h;refine xD h rfl (fun _ h=>?_) (fun _ h=>?_)
          ·(iterate 4 refine g5 ?_);refine wX ?_;cases h;exact xT
          ·(iterate 5 refine g5 ?_);exact ⟨(IntKind.i64.wrap (v58 + 1)),(),h,sP⟩
    ·refine wZ ?_;exact ⟨(),(),h,sP⟩
   ·rintro _ _ h;(iterate 2 refine g5 ?_);(iterate 2 refine h5 ?_);obtain ⟨v81,hy82,h⟩:=zI h;refine qs (fun _ U W=>cN (PRow.fun (Qh d1.events v81 hy82)) U call102 (vu (fun a b=>U a b) rfl rfl) rfl rfl rfl) ?_;(iterate 2 refine h5 ?_);obtain ⟨v83,hy84,h⟩:=zI h;refine qs (fun _ U W=>cN (PRow.fun (Qg v81 d1.to_ v83 hy84)) U call101 (vu (fun a b=>U a b) rfl rfl) rfl rfl rfl) ?_;refine qs (fun _ U W=>lM (enc:=DT.e) (L:=v83) underlying106 U) ?_;(iterate 3 refine h5 ?_);refine wX ?_;cases h;exact xT


theorem z6a (d1:DL) (r0:Bool) (h:(jq d1).wp (· = r0)):PFun prog 104 [.agg (List.map .d (DL.e d1))] (.d (.v (.bool r0))):=by
 refine fI (sl:=[(0,_)]) func104 rfl ntmps104 rfl rfl ?_;intro ctx hK;(iterate 6 refine g5 ?_);refine wJ (zF h) (fun (v2:Bool) (_:Unit)=>⟨13,[(2,.d (.v (.bool v2)))],[]⟩) (fun h=>?_) ?_
 ·(iterate 6 refine g5 ?_);refine xG (d:=7) h rfl (fun _ h=>?_) (fun _ h=>?_)
  ·(iterate 7 refine g5 ?_);exact ⟨(decide ((d1.to_.length:Int) = 0)),(),h,sP⟩
  ·(iterate 7 refine g5 ?_);exact ⟨false,(),h,sP⟩
 ·rintro v2 _ h;refine wX ?_;cases h;exact xT

theorem JE (m1:TMsg) (r0:Bool) (h:(VN m1).wp (· = r0)):PFun prog 68 [.agg (List.map .d (TMsg.e m1))] (.d (.v (.bool r0))):=by
 refine fI (sl:=[(0,_)]) func68 rfl ntmps68 rfl rfl ?_;intro ctx hK;(iterate 6 refine g5 ?_);refine wJ (zF h) (fun (v2:Bool) (_:Unit)=>⟨40,[(2,.d (.v (.bool v2)))],[]⟩) (fun h=>?_) ?_
 ·(iterate 5 refine g5 ?_);refine xG (d:=6) h rfl (fun _ h=>?_) (fun _ h=>?_)
  ·(iterate 5 refine g5 ?_);refine xG (d:=11) h rfl (fun _ h=>?_) (fun _ h=>?_)
   ·(iterate 5 refine g5 ?_);refine xG (d:=16) h rfl (fun _ h=>?_) (fun _ h=>?_)
    ·refine g5 ?_;refine wy (tl:=[(1,_),(2,_),(16,_),(17,_)]) (to:=[(1,_)]) ?_;(iterate 5 refine g5 ?_);refine xG (d:=22) h rfl (fun _ h=>?_) (fun _ h=>?_)
     ·(iterate 6 refine g5 ?_);refine xG (d:=28) h rfl (fun _ h=>?_) (fun _ h=>?_)
      ·(iterate 2 refine g5 ?_);obtain ⟨v8,hy9,h⟩:=zI h;refine wt (cN (z6a m1.delta v8 hy9) rfl call104 rfl rfl rfl rfl) ?_;refine g5 ?_;refine wy (tl:=[(1,_),(2,_),(32,_)]) (to:=[(1,_)]) ?_;refine g5 ?_;refine xG (d:=33) h rfl (fun _ h=>?_) (fun _ h=>?_)
       ·(iterate 8 refine g5 ?_);exact ⟨(decide ((m1.delta.events.length:Int) = 0)),(),h,sP⟩
       ·(iterate 8 refine g5 ?_);exact ⟨false,(),h,sP⟩
      ·(iterate 4 refine g5 ?_);refine wy (tl:=[(1,_),(2,_),(32,_)]) (to:=[(1,_)]) ?_;(iterate 9 refine g5 ?_);exact ⟨false,(),h,sP⟩
     ·(iterate 11 refine g5 ?_);refine wy (tl:=[(1,_),(2,_),(33,_)]) (to:=[(1,_)]) ?_;(iterate 8 refine g5 ?_);exact ⟨false,(),h,sP⟩
    ·refine g5 ?_;refine wy (tl:=[(1,_),(2,_),(16,_),(17,_)]) (to:=[(1,_)]) ?_;(iterate 17 refine g5 ?_);refine wy (tl:=[(2,_),(33,_),(34,_)]) (to:=[]) ?_;(iterate 7 refine g5 ?_);exact ⟨false,(),h,sP⟩
   ·(iterate 7 refine g5 ?_);refine wy (tl:=[(1,_),(2,_),(16,_),(18,_)]) (to:=[(1,_)]) ?_;(iterate 17 refine g5 ?_);refine wy (tl:=[(2,_),(33,_),(35,_)]) (to:=[]) ?_;(iterate 6 refine g5 ?_);exact ⟨false,(),h,sP⟩
  ·(iterate 13 refine g5 ?_);refine wy (tl:=[(1,_),(2,_),(16,_),(19,_)]) (to:=[(1,_)]) ?_;(iterate 17 refine g5 ?_);refine wy (tl:=[(2,_),(33,_),(36,_)]) (to:=[]) ?_;(iterate 5 refine g5 ?_);exact ⟨false,(),h,sP⟩
 ·rintro v2 _ h;refine wX ?_;cases h;exact xT

theorem z7a (m1:TMsg) (r0:Bool) (h:(jr m1).wp (· = r0)):PFun prog 62 [.agg (List.map .d (TMsg.e m1))] (.d (.v (.bool r0))):=by
 refine fI (sl:=[(0,_)]) func62 rfl ntmps62 rfl rfl ?_;intro ctx hK;(iterate 7 refine g5 ?_);refine wJ (zF h) (fun (v2:Bool) (_:Unit)=>⟨45,[(1,.ref 1 0),(11,.d (.v (.bool v2)))],[(1,.cells 32 [.d (.v (.int .u8 m1.kind)),.d (.v (.int .u8 m1.slot)),.d (.v (.int .u64 m1.try_)),.d (.v (.int .u16 m1.dev)),.d (.v (.int .u64 m1.epoch)),.d (.v (.int .u8 m1.why)),.d (.sl (List.map PT.e m1.have_)),.d (.sl (List.map PT.e m1.front)),.d (.sl (List.map PT.e m1.delta.from_)),.d (.sl (List.map PT.e m1.delta.to_)),.d (.sl (List.map EV.e m1.delta.events))])]⟩) (fun h=>?_) ?_
 ·(iterate 5 refine g5 ?_);refine xG (d:=6) h rfl (fun _ h=>?_) (fun _ h=>?_)
  ·(iterate 6 refine g5 ?_);exact ⟨true,(),h,sP⟩
  ·(iterate 2 refine g5 ?_);obtain ⟨v4,hy5,h⟩:=zI h;refine wt (cN (Vj m1.try_ v4 hy5) rfl call61 rfl rfl rfl rfl) ?_;(iterate 3 refine g5 ?_);exact ⟨(!v4),(),h,sP⟩
 ·rintro v2 _ h;refine xD h rfl (fun _ h=>?_) (fun _ h=>?_)
  ·(iterate 4 refine g5 ?_);refine wX ?_;cases h;exact xT
  ·(iterate 3 refine g5 ?_);refine wJ (zF h) (fun (v7:Bool) (_:Unit)=>⟨45,[(1,.ref 1 0),(24,.d (.v (.bool v7)))],[(1,.cells 32 [.d (.v (.int .u8 m1.kind)),.d (.v (.int .u8 m1.slot)),.d (.v (.int .u64 m1.try_)),.d (.v (.int .u16 m1.dev)),.d (.v (.int .u64 m1.epoch)),.d (.v (.int .u8 m1.why)),.d (.sl (List.map PT.e m1.have_)),.d (.sl (List.map PT.e m1.front)),.d (.sl (List.map PT.e m1.delta.from_)),.d (.sl (List.map PT.e m1.delta.to_)),.d (.sl (List.map EV.e m1.delta.events))])]⟩) (fun h=>?_) ?_
   ·(iterate 5 refine g5 ?_);refine xG (d:=15) h rfl (fun _ h=>?_) (fun _ h=>?_)
    ·(iterate 4 refine g5 ?_);refine xG (d:=19) h rfl (fun _ h=>?_) (fun _ h=>?_)
     ·(iterate 6 refine g5 ?_);exact ⟨true,(),h,sP⟩
     ·(iterate 6 refine g5 ?_);exact ⟨(!decide (m1.epoch = 0)),(),h,sP⟩
    ·(iterate 10 refine g5 ?_);exact ⟨false,(),h,sP⟩
   ·rintro v7 _ h;refine xD h rfl (fun _ h=>?_) (fun _ h=>?_)
    ·(iterate 4 refine g5 ?_);refine wX ?_;cases h;exact xT
    ·(iterate 8 refine g5 ?_);refine PWc.jnX (zF h) (fun (⟨m11,m12,m13⟩:List PT × List PT × List EV) (_:Unit)=>⟨45,[(1,.ref 1 0)],[(1,.cells 32 [.d (.v (.int .u8 m1.kind)),.d (.v (.int .u8 m1.slot)),.d (.v (.int .u64 m1.try_)),.d (.v (.int .u16 m1.dev)),.d (.v (.int .u64 m1.epoch)),.d (.v (.int .u8 m1.why)),.d (.sl (List.map PT.e m1.have_)),.d (.sl (List.map PT.e m1.front)),.d (.sl (List.map PT.e m11)),.d (.sl (List.map PT.e m12)),.d (.sl (List.map EV.e m13))])]⟩) (fun h=>?_) ?_
     ·refine xD h rfl (fun _ h=>?_) (fun _ h=>?_)
      ·(iterate 2 refine g5 ?_);refine wJ (zF h) (fun (v15:Bool) (_:Unit)=>⟨45,[(1,.ref 1 0),(38,.d (.v (.bool v15)))],[(1,.cells 32 [.d (.v (.int .u8 m1.kind)),.d (.v (.int .u8 m1.slot)),.d (.v (.int .u64 m1.try_)),.d (.v (.int .u16 m1.dev)),.d (.v (.int .u64 m1.epoch)),.d (.v (.int .u8 m1.why)),.d (.sl (List.map PT.e m1.have_)),.d (.sl (List.map PT.e m1.front)),.d (.sl (List.map PT.e m1.delta.from_)),.d (.sl (List.map PT.e m1.delta.to_)),.d (.sl (List.map EV.e m1.delta.events))])]⟩) (fun h=>?_) ?_
       ·(iterate 3 refine g5 ?_);obtain ⟨v16,hy17,h⟩:=zI h;refine xN (Yt m1.delta v16 hy17) call65 ?_;(iterate 2 refine g5 ?_);refine xG (d:=32) h rfl (fun _ h=>?_) (fun _ h=>?_)
        ·(iterate 7 refine g5 ?_);exact ⟨true,(),h,sP⟩
        ·(iterate 7 refine g5 ?_);exact ⟨(decide (0 < (m1.delta.from_.length:Int))),(),h,sP⟩
       ·rintro v15 _ h;refine xD h rfl (fun _ h=>?_) (fun _ h=>?_)
        ·(iterate 4 refine g5 ?_);refine wX ?_;cases h;exact xT
        ·(iterate 2 refine g5 ?_);refine ws (LR.build (ns:=[_,_,_]) UM rfl rfl rfl) ?_;(iterate 3 refine g5 ?_);exact ⟨(([]:List PT),([]:List PT),([]:List EV)),(),h,sP⟩
      ·refine g5 ?_;exact ⟨(m1.delta.from_,m1.delta.to_,m1.delta.events),(),h,sP⟩
     ·rintro ⟨m11,m12,m13⟩ _ h;(iterate 10 refine g5 ?_);obtain ⟨v20,hy21,h⟩:=zI h;refine xN (JE (⟨m1.kind,0,0,m1.dev,m1.epoch,m1.why,m1.have_,m1.front,(⟨m11,m12,m13⟩:DL)⟩:TMsg) v20 hy21) call68 ?_;(iterate 2 refine g5 ?_);refine wX ?_;cases h;exact xT

theorem xEa (c1:List PT) (dev2:Int) (r0:List PT) (h:(jB c1 dev2).wp (· = r0)):PRow prog 96 [.d (.sl (List.map PT.e c1)),.d (.v (.int .u16 dev2))] 101 2 (List.map PT.e r0):=by
 refine PRow.intro (sl:=[(0,_),(1,_)]) func96 rfl ntmps96 rfl rfl ?_;intro ctx hK;(iterate 2 refine g5 ?_);refine ws (aR 101 2 rfl) ?_;(iterate 6 refine g5 ?_);obtain ⟨v3,hy4,h⟩:=zI h;refine ws (LR.rowN (JD c1 dev2 v3 hy4) rfl call133 rfl rfl rfl rfl)<|PWl.frz [8] hK (.cons rfl<|.nil) rfl (by simp) ?_;refine ws (LR.build (ns:=[_,_]) Xo rfl rfl rfl)<|ws (LR.buildSliceD [.tmp 9] Wc rfl rfl (.cons rfl rfl rfl<|.nil) (by decide) (by decide)) ?_;obtain ⟨v5,hy6,h⟩:=zI h;refine ws (LR.rowN (Wu ([(⟨dev2,v3⟩:PT)]) v5 hy6) rfl call87 rfl rfl rfl rfl)<|wy (tl:=[(0,_),(1,_),(5,_),(6,_),(7,_),(8,_),(9,_),(10,_),(11,_)]) (to:=[(11,_)]) ?_;(iterate 2 refine g5 ?_);refine wX ?_;cases h;exact ⟨.inr rfl,4,rfl,.inr ⟨11,_,rfl,(by simp),rfl⟩⟩

theorem qb (c1:List PT) (dev2:Int) (r0:Bool) (h:(jt c1 dev2).wp (· = r0)):PFun prog 63 [.d (.sl (List.map PT.e c1)),.d (.v (.int .u16 dev2))] (.d (.v (.bool r0))):=by
 refine fI (sl:=[(0,_),(1,_)]) func63 rfl ntmps63 rfl rfl ?_;intro ctx hK;(iterate 5 refine g5 ?_);refine wJ (zF h) (fun (v3:Bool) (_:Unit)=>⟨14,[(4,.d (.v (.bool v3)))],[]⟩) (fun h=>?_) ?_
 ·(iterate 2 refine g5 ?_);obtain ⟨v4,hy5,h⟩:=zI h;refine xN (vX c1 v4 hy5) call64 ?_;refine g5 ?_;refine xG (d:=7) h rfl (fun _ h=>?_) (fun _ h=>?_)
  ·(iterate 3 refine g5 ?_);obtain ⟨v7,hy8,h⟩:=zI h;refine wt (LR.rowN (xEa c1 dev2 v7 hy8) rfl call96 rfl rfl rfl rfl) ?_;obtain ⟨v9,hy10,h⟩:=zI h;refine PWl.frz [11] hK (.cons rfl<|.nil) rfl (by simp) ?_;refine wt (cN (Yr c1 v7 v9 hy10) rfl call66 rfl rfl rfl rfl) ?_;(iterate 3 refine g5 ?_);exact ⟨v9,(),h,sP⟩
  ·(iterate 8 refine g5 ?_);exact ⟨false,(),h,sP⟩
 ·rintro v3 _ h;refine wX ?_;cases h;exact xT
end Go.Proofs

