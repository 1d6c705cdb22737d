/- Side texts. -/
import Derived.Test.YtnejkopjonigeaaGreatAHg2
import Derived.Test.YtnejkopjonigeaaGreatAHg3
import Derived.Test.YtnejkopjonigeaaGreatAHg4
import Derived.Test.YtnejkopjonigeaaGreatAHg5
import Derived.Test.YtnejkopjonigeaaGreatAHg6
import Derived.Test.YtnejkopjonigeaaGreatAHg7
set_option linter.unusedVariables false
set_option linter.unusedSimpArgs false
namespace Go.Ep
open Go Go.RowKit
section
variable{P:Program}{ctx:Ctx}{Q:PQ}{s:PState}
variable{dst:Option Tmp}{ty:TypeId}{pos:String}{after:Array Edge}{gd:Option (Nat×Bool)}
theorem LR.pieceRow{x lo:Operand}{id n k:Nat}{t e:TypeId}{kx:IntKind}{i:Int}{l:List (List DV)}(hu:P.underlying t=some (.slice e))(hs:∀ w,(sizeOf e).run P w=.ok k w)
  (hx:s.ev x=some (.row id n)) (hl:look s.objs id=some (.row e k l)) (hn:n<=l.length) (hlo:s.ev lo=some (.d (.v (.int kx i)))) (hi:(0:Int)<=i/\i<=(n:Int)) :
  Local P ctx ⟨dst,.slice t x (some lo) none none,ty,pos,after,gd⟩ s (s.putD dst (.pc id i.toNat (n - i.toNat) k)):=
 zN (o:=⟨dst,.slice t x (some lo) none none,ty,pos,after,gd⟩) fun a w g hg=>by
  have h:=hg.ev hx;have hob:=hg.objs id _ hl;have hit:i=(i.toNat:Int):=by omega
  have hle:i.toNat<=n:=by omega
  generalize hv:a.eval x=v at h
  cases h with
  | row _ _ blk cap hgi=>
   cases hob with
   | rowNil _ _ hgn=>rw[hgn] at hgi;cases hgi
   | row _ _ _ blk' cap' cur h' hh hlc hcap hcs hkk hr=>
    rw[hgi] at h'
    cases h'
    refine⟨.slice (if cap=i.toNat then some ⟨blk,0,none⟩ else some ⟨blk,0+i.toNat*k,none⟩) (n - i.toNat) (cap - i.toNat),?_,?_⟩
    ·by_cases hc:cap=i.toNat <;>
     simp[execOp,hv,wP hg hlo,Instr.sliceAt,Instr.slice,Instr.sliceBounds,run_underlying hu,hs,yq (P:=P) hit hle,Addr.add_lit,Result.andThen,hc]
    ·by_cases h0:n - i.toNat=0
     ·rw[h0];exact .pc0 _ _ _ _ _
     ·rw[if_neg (by omega),Nat.zero_add];exact .pc id _ _ k blk cap hgi (by omega)
  | rowNil _ hgn=>
   have h0:i.toNat=0:=by omega
   refine⟨.slice none 0 0,?_,?_⟩
   ·rw[h0] at hit;simp[execOp,hv,wP hg hlo,Instr.sliceAt,Instr.slice,Instr.sliceBounds,run_underlying hu,hs,yq (P:=P) hit (show 0<=0 from Nat.le_refl _),Result.andThen]
   ·rw[Nat.zero_sub];exact .pc0 _ _ _ _ _
theorem LR.lenPc{x:Operand}{id i n k:Nat}{t e:TypeId}(hu:P.underlying t=some (.slice e))(hx:s.ev x=some (.pc id i n k)) :
  Local P ctx ⟨dst,.call ⟨.builtin .len,#[x],#[t]⟩,ty,pos,after,gd⟩ s (s.putD dst (.d (.v (.int .i64 n)))):=
 zN (o:=⟨dst,.call ⟨.builtin .len,#[x],#[t]⟩,ty,pos,after,gd⟩) fun a w g hg=>by
  have h:=hg.ev hx;have hE:P.underlying t=some (.slice (P.elem t)):=by simp[Program.elem,hu]
  refine⟨.int .i64 n,?_,.d (.v _ rfl)⟩
  generalize hv:a.eval x=v at h
  cases h <;> simp[execOp,resolve,invoke,builtin,hv,run_len_slice,hE,Result.andThen,goInt]
theorem LR.idxPc{x ix:Operand}{id i m:Nat}{ki:IntKind}{j:Int}{k:Nat}{t e:TypeId}(hu:P.underlying t=some (.slice e))(hs:∀ w,(sizeOf e).run P w=.ok k w)
  (hx:s.ev x=some (.pc id i m k)) (hix:s.ev ix=some (.d (.v (.int ki j)))) (hj:(0:Int)<=j/\j < (m:Int)) :
  Local P ctx ⟨dst,.indexAddr t x ix,ty,pos,after,gd⟩ s (s.putD dst (.rp id (i+j.toNat) 0 k)):=
 zN (o:=⟨dst,.indexAddr t x ix,ty,pos,after,gd⟩) fun a w g hg=>by
  have h:=hg.ev hx
  generalize hv:a.eval x=v at h
  cases h with
  | pc _ _ _ _ blk cap hgi hi=>
   refine⟨.pointer (some ⟨blk,(i+j.toNat)*k+0,none⟩),?_,.rp id _ 0 k blk cap hgi⟩;have:=XY (P:=P) hu hs blk (i*k) m (cap - i) ki j j.toNat (by omega) (by omega) w;rw[show i*k+j.toNat*k=(i+j.toNat)*k+0 by rw[Nat.add_mul,Nat.add_zero]] at this;simp[execOp,hv,wP hg hix,this,Result.andThen]
  | pc0=>omega
theorem LR.clearPc{x:Operand}{id i n k:Nat}{t e:TypeId}{l:List (List DV)}{z:Value}{zs:List Value}(hu:P.underlying t=some (.slice e))(hx:s.ev x=some (.pc id i n k))(hl:look s.objs id=some (.row e k l))
  (hz:∀ w,(zeroValue e).run P w=.ok z w) (hzs:z.cells=zs.toArray) (h1:(zs.all Value.oneCell')=true) (hk:zs.length=k) (hin:i+n<=l.length) (hd:dst=none) :
  Local P ctx ⟨dst,.call ⟨.builtin .clear,#[x],#[t]⟩,ty,pos,after,gd⟩ s (s.setO id (.row e k (l.take i++List.replicate n (zs.map zdv)++l.drop (i+n)))):=by
 subst hd;refine yT (o:=⟨none,.call ⟨.builtin .clear,#[x],#[t]⟩,ty,pos,after,gd⟩) fun a w g hg=>?_
 have h:=hg.ev hx;have hob:=hg.objs id _ hl;have hE:P.underlying t=some (.slice e):=hu
 generalize hv:a.eval x=v at h
 have hnil:n=0->∀ g',Rel ctx (s.setO id (.row e k (l.take i++List.replicate n (zs.map zdv)++l.drop (i+n)))) a w\/g'=g:=by
  intro h0;subst h0;intro g'
  left
  simp only[List.replicate_zero,List.append_nil,Nat.add_zero,List.take_append_drop];refine⟨g,?_⟩;have hlk:∀ j o,look (s.setO id (.row e k l)).objs j=some o↔look s.objs j=some o:=by
   intro j o;simp only[PState.setO];rw[zF]
   by_cases hj:j=id
   ·subst hj;rw[if_pos rfl,hl]
   ·rw[if_neg hj]
  have hF:∀ b,yE ctx g s.objs b->yE ctx g (s.setO id (.row e k l)).objs b:=fun b ⟨h1,h2⟩=>⟨h1,fun j o m hj=>h2 j o m ((hlk j o).1 hj)⟩
  have hst:xC w w (yE ctx g s.objs):=⟨Nat.le_refl _,fun _ _ _=>rfl⟩
  exact⟨hg.defers,hg.size,fun q p hp=>(hg.slots q p hp).keep hst (fun b hb _=>hF b hb) (fun _ _=>rfl),fun j o hj=>(hg.objs j o ((hlk j o).1 hj)).keep hst (fun b hb _=>hF b hb) (fun _ _ _=>rfl) rfl (fun _ _=>rfl),
   fun p q op oq b n m hp hq=>hg.inj p q op oq b n m ((hlk p op).1 hp) ((hlk q oq).1 hq),fun j o b n hj=>hg.own j o b n ((hlk j o).1 hj),hg.os,hg.tape,hg.output,hg.grows,hg.keep⟩
 cases h with
 | pc0 _ _ _ ao c=>
  rcases hnil rfl (fun _=>none) with hr | hr
  ·refine⟨.tuple #[],w,?_,hr⟩
   cases ao <;> simp[execOp,resolve,invoke,builtin,hv,Builtin.clear_,run_underlying hE,Result.andThen]
  ·rcases hnil rfl (fun _=>some (0,0)) with hr2 | hr2
   ·refine⟨.tuple #[],w,?_,hr2⟩
    cases ao <;> simp[execOp,resolve,invoke,builtin,hv,Builtin.clear_,run_underlying hE,Result.andThen]
   ·have:=congrFun (hr.trans hr2.symm) 0;cases this
 | pc _ _ _ _ blk cap hgi hi=>
  by_cases hn0:n=0
  ·have hr:Rel ctx (s.setO id (.row e k (l.take i++List.replicate n (zs.map zdv)++l.drop (i+n)))) a w:=by
    rcases hnil hn0 (fun _=>none) with hr | hr
    ·exact hr
    ·have:=congrFun hr id;rw[hgi] at this;cases this
   subst hn0;refine⟨.tuple #[],w,?_,hr⟩;simp[execOp,resolve,invoke,builtin,hv,Builtin.clear_,run_underlying hE,Result.andThen]
  cases hob with
  | rowNil _ _ hgn=>rw[hgn] at hgi;cases hgi
  | row _ _ _ blk' cap' cur h' hh hlc hcap hcs hkk hr=>
   rw[hgi] at h'
   cases h'
   have hlen:((Builtin.zeroCells z.cells n).toList).length=n*k:=by rw[zUa,hzs];simp[hk]
   have hroom:i*k+n*k<=cur.length:=by
    rw[hcs,<- Nat.add_mul];exact Nat.mul_le_mul_right k hi
   have hz1:∀ u∈(Builtin.zeroCells z.cells n).toList,u.oneCell'=true:=by
    intro u hu;obtain⟨j,hj⟩:=List.getElem?_of_mem hu;have hjl:=(List.getElem?_eq_some_iff.1 hj).1;rw[hlen] at hjl;have hk0:0 < k:=by
     rcases Nat.eq_zero_or_pos k with h | h
     ·subst h;omega
     ·exact h
    rw[hzs] at hj;simp[Builtin.zeroCells,hk,hjl] at hj;have ht:j % k < zs.length:=by rw[hk];exact Nat.mod_lt _ hk0
    rw[List.getElem?_eq_getElem ht] at hj;simp at hj;subst hj;simp at h1;exact h1 _ (List.getElem_mem ht)
   have hrun:=run_storeCells_at P blk (i*k) e (Builtin.zeroCells z.cells n).toList 0 cur.toArray w hh (by simpa[hlen] using hroom) hz1
   let new:List Value:=cur.take (i*k)++(Builtin.zeroCells z.cells n).toList++cur.drop (i*k+n*k)
   have hrun':(storeCells ⟨blk,i*k,none⟩ (Builtin.zeroCells z.cells n).toList).run P w=.ok () (w.setRow blk new.toArray):=by
    simpa[hlen,new] using hrun
   refine⟨.tuple #[],w.setRow blk new.toArray,?_,g,?_⟩
   ·have hn':∃ n',n=n'+1:=⟨n - 1,by omega⟩
    obtain⟨n',rfl⟩:=hn';simp[execOp,resolve,invoke,builtin,hv,Builtin.clear_,run_underlying hE,hz,hrun',Result.andThen]
   ·have hown:=hg.own id _ blk cap hl hgi;have hother:∀ k,k < w.heap.size->k≠blk->(w.setRow blk new.toArray).heap[k]?=w.heap[k]?:=fun k _ hne=>setRow_other w blk k _ hne
    have hst:xC w (w.setRow blk new.toArray) (yE ctx g s.objs):=⟨by simp,fun b ⟨_,h2⟩ hlt=>hother b hlt fun e=>by subst e;exact h2 id _ cap hl hgi⟩
    refine hg.wrote hl hgi rfl rfl rfl (by simp) hother hown.2 ?_;have hll:(l.take i++List.replicate n (zs.map zdv)++l.drop (i+n)).length=l.length:=by simp;omega
    have hget:∀ t,new[t]?=if t < i*k then cur[t]? else if t < i*k+n*k then (Builtin.zeroCells z.cells n).toList[t - i*k]? else cur[t]?:=by
     intro t;show(cur.take (i*k)++(Builtin.zeroCells z.cells n).toList++cur.drop (i*k+n*k))[t]?=_;rw[List.append_assoc,List.getElem?_append];have l1:(cur.take (i*k)).length=i*k:=by simp;omega
     rw[l1]
     by_cases h3:t < i*k
     ·rw[if_pos h3,if_pos h3];simp[h3]
     ·rw[if_neg h3,if_neg h3,List.getElem?_append,hlen]
      by_cases h4:t - i*k < n*k
      ·rw[if_pos h4,if_pos (by omega)]
      ·rw[if_neg h4,if_neg (by omega),List.getElem?_drop]
       congr 1;omega
    have hlget:∀ q,(l.take i++List.replicate n (zs.map zdv)++l.drop (i+n))[q]?=if q < i then l[q]? else if q < i+n then some (zs.map zdv) else l[q]?:=by
     intro q;rw[List.append_assoc,List.getElem?_append];have l1:(l.take i).length=i:=by simp;omega
     rw[l1]
     by_cases h3:q < i
     ·rw[if_pos h3,if_pos h3];simp[h3]
     ·rw[if_neg h3,if_neg h3,List.getElem?_append];simp only[List.length_replicate]
      by_cases h4:q - i < n
      ·rw[if_pos h4,if_pos (by omega),List.getElem?_replicate,if_pos h4]
      ·rw[if_neg h4,if_neg (by omega),List.getElem?_drop]
       congr 1;omega
    refine .row e k _ blk cap new hgi (uA hh) (by rw[hll];exact hlc) hcap (by show(cur.take (i*k)++(Builtin.zeroCells z.cells n).toList++cur.drop (i*k+n*k)).length=_;rw[List.length_append,List.length_append,hlen,List.length_take,List.length_drop,Nat.min_eq_left (by omega),<- hcs];omega) (fun q cs hq=>?_) (fun q cs t x hq hx=>?_)
    ·rw[hlget] at hq
     split at hq
     ·exact hkk q cs hq
     ·split at hq
      ·simp only[Option.some.injEq] at hq;subst hq;simpa using hk
      ·exact hkk q cs hq
    ·have hcsk:cs.length=k:=by
      rw[hlget] at hq
      split at hq
      ·exact hkk q cs hq
      ·split at hq
       ·simp only[Option.some.injEq] at hq;subst hq;simpa using hk
       ·exact hkk q cs hq
     have htk:t < k:=by rw[<- hcsk];exact(List.getElem?_eq_some_iff.1 hx).1
     rw[hlget] at hq;rw[hget]
     by_cases h3:q < i
     ·rw[if_pos h3] at hq;have:q*k+t < i*k:=by
       have:=Nat.mul_le_mul_right k (show q+1<=i by omega);rw[Nat.add_mul,Nat.one_mul] at this;omega
      rw[if_pos this];obtain⟨u,h5,h6⟩:=hr q cs t x hq hx;exact⟨u,h5,h6.keep hst (fun b hb _=>vb hl b hb)⟩
     ·rw[if_neg h3] at hq;have h3':¬ q*k+t < i*k:=by
       have:=Nat.mul_le_mul_right k (show i<=q by omega);omega
      rw[if_neg h3']
      by_cases h4:q < i+n
      ·rw[if_pos h4] at hq;have:q*k+t < i*k+n*k:=by
        have:=Nat.mul_le_mul_right k (show q+1<=i+n by omega);rw[Nat.add_mul,Nat.one_mul,Nat.add_mul] at this;omega
       rw[if_pos this];simp only[Option.some.injEq] at hq;subst hq;have htz:t < zs.length:=by rw[hk];exact htk
       rw[List.getElem?_map,List.getElem?_eq_getElem htz] at hx;simp only[Option.map_some,Option.some.injEq] at hx;subst hx;refine⟨zs[t],?_,vra _ _ _ (by simp at h1;exact h1 _ (List.getElem_mem htz))⟩;have e1:q*k+t - i*k=(q - i)*k+t:=by rw[Nat.sub_mul];have:=Nat.mul_le_mul_right k (show i<=q by omega);omega
       have hlt:(q - i)*k+t < n*k:=by rw[<- e1];omega
       have e2:((q - i)*k+t) % k=t:=by rw[Nat.mul_comm,Nat.mul_add_mod,Nat.mod_eq_of_lt htk]
       rw[e1,hzs];simp[Builtin.zeroCells,hlt,hk,e2];rw[List.getElem?_eq_getElem htz];rfl
      ·rw[if_neg h4] at hq;have:¬ q*k+t < i*k+n*k:=by
        have:=Nat.mul_le_mul_right k (show i+n<=q by omega);rw[Nat.add_mul] at this;omega
       rw[if_neg this];obtain⟨u,h5,h6⟩:=hr q cs t x hq hx;exact⟨u,h5,h6.keep hst (fun b hb _=>vb hl b hb)⟩
variable{α:Type}{enc:α->List DV}{L:List α}
theorem LR.pieceRowT{x lo:Operand}{id n k:Nat}{t e:TypeId}{kx:IntKind}{i:Int}(hu:P.underlying t=some (.slice e))(hs:∀ w,(sizeOf e).run P w=.ok k w)
  (hx:s.ev x=some (.row id n)) (hm:n=L.length) (hl:look s.objs id=some (.row e k (L.map enc))) (hlo:s.ev lo=some (.d (.v (.int kx i)))) (hi:(0:Int)<=i/\i<=(L.length:Int)) :
  Local P ctx ⟨dst,.slice t x (some lo) none none,ty,pos,after,gd⟩ s (s.putD dst (.pc id i.toNat (L.length - i.toNat) k)):=by
 subst hm;exact LR.pieceRow hu hs hx hl (by simp) hlo hi
theorem LR.clearPcT{x:Operand}{id i n k:Nat}{t e:TypeId}{z:α}{zv:Value}{zs:List Value}(hu:P.underlying t=some (.slice e))(hx:s.ev x=some (.pc id i n k))(hl:look s.objs id=some (.row e k (L.map enc)))
  (hz:∀ w,(zeroValue e).run P w=.ok zv w) (hzs:zv.cells=zs.toArray) (h1:(zs.all Value.oneCell')=true) (hk:zs.length=k) (he:zs.map zdv=enc z) (hin:i+n<=L.length) (hd:dst=none) :
  Local P ctx ⟨dst,.call ⟨.builtin .clear,#[x],#[t]⟩,ty,pos,after,gd⟩ s (s.setO id (.row e k ((L.take i++List.replicate n z++L.drop (i+n)).map enc))):=by
 have:=LR.clearPc (P:=P) (ctx:=ctx) (dst:=dst) (ty:=ty) (pos:=pos) (after:=after) (gd:=gd) hu hx hl hz hzs h1 hk (by simpa using hin) hd;rw[he,<- List.map_take,<- List.map_drop,<- List.map_replicate,<- List.map_append,<- List.map_append] at this;exact this
end
end Go.Ep
namespace Go.Proofs
open Go.Ep Tryz
set_option maxHeartbeats 1000000
set_option maxRecDepth 100000
set_option linter.unusedVariables false
set_option linter.unusedSimpArgs false
theorem YI{x1 r0}(h:(uB x1).wp (·=r0)):PFun prog 159 [zC .u64 x1] (.d (.v (.bool r0))):=by
 refine ya [0] func159 ntmps159 ?_;intro ctx hK;refine vi ?_;refine wX ?_;cases h;exact xT
theorem ZC{x1 y2 r0}(h:(xp x1 y2).wp (·=r0)):PFun prog 114 [zC .u64 x1,zC .u64 y2] (zC .i64 r0):=by
 refine ya [0,1] func114 ntmps114 ?_;intro ctx hK;refine ze ?_;obtain⟨v3,hy4,h⟩:=zV h;refine xN (YI hy4) call159 ?_;refine zK ?_;obtain⟨v5,hy6,h⟩:=zV h;refine xN (YI hy6) call159 ?_;refine ze ?_;refine zD h (fun h=>?_) fun h=>?_
 ·refine zK ?_;refine zD h (fun h=>?_) fun h=>?_
  ·refine zG ?_;refine wX ?_;cases h;exact xT
  ·refine zK ?_;refine wX ?_;cases h;exact xT
 ·refine zY ?_;refine zD h (fun h=>?_) fun h=>?_
  ·refine zG ?_;refine wX ?_;cases h;exact xT
  ·refine zl ?_;refine zD h (fun h=>?_) fun h=>?_
   ·refine zG ?_;refine wX ?_;cases h;exact xT
   ·refine zl ?_;refine zD h (fun h=>?_) fun h=>?_
    ·refine zG ?_;refine wX ?_;cases h;exact xT
    ·refine zK ?_;refine wX ?_;cases h;exact xT
theorem Wh{l1 r0}(h:(ux l1).wp (·=r0)):PRow prog 134 [zW RN.e l1] 124 2 (List.map RN.e r0):=by
 refine PRow.intro (sl:=[(0,_)]) func134 rfl ntmps134 rfl rfl ?_;intro ctx hK;refine zE ?_;refine ws (aR 124 2 rfl) ?_;refine zQ ?_;refine ws (aR 124 2 rfl) ?_;refine zl ?_;refine yF (zO h) 78 [] [] (fun some2=>([(3,.row 3 (some2.length))],[(3,.row 124 2 (List.map RN.e some2))])) (fun h=>?_) ?_
 ·refine g5 ?_;refine zf h 78 [10,11] [] (fun⟨v23,some24⟩=>([(3,.row 3 (some24.length)),(12,zC .i64 v23)],[(3,.row 124 2 (List.map RN.e some24))])) ?_;rintro N ⟨v23,some24⟩ _ h;refine zK ?_;refine zD h (fun h=>?_) fun h=>?_
  ·refine zE ?_;refine yF (zO h) 78 [10,11,12] [] (fun some26=>([(3,.row 3 (some26.length))],[(3,.row 124 2 (List.map RN.e some26))])) (fun h=>?_) ?_
   ·refine zQ ?_;obtain⟨x27,hy28,h⟩:=yO h;refine xK hy28 ?_;refine zK ?_;refine yF (zO h) 78 [3,5,10,11,12] [3,5] (fun v29=>([(30,.d (.v (.bool v29)))],[])) (fun h=>?_) ?_
    ·refine zK ?_;refine yK 19 h (fun h=>?_) fun h=>?_
     ·refine ze ?_;refine yK 26 h (fun h=>?_) fun h=>?_
      ·refine xd [3,5,10,11,12,20,21,22,23,24,26] [3,5] ?_;refine zK ?_;exact⟨(decide (x27.hi<=281474976710655)),(),h,sP⟩
      ·refine xd [3,5,10,11,12,20,21,22,23,24,26] [3,5] ?_;refine zK ?_;exact⟨false,(),h,sP⟩
     ·refine zl ?_;refine xd [3,5,10,11,12,20,21,22,23,24,26,27] [3,5] ?_;refine zG ?_;exact⟨false,(),h,sP⟩
    ·rintro v29 _ h;refine zD h (fun h=>?_) fun h=>?_
     ·refine zQ ?_;refine ws (LR.buildSliceD [.tmp 32] ZS rfl rfl (.cons rfl rfl rfl<|.nil) (by decide) (by decide)) ?_;obtain⟨hy33,h⟩:=zy h;refine ws (LR.appT (enc:=RN.e) (L:=some24) (R:=[x27]) [3,31] ZS underlying97 rfl rfl rfl (Src.slT (enc:=RN.e) (R:=[x27]) rfl (fun _=>rfl)) (fun _=>rfl) hy33 rfl rfl) ?_;refine zE ?_;exact⟨(some24++[x27]),(),h,sP⟩
     ·refine g5 ?_;exact⟨some24,(),h,sP⟩
   ·rintro some26 _ h;refine zG ?_;exact⟨((IntKind.i64.wrap (v23+1)),some26),(),h,sP⟩
  ·refine wZ ?_;exact⟨some24,(),h,sP⟩
 ·rintro some2 _ h;refine zQ ?_;obtain⟨hy35,h⟩:=zy h;refine PWl.sortFn (encD:=RN.e) (enc:=RN.v) (l:=some2) ZLa (fun _=>rfl) RN.v1 (fun _=>rfl) rfl call175 rfl rfl rfl (by simp) hy35 rfl (fun s34 hy36 hy37=>?_);replace h:=iSrt h s34 hy36 hy37;have hy36l:=hy36.length_eq;refine zQ ?_;refine ws (aR 124 2 rfl) ?_;refine zl ?_;refine yF (zO h) 78 [] [] (fun out38=>([(6,.row 6 (out38.length))],[(6,.row 124 2 (List.map RN.e out38))])) (fun h=>?_) ?_
  ·refine g5 ?_;refine zf h 78 [38,39] [3] (fun⟨v69,out70⟩=>([(6,.row 6 (out70.length)),(40,zC .i64 v69)],[(6,.row 124 2 (List.map RN.e out70))])) ?_ (hs:=zca);rintro N ⟨v69,out70⟩ _ h;refine zK ?_;refine zD h (fun h=>?_) fun h=>?_
   ·refine zE ?_;refine yF (zO h) 78 [38,39,40] [3] (fun out72=>([(6,.row 6 (out72.length))],[(6,.row 124 2 (List.map RN.e out72))])) (fun h=>?_) ?_
    ·refine zQ ?_;obtain⟨x73,hy74,h⟩:=yO h;refine ws (LR.idxRowT (L:=s34) (y:=x73) underlying97 sizeOf124 rfl vD rfl hy74) ?_;refine ws (LR.loadRpT (enc:=RN.e) (L:=s34) (y:=x73) isAgg124 sizeOf124 rfl rfl hy74.2) ?_;refine qr ?_;refine yF (zO h) 78 [6,8,9,38,39,40] [3,6,8] (fun v75=>([(59,.d (.v (.bool v75)))],[])) (fun h=>?_) ?_
     ·refine g5 ?_;refine yC ?_;refine vn 49 h (fun h=>?_) fun h=>?_
      ·refine xX ?_;obtain⟨x77,hy78,h⟩:=yO h;refine qt (fun _ U W=>LR.idxRowT (L:=out70) (y:=x77) underlying97 sizeOf124 U rfl U hy78) ?_;refine h5 ?_;refine qt (fun _ U W=>LR.loadRpF (enc:=RN.e) (L:=out70) (y:=x77) isAgg22 U (W rfl) hy78.2 rfl) ?_;refine xX ?_;exact⟨(decide (x73.lo<=(IntKind.u64.wrap (x77.hi+1)))),(),h,zca⟩
      ·refine YOa ?_;exact⟨false,(),h,zca⟩
     ·rintro v75 _ h;refine zD h (fun h=>?_) fun h=>?_
      ·refine g5 ?_;refine zx [6,8,9,38,39,40] [3,6,8] ?_;refine PWc.regionE [yf [60] [6],{ws:=[61]},yf [62] [6],{ws:=[63]},yf [64] [6],yf [65] [6],⟨[66],[],[6],[],[],[],[],[]⟩,yf [67] [8],⟨[68],[],[8],[],[],[],[],[]⟩,{ws:=[69]},yf [70] [6],yf [71] [6],⟨[],[6],[6],[],[],[],[],[]⟩] (by kernel_rfl) (by kernel_rfl) rfl ?_;refine xX ?_;obtain⟨x80,hy81,h⟩:=yO h;refine kp (fun _ U W=>LR.idxRowT (L:=out70) (y:=x80) underlying97 sizeOf124 U rfl U hy81) ?_;refine h5 ?_;refine kp (fun _ U W=>LR.loadRpF (enc:=RN.e) (L:=out70) (y:=x80) isAgg22 U (W rfl rfl) hy81.2 rfl) ?_;refine yC ?_;obtain⟨x82,hy83,h⟩:=yO h;refine kp (fun _ U W=>LR.idxRowT (L:=out70) (y:=x82) underlying97 sizeOf124 U rfl U hy83) ?_;refine h5 ?_;refine ks (fun _ U W=>LR.storeRpT (enc:=RN.e) (L:=out70) (a:=x82) (b:=(⟨x82.lo,(max x80.hi x73.hi)⟩:RN)) sizeOf22 U U rfl rfl (W rfl rfl) hy83.2 rfl rfl)<|PQe.nil<|wZ ?_;exact⟨(List.set out70 ((Int.toNat ((IntKind.i64.wrap ((out70.length:Int) - 1))))) (⟨x82.lo,(max x80.hi x73.hi)⟩:RN)),(),h,zca⟩
      ·refine zG ?_;refine ws (LR.buildSliceD [.tmp 73] ZS rfl rfl (.cons rfl rfl rfl<|.nil) (by decide) (by decide)) ?_;obtain⟨hy84,h⟩:=zy h;refine ws (LR.appT (enc:=RN.e) (L:=out70) (R:=[x73]) [6,72] ZS underlying97 rfl rfl rfl (Src.slT (enc:=RN.e) (R:=[x73]) rfl (fun _=>rfl)) (fun _=>rfl) hy84 rfl rfl) ?_;refine zE ?_;exact⟨(out70++[x73]),(),h,zca⟩
    ·rintro out72 _ h;refine zG ?_;exact⟨((IntKind.i64.wrap (v69+1)),out72),(),h,zca⟩
   ·refine wZ ?_;exact⟨out70,(),h,sP⟩
  ·rintro out38 _ h;refine zK ?_;refine wX ?_;cases h;exact⟨.inr rfl,2,rfl,.inr ⟨6,_,rfl,(by simp),rfl⟩⟩
theorem YJ{x1 r0}(h:(uC x1).wp (·=r0)):PFun prog 122 [zC .u16 x1] (.d (.v (.bool r0))):=by
 refine ya [0] func122 ntmps122 ?_;intro ctx hK;refine vi ?_;refine wX ?_;cases h;exact xT
theorem Wi{x1 y2 r0}(h:(vM x1 y2).wp (·=r0)):PFun prog 87 [zC .u16 x1,zC .u16 y2] (zC .i64 r0):=by
 refine ya [0,1] func87 ntmps87 ?_;intro ctx hK;refine ze ?_;obtain⟨v3,hy4,h⟩:=zV h;refine xN (YJ hy4) call122 ?_;refine zK ?_;obtain⟨v5,hy6,h⟩:=zV h;refine xN (YJ hy6) call122 ?_;refine ze ?_;refine zD h (fun h=>?_) fun h=>?_
 ·refine zK ?_;refine zD h (fun h=>?_) fun h=>?_
  ·refine zG ?_;refine wX ?_;cases h;exact xT
  ·refine zK ?_;refine wX ?_;cases h;exact xT
 ·refine zY ?_;refine zD h (fun h=>?_) fun h=>?_
  ·refine zG ?_;refine wX ?_;cases h;exact xT
  ·refine zl ?_;refine zD h (fun h=>?_) fun h=>?_
   ·refine zG ?_;refine wX ?_;cases h;exact xT
   ·refine zl ?_;refine zD h (fun h=>?_) fun h=>?_
    ·refine zG ?_;refine wX ?_;cases h;exact xT
    ·refine zK ?_;refine wX ?_;cases h;exact xT
theorem xYa{m1 r0}(h:(WS m1).wp (·=r0)):PRow prog 96 [.md [.u16] false (yI kI (eL RN.e) m1)] 99 2 (List.map PT.e r0):=by
 refine PRow.intro (sl:=[(0,_)]) func96 rfl ntmps96 rfl rfl ?_;intro ctx hK;refine zE ?_;refine ws (aR 99 2 rfl) ?_;refine zQ ?_;refine ws (aR 99 2 rfl) ?_;refine zK ?_;refine PWl.rangeD underlying170 rfl rfl rfl (fun bs2 ck2 hbl2 hbn2=>?_);refine g5 ?_;refine yF (zO h) 27 [] [] (fun c3=>([(3,.row 3 (c3.length))],[(3,.row 99 2 (List.map PT.e c3))])) (fun h=>?_) ?_
 ·refine g5 ?_;refine zf h 27 [7] [] (fun⟨seen28,c29⟩=>([(3,.row 3 (c29.length))],[(3,.row 99 2 (List.map PT.e c29)),(7,.iterD [.u16] false (yI kI (eL RN.e) m1) bs2 ck2 seen28)])) ?_;rintro N ⟨seen28,c29⟩ _ h;refine zE ?_;obtain⟨hy40,h⟩:=zy h;replace h:=iNxt h;refine PWl.nextD rfl rfl (nxtD hy40) rfl (fun hy31=>?_) (fun j30 hy32 hy33=>?_)
  ·replace h:=h.1 (nxtA hy31);refine zQ ?_;refine PWc.condF rfl<|wZ ?_;exact⟨c29,(),h,sP⟩
  ·replace h:=h.2 j30 (nxtB hy32) hy33;refine zQ ?_;refine PWc.condT rfl ?_;refine zG ?_;obtain⟨kv34,hy35,h⟩:=yO h;refine ws (LR.entryD rfl rfl (xGa hy35) rfl rfl) ?_;refine zl ?_;obtain⟨v36,hy37,h⟩:=zV h;refine ws (LR.rowN (Wh hy37) rfl call134 rfl rfl rfl rfl) ?_;refine zl ?_;refine zD h (fun h=>?_) fun h=>?_
   ·refine zG ?_;refine PWl.frz [5,14,15,20] hK (.cons rfl<|.cons rfl<|.cons rfl<|.cons rfl<|.nil) rfl (by simp) ?_;refine ws (LR.build (ns:=[_,_]) qq rfl rfl rfl)<|ws (LR.buildSliceD [.tmp 21] WE rfl rfl (.cons rfl rfl rfl<|.nil) (by decide) (by decide)) ?_;obtain⟨hy39,h⟩:=zy h;refine ws (LR.appT (enc:=PT.e) (L:=c29) (R:=[(⟨kv34.1,v36⟩:PT)]) [3,18] WE underlying28 rfl rfl rfl (Src.slT (enc:=PT.e) (R:=[(⟨kv34.1,v36⟩:PT)]) rfl (fun _=>rfl)) (fun _=>rfl) hy39 rfl rfl)<|xd [7,23] [3,7] ?_;refine zE ?_;exact⟨((seen28++[j30]),(c29++[(⟨kv34.1,v36⟩:PT)])),(),h,sP⟩
   ·refine g5 ?_;exact⟨((seen28++[j30]),c29),(),h,sP⟩
 ·rintro c3 _ h;refine zQ ?_;obtain⟨hy42,h⟩:=zy h;refine PWl.sortFnR (encD:=PT.e) (enc:=RawTPart.v) (lt:=zea) (R:=RawTPart.R) (l:=c3) ZJa RawTPart.raw rlt135 (fun _=>rfl) (fun _=>rfl) rfl call135 rfl rfl rfl (by simp) hy42 rfl (fun s41 hy43 hy44=>?_);replace h:=iSrt h s41 hy43 hy44;have hy43l:=hy43.length_eq;refine zY ?_;refine wX ?_;cases h;exact⟨.inr rfl,2,rfl,.inr ⟨3,_,rfl,vD,rfl⟩⟩
theorem QG{c1 r0}(h:(Un c1).wp (·=r0)):PMap prog 97 [zW PT.e c1] [.u16] false (yI kI (eL RN.e) r0):=by
 refine PMap.intro (sl:=[(0,_)]) func97 rfl ntmps97 rfl rfl ?_;intro ctx hK;refine zY ?_;refine ws (LR.makeMap [.u16] false rfl) ?_;refine wV ?_;obtain⟨hy10,h⟩:=zy h;have hN:=hy10.1;refine PWc.loopRows (bid:=0) (N:=c1.length) (mid:=6) (n:=28) (ks:=[.u16]) (e:=124) (k:=2) (fun i=>[(3,.mp 6),(7,zW PT.e c1),(8,zC .i64 (c1.length:Int)),(9,zC .i64 (i:Int))]) (fun i=>ZB kI RN.e (AL.grow [] ((List.take i c1).filterMap yU))) [(3,.mp 6)] [] 0 hK (by decide) (fun i x hx id h=>by simp only[List.mem_cons,List.not_mem_nil,or_false] at hx;rcases hx with rfl | rfl | rfl | rfl <;> first | (simp[PV.has] at h;done) | (simp[PV.has] at h;exact h.symm) | (simp[PV.has] at h;omega)) rfl (fun i=>xWa (fun x d hd=>by simp only[RN.e,List.mem_cons,List.not_mem_nil,or_false] at hd;rcases hd with rfl | rfl <;> exact⟨_,rfl⟩) _) (sP) (fun i hi=>?_) (yI kI (eL RN.e) (AL.grow ([]:List (Int×List RN)) (List.filterMap yU c1))) (by simp only[List.take_length];exact rowsM_of _) (fun ctx vm bs ck=>?_) (fun bs ck=>?_)
 ·obtain⟨p,hp⟩:∃ p,c1[i]?=some p:=⟨_,List.getElem?_eq_getElem hi⟩
  have hidx:(0:Int)<=(i:Int)/\c1[(i:Int).toNat]?=some p:=⟨by omega,by simpa using hp⟩
  have htk:=AL.grow_take hp yU;have hwi:=wrapNat (i:=i) (by omega)
  by_cases hd:0 < p.dev
  ·have hf:yU p=some (p.dev,p.runs):=by simp[yU,hd]
   have hbd:=AL.grow_bound hy10 hp hf;rw[hf] at htk;rcases zfa (eK:=kI) (enc:=RN.e) vya (p.dev) (AL.grow [] ((List.take i c1).filterMap yU)) with⟨j,l,h1,h2,h3,h4⟩ | ⟨h1,h2,h3⟩
   ·simp only[h3] at hbd;refine .found (nl:=l.length) (nl':=(List.length (l++p.runs))) (l:=(List.map RN.e l)) (l':=(List.map RN.e (l++p.runs))) (by simp) (by simp) h2 (by rw[htk];simp only[AL.grow,Option.toList,List.foldl] at h3 h4 ⊢;rw[h3];exact h4 _) fun ctx vm bs ck hvm=>?_
    have hpf:vB (kI (p.dev)) (Yr vm) 0=some j:=by rw[xXa hvm];exact h1
    have h:(M.bind (M.idx c1 (i:Int)) fun x2=>M.yk ((l.length+x2.runs.length)*16<=140737488355328)<|M.pure ()).wp (fun _=>True):=⟨p,hidx,hbd,trivial⟩
    refine zK ?_;refine PWc.condT (congrArg (fun b=>some (PV.d (.v (.bool b)))) (decide_eq_true (Int.ofNat_lt.2 hi))) ?_;refine zK ?_;obtain⟨x2,hy3,h⟩:=yO h;have hE:=idxU hy3 hidx;subst hE;refine xK hy3 ?_;refine wV ?_;refine PWc.condT (congrArg (fun b=>some (PV.d (.v (.bool b)))) (decide_eq_true hd))<|zx [3,5,7,8,9] [5,6,50] ?_;refine PWc.regionE [yf [16] [6],yf [17] [5],⟨[18],[],[5],[],[],[],[],[]⟩,yf [19] [6],yf [20] [5],⟨[21],[],[5],[],[],[],[],[]⟩,⟨[22],[],[6],[],[],[50],[],[]⟩,yf [23] [5],⟨[24],[],[5],[],[],[],[],[]⟩,⟨[22,25],[6,50],[6,50],[],[(50,[22])],[50],[],[6]⟩,⟨[],[6],[6,50],[],[],[],[50],[]⟩] (by kernel_rfl) (by kernel_rfl) rfl ?_;refine Ys ?_;refine kp (fun _ U W=>LR.lookupP underlying170 xOa U (W rfl rfl) U rfl hpf rfl) ?_;refine yW ?_;obtain⟨hy4,h⟩:=zy h;refine PQe.stepX [22] (fun _ U W ha=>LR.appP (enc:=RN.e) (L:=l) (R:=x2.runs) [22] ZS underlying97 (U rfl rfl) rfl (W rfl rfl) (W rfl rfl) rfl (fun _ h1 h2=>Src.slT (enc:=RN.e) (R:=x2.runs) (zga h1 h2 (U rfl rfl)) (fun _=>rfl)) (fun _=>rfl) hy4 rfl ha) rfl rfl (.inl rfl) rfl ?_;refine ks (fun _ U W=>LR.mapUpdateP underlying170 xOa U (W rfl rfl) U rfl rfl U hpf)<|PQe.nil ?_;refine zG ?_;exact⟨rfl,zca⟩
   ·simp only[h2,List.length_nil,Nat.zero_add] at hbd;refine .fresh (q:=25) (nl':=p.runs.length) (l':=(List.map RN.e p.runs)) (by simp) (by decide) (by rw[htk];simp only[AL.grow,Option.toList,List.foldl] at h2 h3 ⊢;rw[h2];exact h3 _) fun ctx vm bs ck hvm=>?_
    have hpf:vB (kI (p.dev)) (Yr vm) 0=none:=by rw[xXa hvm];exact h1
    have h:(M.bind (M.idx c1 (i:Int)) fun x5=>M.yk (x5.runs.length*16<=140737488355328)<|M.pure ()).wp (fun _=>True):=⟨p,hidx,hbd,trivial⟩
    refine zK ?_;refine PWc.condT (congrArg (fun b=>some (PV.d (.v (.bool b)))) (decide_eq_true (Int.ofNat_lt.2 hi))) ?_;refine zK ?_;obtain⟨x5,hy6,h⟩:=yO h;have hE:=idxU hy6 hidx;subst hE;refine xK hy6 ?_;refine wV ?_;refine PWc.condT (congrArg (fun b=>some (PV.d (.v (.bool b)))) (decide_eq_true hd))<|zx [3,5,7,8,9] [5,6] ?_;refine PWc.regionE [yf [16] [6],yf [17] [5],⟨[18],[],[5],[],[],[],[],[]⟩,yf [19] [6],yf [20] [5],⟨[21],[],[5],[],[],[],[],[]⟩,⟨[22],[],[6],[],[],[],[],[]⟩,yf [23] [5],⟨[24],[],[5],[],[],[],[],[]⟩,⟨[25],[25],[],[25],[],[25],[],[]⟩,⟨[],[6],[6,25],[],[],[],[25],[]⟩] (by kernel_rfl) (by kernel_rfl) rfl ?_;refine Ys ?_;refine kp (fun _ U W=>LR.lookupPN underlying170 xOa U (W rfl rfl) U rfl zeroValue97 rfl hpf) ?_;refine yW ?_;obtain⟨hy7,h⟩:=zy h;refine PQe.stepN (fun _ U W hf=>LR.appNilX (enc:=RN.e) (R:=x5.runs) ZS underlying97 (U rfl rfl) hf (Src.slT (enc:=RN.e) (R:=x5.runs) (evObjs (U rfl rfl)) (fun _=>rfl)) (fun _=>rfl) hy7 rfl (wwa hf)) rfl (.inl rfl) rfl ?_;refine ks (fun _ U W=>LR.mapUpdatePN underlying170 xOa U (W rfl rfl) U rfl rfl U hpf)<|PQe.nil ?_;refine zG ?_;exact⟨rfl,zca⟩
  ·have hf:yU p=none:=by simp[yU,hd]
   rw[hf] at htk;refine .skip (by rw[htk];rfl) fun ctx vm bs ck=>?_
   have h:(M.bind (M.idx c1 (i:Int)) fun x8=>M.pure ()).wp (fun _=>True):=⟨p,hidx,trivial⟩
   refine zK ?_;refine PWc.condT (congrArg (fun b=>some (PV.d (.v (.bool b)))) (decide_eq_true (Int.ofNat_lt.2 hi))) ?_;refine zK ?_;obtain⟨x8,hy9,h⟩:=yO h;have hE:=idxU hy9 hidx;subst hE;refine xK hy9 ?_;refine wV ?_;refine PWc.condF (congrArg (fun b=>some (PV.d (.v (.bool b)))) (decide_eq_false hd)) ?_;refine zK ?_;exact⟨rfl,zca⟩
 ·have h:(M.pure ()).wp (fun _=>True):=trivial;refine zK ?_;refine PWc.condF (congrArg (fun b=>some (PV.d (.v (.bool b)))) (decide_eq_false (by omega))) ?_;refine wZ ?_;exact⟨rfl,sP⟩
 ·refine zK ?_;refine wX ?_;cases h;exact⟨.inr rfl,2,6,_,_,rfl,rfl,rfl⟩
theorem uE{c1 r0}(h:(un c1).wp (·=r0)):PRow prog 59 [zW PT.e c1] 99 2 (List.map PT.e r0):=by
 refine PRow.intro (sl:=[(0,_)]) func59 rfl ntmps59 rfl rfl ?_;intro ctx hK;refine zE ?_;refine ws (aR 99 2 rfl) ?_;refine zG ?_;obtain⟨v2,hy3,h⟩:=zV h;refine PWl.mapN (QG hy3) rfl call97 rfl rfl rfl rfl rfl (fun bs4 ck4 _=>?_);obtain⟨v5,hy6,h⟩:=zV h;refine PWl.frzM [4] hK (.cons rfl<|.nil) rfl<|ws (LR.rowN (xYa hy6) rfl call96 rfl rfl rfl rfl)<|xd [0,3,4,5] [5] ?_;refine zE ?_;refine wX ?_;cases h;exact⟨.inr rfl,2,rfl,.inr ⟨5,_,rfl,(by simp),rfl⟩⟩
theorem Yc{s1_1 s2_2 r0}(h:(xS s1_1 s2_2).wp (·=r0)):PFun prog 154 [zW RN.e s1_1,zW RN.e s2_2] (.d (.v (.bool r0))):=by
 refine ya [0,1] func154 ntmps154 ?_;intro ctx hK;refine vu ?_;refine zD h (fun h=>?_) fun h=>?_
 ·refine zG ?_;refine wX ?_;cases h;exact xT
 ·refine zl ?_;refine wq (zO h) 26 [] [] (fun _=>([],[])) (fun h=>?_) ?_
  ·refine g5 ?_;refine zf h 26 [0,1,12] [] (fun v17=>([(13,zC .i64 v17)],[])) ?_;rintro N v17 _ h;refine zK ?_;refine zD h (fun h=>?_) fun h=>?_
   ·refine wV ?_;refine yW ?_;obtain⟨x19,hy20,h⟩:=yO h;refine yz hy20 ?_;refine yC ?_;obtain⟨x21,hy22,h⟩:=yO h;refine yz hy22 ?_;refine h5 ?_;refine qs (fun _ U W=>LR.neqAgg U U rfl rfl eq124) ?_;refine h5 ?_;refine zD h (fun h=>?_) fun h=>?_
    ·refine zG ?_;refine wX ?_;cases h;exact xT
    ·refine zK ?_;exact⟨(IntKind.i64.wrap (v17+1)),(),h,sP⟩
   ·refine wZ ?_;exact⟨(),(),h,sP⟩
  ·rintro _ _ h;refine zG ?_;refine wX ?_;cases h;exact xT
theorem xZa{x1 y2 r0}(h:(qv x1 y2).wp (·=r0)):PFun prog 153 [.agg (List.map .d (PT.e x1)),.agg (List.map .d (PT.e y2))] (.d (.v (.bool r0))):=by
 refine ya [0,1] func153 ntmps153 ?_;intro ctx hK;refine ze ?_;refine yF (zO h) 17 [] [] (fun v3=>([(4,.d (.v (.bool v3)))],[])) (fun h=>?_) ?_
 ·refine ze ?_;refine yK 10 h (fun h=>?_) fun h=>?_
  ·refine zG ?_;obtain⟨v5,hy6,h⟩:=zV h;refine wt (cN (Yc hy6) rfl call154 rfl rfl rfl rfl) ?_;refine zQ ?_;exact⟨v5,(),h,sP⟩
  ·refine zl ?_;exact⟨false,(),h,sP⟩
 ·rintro v3 _ h;refine wX ?_;cases h;exact xT
theorem wO{s1_1 s2_2 r0}(h:(zt s1_1 s2_2).wp (·=r0)):PFun prog 152 [zW PT.e s1_1,zW PT.e s2_2,.d (.v (.func (.func 153) #[] #[]))] (.d (.v (.bool r0))):=by
 refine ya [0,1,2] func152 ntmps152 ?_;intro ctx hK;refine vu ?_;refine zD h (fun h=>?_) fun h=>?_
 ·refine zG ?_;refine wX ?_;cases h;exact xT
 ·refine zl ?_;refine wq (zO h) 32 [] [] (fun _=>([],[])) (fun h=>?_) ?_
  ·refine g5 ?_;refine zf h 32 [1,2,15,16] [] (fun v21=>([(17,zC .i64 v21)],[])) ?_;rintro N v21 _ h;refine zK ?_;refine zD h (fun h=>?_) fun h=>?_
   ·refine zY ?_;obtain⟨x23,hy24,h⟩:=yO h;refine xK hy24 ?_;refine ym ?_;obtain⟨x25,hy26,h⟩:=yO h;refine xK hy26 ?_;refine ym ?_;obtain⟨v27,hy28,h⟩:=zV h;refine xN (xZa hy28) call153 ?_;refine zE ?_;refine zD h (fun h=>?_) fun h=>?_
    ·refine zE ?_;refine xd [] [] ?_;refine zE ?_;refine wX ?_;cases h;exact xT
    ·refine zE ?_;refine xd [1,2,15,16,17] [] ?_;refine zQ ?_;exact⟨(IntKind.i64.wrap (v21+1)),(),h,sP⟩
   ·refine wZ ?_;exact⟨(),(),h,sP⟩
  ·rintro _ _ h;refine zG ?_;refine wX ?_;cases h;exact xT
theorem Yla{a1 b2 r0}(h:(v8a a1 b2).wp (·=r0)):PFun prog 109 [zW PT.e a1,zW PT.e b2] (.d (.v (.bool r0))):=by
 refine ya [0,1] func109 ntmps109 ?_;intro ctx hK;refine zl ?_;obtain⟨v3,hy4,h⟩:=zV h;refine xN (wO hy4) call152 ?_;refine zE ?_;refine wX ?_;cases h;exact xT
theorem YK{c1 r0}(h:(ZX c1).wp (·=r0)):PFun prog 74 [zW PT.e c1] (.d (.v (.bool r0))):=by
 refine ya [0] func74 ntmps74 ?_;intro ctx hK;refine zl ?_;obtain⟨v2,hy3,h⟩:=zV h;refine ws (LR.rowN (uE hy3) rfl call59 rfl rfl rfl rfl) ?_;obtain⟨v4,hy5,h⟩:=zV h;refine PWl.frz [5] hK (.cons rfl<|.nil) rfl (by simp) ?_;refine xN (Yla hy5) call109 ?_;refine zE ?_;refine wX ?_;cases h;exact xT
theorem XI{a1 b2 r0}(h:(Zy a1 b2).wp (·=r0)):PFun prog 76 [.agg (List.map .d (DT.e a1)),.agg (List.map .d (DT.e b2))] (zC .i64 r0):=by
 refine ya [0,1] func76 ntmps76 ?_;intro ctx hK;refine vu ?_;obtain⟨v3,hy4,h⟩:=zV h;refine xN (Wi hy4) call87 ?_;refine ze ?_;refine zD h (fun h=>?_) fun h=>?_
 ·refine zK ?_;refine wX ?_;cases h;exact xT
 ·refine ze ?_;obtain⟨v6,hy7,h⟩:=zV h;refine xN (ZC hy7) call114 ?_;refine zE ?_;refine wX ?_;cases h;exact xT
theorem YL{d1 r0}(h:(Yi d1).wp (·=r0)):PFun prog 137 [.agg (List.map .d (DT.e d1))] (.d (.v (.bool r0))):=by
 refine ya [0] func137 ntmps137 ?_;intro ctx hK;refine zY ?_;refine yF (zO h) 16 [] [] (fun v2=>([(2,.d (.v (.bool v2)))],[])) (fun h=>?_) ?_
 ·refine zK ?_;refine yK 6 h (fun h=>?_) fun h=>?_
  ·refine zK ?_;refine yK 11 h (fun h=>?_) fun h=>?_
   ·refine zY ?_;exact⟨(decide (d1.n<=281474976710655)),(),h,sP⟩
   ·refine zY ?_;exact⟨false,(),h,sP⟩
  ·refine vi ?_;exact⟨false,(),h,sP⟩
 ·rintro v2 _ h;refine wX ?_;cases h;exact xT
theorem zMa{v1 r0}(h:(Xe v1).wp (·=r0)):PFun prog 183 [zC .u64 v1] (.tup [zC .u16 r0.1,zC .u64 r0.2]):=by
 refine ya [0] func183 ntmps183 ?_;intro ctx hK;refine ym ?_;refine ws (LR.convInt underlying23 (by rw[underlying22];rfl) rfl rfl) ?_;refine zK ?_;refine wX ?_;cases h;exact Um
theorem vk{s1 r0}(h:(yr s1).wp (·=r0)):PRow prog 170 [zW DT.e s1] 101 2 (List.map DT.e r0):=by
 refine PRow.intro (sl:=[(0,_)]) func170 rfl ntmps170 rfl rfl ?_;intro ctx hK;refine zE ?_;refine ws (aR 101 2 rfl) ?_;refine zK ?_;replace h:=iNil h;refine PWl.eqlNilT (enc:=DT.e) (L:=s1) underlying102 rfl rfl (fun b2 hy3=>?_);replace h:=h b2 hy3;refine g5 ?_;refine zD h (fun h=>?_) fun h=>?_
 ·refine zE ?_;refine xd [0,3,4] [] ?_;refine ws (aR 101 2 rfl) ?_;refine g5 ?_;refine wX ?_;cases h;exact⟨.inr rfl,2,rfl,.inr ⟨2,_,rfl,vD,rfl⟩⟩
 ·refine zK ?_;obtain⟨hy5,h⟩:=zy h;refine ws (LR.appT (enc:=DT.e) (L:=([]:List DT)) (R:=s1) [5] wn underlying102 rfl vD rfl (Src.slT (enc:=DT.e) (R:=s1) rfl (fun _=>rfl)) (fun _=>rfl) hy5 rfl rfl) ?_;refine xd [0,3,4,6,7] [5] ?_;refine zE ?_;refine wX ?_;cases h;exact⟨.inr rfl,2,rfl,.inr ⟨5,_,rfl,(by simp),rfl⟩⟩
theorem Xp{e1 r0}(h:(vF e1).wp (·=r0)):PFun prog 123 [.agg (List.map .d (EV.e e1))] (.agg (List.map .d (EV.e r0))):=by
 refine ya [0] func123 ntmps123 ?_;intro ctx hK;refine ym ?_;obtain⟨v2,hy3,h⟩:=zV h;refine ws (LR.rowN (vk hy3) rfl call170 rfl rfl rfl rfl) ?_;refine g5 ?_;refine PWl.frz [5] hK (.cons rfl<|.nil) rfl (by simp) ?_;refine ze ?_;refine wX ?_;cases h;exact⟨.inr rfl,_,.cons (.agg isAgg104 sizeOf104 rfl rfl rfl rfl)<|.nil,rfl⟩
theorem ZD{row1 r0}(h:(yV row1).wp (·=r0)):PObj prog 179 [.row 100 (row1.length)] [(100,.row 101 2 (List.map DT.e row1))] [] (.row 100 (r0.length)) (fun _:Unit=>[(100,.row 101 2 (List.map DT.e r0))]):=by
 refine yY [0] func179 ntmps179 ?_;intro ctx hK pv;refine zE ?_;refine ws (aR 101 2 rfl) ?_;refine zl ?_;refine zD h (fun h=>?_) fun h=>?_
 ·refine zQ ?_;refine xd [0,6,7,8,9] [100] ?_;refine zE ?_;refine wX ?_;cases h;exact EndsO.mk () (.inr rfl) (sO (tl:=[(2,_)]) (to:=[(100,_)]) rfl (.cons rfl ZDa<|.nil) (.cons rfl rfl<|.nil)) (.cons (.tmp rfl)<|.nil) rfl rfl
 ·refine zY ?_;refine wq (zO h) 61 [0] [100] (fun _=>([],[])) (fun h=>?_) ?_
  ·refine g5 ?_;refine zf h 61 [0] [100] (fun k148=>([(3,zC .i64 k148)],[])) ?_;rintro N k148 _ h;refine zl ?_;refine zD h (fun h=>?_) fun h=>?_
   ·refine zE ?_;refine wq (zO h) 61 [0,3] [100] (fun _=>([],[])) (fun h=>?_) ?_
    ·refine zQ ?_;refine yW ?_;obtain⟨x150,hy151,h⟩:=yO h;refine qs (fun _ U W=>LR.idxRowT (L:=row1) (y:=x150) underlying102 sizeOf101 U rfl U hy151) ?_;refine qs (fun _ U W=>LR.loadRpT (enc:=DT.e) (L:=row1) (y:=x150) isAgg101 sizeOf101 U (W rfl) hy151.2) ?_;refine yC ?_;obtain⟨x152,hy153,h⟩:=yO h;refine qs (fun _ U W=>LR.idxRowT (L:=row1) (y:=x152) underlying102 sizeOf101 U rfl U hy153) ?_;refine qs (fun _ U W=>LR.loadRpT (enc:=DT.e) (L:=row1) (y:=x152) isAgg101 sizeOf101 U (W rfl) hy153.2) ?_;refine qs (fun _ U W=>LR.eqlAgg U U rfl rfl yAa) ?_;refine h5 ?_;refine zD h (fun h=>?_) fun h=>?_
     ·refine zG ?_;obtain⟨hy155,h⟩:=zy h;refine ws (LR.pieceRowT (enc:=DT.e) (L:=row1) underlying102 sizeOf101 rfl rfl rfl rfl hy155) ?_;refine ze ?_;refine yF (zO h) 61 [] [] (fun⟨k156,v157⟩=>([(0,.row 100 (v157.length)),(3,zC .i64 k156)],[(100,.row 101 2 (List.map DT.e v157))])) (fun h=>?_) ?_
      ·refine g5 ?_;refine zf h 61 [4] [] (fun⟨k197,k2_198,v199⟩=>([(0,.row 100 (v199.length)),(3,zC .i64 k197),(5,zC .i64 k2_198)],[(100,.row 101 2 (List.map DT.e v199))])) ?_;rintro N ⟨k197,k2_198,v199⟩ _ h;refine zl ?_;refine zD h (fun h=>?_) fun h=>?_
       ·refine zE ?_;refine yF (zO h) 61 [4,5] [] (fun⟨k201,v202⟩=>([(0,.row 100 (v202.length)),(3,zC .i64 k201)],[(100,.row 101 2 (List.map DT.e v202))])) (fun h=>?_) ?_
        ·refine zQ ?_;refine yW ?_;obtain⟨hy205,h⟩:=zy h;obtain⟨x203,hy204,h⟩:=yO h;have hy206:True/\v199[((Int.toNat k148)+Int.toNat k2_198)]?=some x203:=⟨trivial,hy204.2⟩
         refine qs (fun _ U W=>LR.idxPc underlying102 sizeOf101 U U hy205) ?_;refine qs (fun _ U W=>LR.loadRpT (enc:=DT.e) (L:=v199) (y:=x203) isAgg101 sizeOf101 U (W rfl) hy206.2) ?_;refine yC ?_;obtain⟨hy209,h⟩:=zy h;obtain⟨x207,hy208,h⟩:=yO h;have hy210:True/\v199[((Int.toNat k148)+Int.toNat (IntKind.i64.wrap (k2_198 - 1)))]?=some x207:=⟨trivial,hy208.2⟩
         refine qs (fun _ U W=>LR.idxPc underlying102 sizeOf101 U U hy209) ?_;refine qs (fun _ U W=>LR.loadRpT (enc:=DT.e) (L:=v199) (y:=x207) isAgg101 sizeOf101 U (W rfl) hy210.2) ?_;refine qs (fun _ U W=>LR.neqAgg U U rfl rfl yAa) ?_;refine h5 ?_;refine zD h (fun h=>?_) fun h=>?_
         ·refine zK ?_;refine xd [0,3,4,5,45,46,47] [100] ?_;refine g5 ?_;obtain⟨hy214,h⟩:=zy h;obtain⟨x212,hy213,h⟩:=yO h;have hy215:True/\v199[((Int.toNat k148)+Int.toNat k2_198)]?=some x212:=⟨trivial,hy213.2⟩
          refine ws (LR.idxPc underlying102 sizeOf101 rfl rfl hy214)<|ws (LR.loadRpT (enc:=DT.e) (L:=v199) (y:=x212) isAgg101 sizeOf101 rfl rfl hy215.2) ?_;obtain⟨x216,hy217,h⟩:=yO h;refine ws (LR.idxRowT (L:=v199) (y:=x216) underlying102 sizeOf101 rfl rfl rfl hy217)<|ws (LR.storeRpT (enc:=DT.e) (L:=v199) (a:=x216) (b:=x212) sizeOf101 rfl rfl rfl rfl rfl hy217.2 rfl rfl) ?_;refine zY ?_;exact⟨((IntKind.i64.wrap (k197+1)),(List.set v199 (Int.toNat k197) x212)),(),h,zca⟩
         ·refine g5 ?_;exact⟨(k197,v199),(),h,sP⟩
        ·rintro⟨k201,v202⟩ _ h;refine zK ?_;exact⟨(k201,(IntKind.i64.wrap (k2_198+1)),v202),(),h,sP⟩
       ·refine wZ ?_;exact⟨(k197,v199),(),h,sP⟩
      ·rintro⟨k156,v157⟩ _ h;refine zG ?_;obtain⟨hy218,h⟩:=zy h;refine ws (LR.pieceRowT (enc:=DT.e) (L:=v157) underlying102 sizeOf101 rfl rfl rfl rfl hy218) ?_;obtain⟨hy219,h⟩:=zy h;refine ws (LR.clearPcT (enc:=DT.e) (L:=v157) (z:=(⟨0,0⟩:DT)) underlying102 rfl rfl zeroValue101 rfl rfl rfl rfl hy219 rfl) ?_;refine zK ?_;obtain⟨hy220,h⟩:=zy h;refine ws (LR.cutRowT (enc:=DT.e) (L:=(List.take (Int.toNat k156) v157++List.replicate (v157.length - Int.toNat k156) (⟨0,0⟩:DT)++List.drop ((Int.toNat k156)+(v157.length - Int.toNat k156)) v157)) [0,54,56,57] underlying102 sizeOf101 rfl vD rfl rfl hy220 rfl) ?_;refine zE ?_;refine wX ?_;cases h;exact EndsO.mk () (.inr rfl) (sO (tl:=[(2,_)]) (to:=[(100,_)]) rfl (.cons rfl ZDa<|.nil) (.cons rfl rfl<|.nil)) (.cons (.tmp rfl)<|.nil) rfl rfl
     ·refine g5 ?_;exact⟨(),(),h,sP⟩
    ·rintro _ _ h;refine zK ?_;exact⟨(IntKind.i64.wrap (k148+1)),(),h,sP⟩
   ·refine wZ ?_;exact⟨(),(),h,sP⟩
  ·rintro _ _ h;refine zK ?_;refine wX ?_;cases h;exact EndsO.mk () (.inr rfl) (sO (tl:=[(2,_)]) (to:=[(100,_)]) rfl (.cons rfl ZDa<|.nil) (.cons rfl rfl<|.nil)) (.cons (.tmp rfl)<|.nil) rfl rfl
theorem UO{l1 r0}(h:(VD l1).wp (·=r0)):PRow prog 138 [zW DT.e l1] 101 2 (List.map DT.e r0):=by
 refine PRow.intro (sl:=[(0,_)]) func138 rfl ntmps138 rfl rfl ?_;intro ctx hK;refine zE ?_;refine ws (aR 101 2 rfl) ?_;refine zG ?_;obtain⟨v2,hy3,h⟩:=zV h;refine ws (LR.rowN (vk hy3) rfl call170 rfl rfl rfl rfl) ?_;refine zK ?_;obtain⟨hy5,h⟩:=zy h;refine PWl.sortFn (encD:=DT.e) (enc:=DT.v) (l:=v2) Yia (fun _=>rfl) DT.v1 (fun _=>rfl) rfl call178 rfl rfl rfl (by simp) hy5 rfl (fun s4 hy6 hy7=>?_);replace h:=iSrt h s4 hy6 hy7;have hy6l:=hy6.length_eq;refine zG ?_;obtain⟨y8,hy9,h⟩:=zV h;refine xO [(100,5)] [3,5,6,8] [100] (ZD hy9) call179<|xd [0,4,7,9] [5] ?_;refine zE ?_;refine wX ?_;cases h;exact⟨.inr rfl,2,rfl,.inr ⟨5,_,rfl,(by simp),rfl⟩⟩
theorem Vu{x1 n2 r0}(h:(Zz x1 n2).wp (·=r0)):PFun prog 242 [.agg (List.map .d (RN.e x1)),zC .u64 n2] (zC .i64 r0):=by
 refine ya [0,1] func242 ntmps242 ?_;intro ctx hK;refine wV ?_;obtain⟨v3,hy4,h⟩:=zV h;refine xN (ZC hy4) call114 ?_;refine zE ?_;refine wX ?_;cases h;exact xT
theorem xE{x1 target2 r0}(h:(zh x1 target2).wp (·=r0)):PFun prog 241 [zW RN.e x1,zC .u64 target2,.d (.v (.func (.func 242) #[] #[]))] (.tup [zC .i64 r0.1,.d (.v (.bool r0.2))]):=by
 refine ya [0,1,2] func241 ntmps241 ?_;intro ctx hK;refine YNa ?_;refine yF (zO h) 49 [0,1,2,8] [] (fun i3=>([(9,zC .i64 i3)],[])) (fun h=>?_) ?_
 ·refine g5 ?_;refine zf h 49 [0,1,2,8] [] (fun⟨i18,j19⟩=>([(9,zC .i64 i18),(10,zC .i64 j19)],[])) ?_;rintro N ⟨i18,j19⟩ _ h;refine ze ?_;refine zD h (fun h=>?_) fun h=>?_
  ·refine ze ?_;refine ws (LR.convInt underlying183 (by rw[underlying3];rfl) rfl rfl) ?_;refine g5 ?_;refine ws (LR.convInt underlying3 (by rw[underlying183];rfl) rfl rfl) ?_;refine ze ?_;obtain⟨x21,hy22,h⟩:=yO h;refine xK hy22 ?_;refine g5 ?_;refine xd [0,1,2,8,9,10,11,24,28] [] ?_;refine g5 ?_;obtain⟨v23,hy24,h⟩:=zV h;refine xN (Vu hy24) call242 ?_;refine zE ?_;refine zD h (fun h=>?_) fun h=>?_
   ·refine zK ?_;exact⟨((IntKind.i64.wrap (((IntKind.i64.wrap ((Int.fdiv ((IntKind.u64.wrap (IntKind.i64.wrap (i18+j19)))) (2 ^ 1)))))+1)),j19),(),h,sP⟩
   ·refine zG ?_;exact⟨(i18,(IntKind.i64.wrap ((Int.fdiv ((IntKind.u64.wrap (IntKind.i64.wrap (i18+j19)))) (2 ^ 1))))),(),h,sP⟩
  ·refine wZ ?_;exact⟨i18,(),h,sP⟩
 ·rintro i3 _ h;refine g5 ?_;refine yF (zO h) 49 [] [] (fun v26=>([(6,zC .i64 i3),(7,.d (.v (.bool v26)))],[])) (fun h=>?_) ?_
  ·refine zY ?_;refine yK 39 h (fun h=>?_) fun h=>?_
   ·refine zQ ?_;obtain⟨x28,hy29,h⟩:=yO h;refine zba hy29 ?_;refine zE ?_;obtain⟨v30,hy31,h⟩:=zV h;refine wt (cN (Vu hy31) rfl call242 rfl rfl rfl rfl) ?_;refine zQ ?_;refine xd [6,48] [] ?_;refine zE ?_;exact⟨(decide (v30=0)),(),h,sP⟩
   ·refine wV ?_;refine xd [6,48] [] ?_;refine zE ?_;exact⟨false,(),h,sP⟩
  ·rintro v26 _ h;refine wX ?_;cases h;exact Um
theorem wxa{l1 n2 r0}(h:(Jl l1 n2).wp (·=r0)):PFun prog 217 [zW RN.e l1,zC .u64 n2] (.d (.v (.bool r0))):=by
 refine ya [0,1] func217 ntmps217 ?_;intro ctx hK;refine ze ?_;obtain⟨v3,hy4,h⟩:=zV h;refine ws (LR.rowN (Wh hy4) rfl call134 rfl rfl rfl rfl) ?_;refine zY ?_;obtain⟨v5,hy6,h⟩:=zV h;refine PWl.frz [0,8,10] hK (.cons rfl<|.cons rfl<|.cons rfl<|.nil) rfl (by simp) ?_;refine xN (xE hy6) call241 ?_;refine ze ?_;refine yF (zO h) 28 [] [] (fun v7=>([(4,.d (.v (.bool v7)))],[])) (fun h=>?_) ?_
 ·refine zY ?_;refine yK 19 h (fun h=>?_) fun h=>?_
  ·refine g5 ?_;refine xd [1,4,5,19,20] [] ?_;refine g5 ?_;obtain⟨x9,hy10,h⟩:=yO h;refine zba hy10 ?_;refine ze ?_;exact⟨(decide (x9.lo<=n2)),(),h,sP⟩
  ·refine g5 ?_;refine xd [1,4,5,19,20] [] ?_;refine ym ?_;exact⟨false,(),h,sP⟩
 ·rintro v7 _ h;refine wX ?_;cases h;exact xT
theorem wya{c1 dev2 r0}(h:(Jm c1 dev2).wp (·=r0)):PRow prog 218 [zW PT.e c1,zC .u16 dev2] 124 2 (List.map RN.e r0):=by
 refine PRow.intro (sl:=[(0,_),(1,_)]) func218 rfl ntmps218 rfl rfl ?_;intro ctx hK;refine zE ?_;refine ws (aR 124 2 rfl) ?_;refine zG ?_;obtain⟨v3,hy4,h⟩:=zV h;refine PWl.mapN (QG hy4) rfl call97 rfl rfl rfl rfl rfl (fun bs5 ck5 _=>?_);refine g5 ?_;refine ws (LR.getO (eV:=(eL RN.e)) (zv:=([]:List RN)) (q:=dev2) (m:=v3) vya underlying170 xOa zeroValue97 (zRd1 (.slice none 0 0) rfl) rfl rfl rfl rfl rfl rfl) ?_;obtain⟨v6,hy7,h⟩:=zV h;refine ws (LR.rowN (Wh hy7) rfl call134 rfl rfl rfl rfl)<|xd [0,1,5,6,7,8,9] [6,9] ?_;refine zE ?_;refine wX ?_;cases h;exact⟨.inr rfl,4,rfl,.inr ⟨9,_,rfl,(by simp),rfl⟩⟩
theorem ZNa{c1 d2 r0}(h:(qw c1 d2).wp (·=r0)):PFun prog 198 [zW PT.e c1,.agg (List.map .d (DT.e d2))] (.d (.v (.bool r0))):=by
 refine ya [0,1] func198 ntmps198 ?_;intro ctx hK;refine zY ?_;refine yF (zO h) 17 [] [] (fun v3=>([(4,.d (.v (.bool v3)))],[])) (fun h=>?_) ?_
 ·refine g5 ?_;refine xX ?_;refine vn 8 h (fun h=>?_) fun h=>?_
  ·refine yC ?_;obtain⟨v5,hy6,h⟩:=zV h;refine qt (fun _ U W=>cN (PRow.fun (wya hy6)) U call218 (Ya (fun a b=>U a b) rfl rfl) rfl rfl rfl) ?_;refine yW ?_;obtain⟨v7,hy8,h⟩:=zV h;refine qt (fun _ U W=>cN (wxa hy8) U call217 (Ya (fun a b=>U a b) rfl rfl) rfl rfl rfl) ?_;refine yC ?_;exact⟨v7,(),h,sP⟩
  ·refine JQ ?_;exact⟨false,(),h,sP⟩
 ·rintro v3 _ h;refine wX ?_;cases h;exact xT
theorem yOa{l1 c2 has3 r0}(h:(jd l1 c2 has3).wp (·=r0)):PRow prog 173 [zW DT.e l1,zW PT.e c2,.d (.v (.bool has3))] 101 2 (List.map DT.e r0):=by
 refine PRow.intro (sl:=[(0,_),(1,_),(2,_)]) func173 rfl ntmps173 rfl rfl ?_;intro ctx hK;refine zE ?_;refine ws (aR 101 2 rfl) ?_;refine zQ ?_;refine ws (aR 101 2 rfl) ?_;refine zl ?_;refine yF (zO h) 28 [] [] (fun out4=>([(7,.row 7 (out4.length))],[(7,.row 101 2 (List.map DT.e out4))])) (fun h=>?_) ?_
 ·refine g5 ?_;refine zf h 28 [1,2,10,11] [] (fun⟨v23,out24⟩=>([(7,.row 7 (out24.length)),(12,zC .i64 v23)],[(7,.row 101 2 (List.map DT.e out24))])) ?_;rintro N ⟨v23,out24⟩ _ h;refine zK ?_;refine zD h (fun h=>?_) fun h=>?_
  ·refine zE ?_;refine yF (zO h) 28 [1,2,10,11,12] [] (fun out26=>([(7,.row 7 (out26.length))],[(7,.row 101 2 (List.map DT.e out26))])) (fun h=>?_) ?_
   ·refine zQ ?_;obtain⟨x27,hy28,h⟩:=yO h;refine xK hy28 ?_;refine zl ?_;obtain⟨v29,hy30,h⟩:=zV h;refine xN (ZNa hy30) call198 ?_;refine zQ ?_;refine zD h (fun h=>?_) fun h=>?_
    ·refine zQ ?_;refine ws (LR.buildSliceD [.tmp 22] wn rfl rfl (.cons rfl rfl rfl<|.nil) (by decide) (by decide)) ?_;obtain⟨hy32,h⟩:=zy h;refine ws (LR.appT (enc:=DT.e) (L:=out24) (R:=[x27]) [7,21] wn underlying102 rfl rfl rfl (Src.slT (enc:=DT.e) (R:=[x27]) rfl (fun _=>rfl)) (fun _=>rfl) hy32 rfl rfl) ?_;refine zE ?_;exact⟨(out24++[x27]),(),h,sP⟩
    ·refine g5 ?_;exact⟨out24,(),h,sP⟩
   ·rintro out26 _ h;refine zG ?_;exact⟨((IntKind.i64.wrap (v23+1)),out26),(),h,sP⟩
  ·refine wZ ?_;exact⟨out24,(),h,sP⟩
 ·rintro out4 _ h;refine zQ ?_;obtain⟨v33,hy34,h⟩:=zV h;refine PWl.frz [7,26] hK (.cons rfl<|.cons rfl<|.nil) rfl (by simp) ?_;refine ws (LR.rowN (UO hy34) rfl call138 rfl rfl rfl rfl) ?_;refine zE ?_;refine wX ?_;cases h;exact⟨.inr rfl,6,rfl,.inr ⟨27,_,rfl,(by simp),rfl⟩⟩
theorem Uz{l1 c2 r0}(h:(VE l1 c2).wp (·=r0)):PRow prog 129 [zW DT.e l1,zW PT.e c2] 101 2 (List.map DT.e r0):=by
 refine PRow.intro (sl:=[(0,_),(1,_)]) func129 rfl ntmps129 rfl rfl ?_;intro ctx hK;refine zE ?_;refine ws (aR 101 2 rfl) ?_;refine zK ?_;obtain⟨v3,hy4,h⟩:=zV h;refine ws (LR.rowN (yOa hy4) rfl call173 rfl rfl rfl rfl)<|xd [0,1,5,6,7] [7] ?_;refine zE ?_;refine wX ?_;cases h;exact⟨.inr rfl,4,rfl,.inr ⟨7,_,rfl,(by simp),rfl⟩⟩
theorem jA{l1 r0}(h:(VF l1).wp (·=r0)):PRow prog 130 [zW EV.e l1] 101 2 (List.map DT.e r0):=by
 refine PRow.intro (sl:=[(0,_)]) func130 rfl ntmps130 rfl rfl ?_;intro ctx hK;refine zE ?_;refine ws (aR 101 2 rfl) ?_;refine zQ ?_;refine ws (aR 101 2 rfl) ?_;refine zl ?_;refine yF (zO h) 23 [] [] (fun out2=>([(3,.row 3 (out2.length))],[(3,.row 101 2 (List.map DT.e out2))])) (fun h=>?_) ?_
 ·refine g5 ?_;refine zf h 23 [6,7] [] (fun⟨v15,out16⟩=>([(3,.row 3 (out16.length)),(8,zC .i64 v15)],[(3,.row 101 2 (List.map DT.e out16))])) ?_;rintro N ⟨v15,out16⟩ _ h;refine zK ?_;refine zD h (fun h=>?_) fun h=>?_
  ·refine zK ?_;obtain⟨x18,hy19,h⟩:=yO h;refine xK hy19 ?_;refine zG ?_;refine zx [3,5,6,7,8] [3,5] ?_;refine PWc.regionE [yf [12] [3],yf [13] [5],⟨[14],[],[5],[],[],[],[],[]⟩,{ws:=[15]},⟨[3,12,16],[3],[3],[],[(3,[3,12])],[3],[],[]⟩,yf [17] [5],⟨[18],[],[5],[],[],[],[],[]⟩,⟨[3,12,16,19],[3],[3],[],[(3,[3,12,16])],[3],[],[]⟩,yf [3] [3]] (by kernel_rfl) (by kernel_rfl) rfl ?_;refine yC ?_;refine kp (fun _ U W=>LR.buildSliceD [.tmp 14] wn rfl rfl (.cons U rfl rfl<|.nil) (by decide) (by decide)) ?_;obtain⟨hy20,h⟩:=zy h;refine PQe.stepA [3,12] (fun _ U W ha=>LR.appT (enc:=DT.e) (L:=out16) (R:=[x18.dot]) [3,12] wn underlying102 (U rfl rfl) rfl (W rfl rfl) (Src.slT (enc:=DT.e) (R:=[x18.dot]) (U rfl rfl) (fun _=>rfl)) (fun _=>rfl) hy20 rfl ha) rfl (.inl rfl) rfl ?_;refine yW ?_;obtain⟨hy21,h⟩:=zy h;refine PQe.stepA [3,12,16] (fun _ U W ha=>LR.appT (enc:=DT.e) (L:=(out16++[x18.dot])) (R:=x18.kills) [3,12,16] wn underlying102 (U rfl rfl) rfl (W rfl rfl) (Src.slT (enc:=DT.e) (R:=x18.kills) (U rfl rfl) (fun _=>rfl)) (fun _=>rfl) hy21 rfl ha) rfl (.inl rfl) rfl ?_;refine h5 ?_;refine PQe.nil ?_;refine zG ?_;exact⟨((IntKind.i64.wrap (v15+1)),((out16++[x18.dot])++x18.kills)),(),h,sP⟩
  ·refine wZ ?_;exact⟨out16,(),h,sP⟩
 ·rintro out2 _ h;refine zQ ?_;obtain⟨v22,hy23,h⟩:=zV h;refine PWl.frz [3,21] hK (.cons rfl<|.cons rfl<|.nil) rfl (by simp) ?_;refine ws (LR.rowN (UO hy23) rfl call138 rfl rfl rfl rfl) ?_;refine zE ?_;refine wX ?_;cases h;exact⟨.inr rfl,2,rfl,.inr ⟨22,_,rfl,(by simp),rfl⟩⟩
theorem YM{n1 r0}(h:(xF n1).wp (·=r0)):PRow prog 199 [.d (.v (.slice none 0 0)),zC .i64 n1] 99 2 (List.map PT.e r0):=by
 refine PRow.intro (sl:=[(0,_),(1,_)]) func199 rfl ntmps199 rfl rfl ?_;intro ctx hK;refine zE ?_;refine ws (aR 99 2 rfl) ?_;refine ze ?_;refine zD h (fun h=>?_) fun h=>?_
 ·exact h.elim
 ·refine YNa ?_;refine yF (zO h) 27 [] [] (fun v3=>([(0,.row 22 (v3.length))],[(22,.row 99 2 (List.map PT.e v3))])) (fun h=>?_) ?_
  ·refine zD h (fun h=>?_) fun h=>?_
   ·refine zY ?_;obtain⟨hy5,h⟩:=zy h;refine ws (LR.appMakeT (enc:=PT.e) (z:=(⟨0,([]:List RN)⟩:PT)) hy5 WE underlying3 zeroValue99 rfl rfl rfl rfl rfl rfl rfl)<|xd [0,22] [22] ?_;refine zE ?_;obtain⟨hy6,h⟩:=zy h;refine ws (LR.cutRowT (enc:=PT.e) (L:=(List.replicate (Int.toNat ((IntKind.i64.wrap (n1 - (IntKind.i64.wrap (0 - 0)))))) (⟨0,([]:List RN)⟩:PT))) [22] underlying28 sizeOf99 rfl vD rfl rfl hy6 rfl) ?_;refine zE ?_;exact⟨(List.take (Int.toNat 0) ((List.replicate (Int.toNat ((IntKind.i64.wrap (n1 - (IntKind.i64.wrap (0 - 0)))))) (⟨0,([]:List RN)⟩:PT)))),(),h,zca⟩
   ·refine g5 ?_;exact⟨[],(),h,Sub.trans (Sub.nilRow 0 22 99 2 rfl rfl)<|sP⟩
  ·rintro v3 _ h;refine zK ?_;refine wX ?_;cases h;exact⟨.inr rfl,4,rfl,.inr ⟨22,_,rfl,(by simp),rfl⟩⟩
theorem Yu{slices1 r0}(h:(xf slices1).wp (·=r0)):PRow prog 174 [zW (eL PT.e) slices1] 99 2 (List.map PT.e r0):=by
 refine PRow.intro (sl:=[(0,_)]) func174 rfl ntmps174 rfl rfl ?_;intro ctx hK;refine zE ?_;refine ws (aR 99 2 rfl) ?_;refine qr ?_;refine yF (zO h) 36 [0] [] (fun size2=>([(3,zC .i64 size2)],[])) (fun h=>?_) ?_
 ·refine g5 ?_;refine zf h 36 [0,9,10] [] (fun⟨size13,v14⟩=>([(3,zC .i64 size13),(11,zC .i64 v14)],[])) ?_;rintro N ⟨size13,v14⟩ _ h;refine zK ?_;refine zD h (fun h=>?_) fun h=>?_
  ·refine zK ?_;obtain⟨x16,hy17,h⟩:=yO h;refine xK hy17 ?_;refine zda ?_;refine zD h (fun h=>?_) fun h=>?_
   ·exact h.elim
   ·refine zK ?_;exact⟨((IntKind.i64.wrap (size13+(x16.length:Int))),(IntKind.i64.wrap (v14+1))),(),h,sP⟩
  ·refine wZ ?_;exact⟨size13,(),h,sP⟩
 ·rintro size2 _ h;refine zQ ?_;obtain⟨v19,hy20,h⟩:=zV h;refine ws (LR.rowT (YM hy20) rfl call199 rfl rfl rfl) ?_;refine ym ?_;refine yF (zO h) 36 [] [] (fun v21=>([(6,.row 24 (v21.length))],[(24,.row 99 2 (List.map PT.e v21))])) (fun h=>?_) ?_
  ·refine g5 ?_;refine zf h 36 [25,26] [] (fun⟨v32,v33⟩=>([(6,.row 24 (v33.length)),(27,zC .i64 v32)],[(24,.row 99 2 (List.map PT.e v33))])) ?_;rintro N ⟨v32,v33⟩ _ h;refine zK ?_;refine zD h (fun h=>?_) fun h=>?_
   ·refine zK ?_;obtain⟨x35,hy36,h⟩:=yO h;refine xK hy36 ?_;refine zY ?_;obtain⟨hy37,h⟩:=zy h;refine ws (LR.appT (enc:=PT.e) (L:=v33) (R:=x35) [6,31] WE underlying28 rfl rfl rfl (Src.slT (enc:=PT.e) (R:=x35) rfl (fun _=>rfl)) (fun _=>rfl) hy37 rfl rfl) ?_;refine zY ?_;exact⟨((IntKind.i64.wrap (v32+1)),(v33++x35)),(),h,sP⟩
   ·refine wZ ?_;exact⟨v33,(),h,sP⟩
  ·rintro v21 _ h;refine zK ?_;refine wX ?_;cases h;exact⟨.inr rfl,2,rfl,.inr ⟨24,_,rfl,(by simp),rfl⟩⟩
theorem wza{a1 b2 r0}(h:(Jo a1 b2).wp (·=r0)):PRow prog 133 [zW PT.e a1,zW PT.e b2] 99 2 (List.map PT.e r0):=by
 refine PRow.intro (sl:=[(0,_),(1,_)]) func133 rfl ntmps133 rfl rfl ?_;intro ctx hK;refine zE ?_;refine ws (aR 99 2 rfl) ?_;refine zK ?_;refine ws (LR.buildSliceD [.tmp 5,.tmp 6] elem256 rfl rfl (.cons rfl rfl rfl<|.cons rfl rfl rfl<|.nil) (by decide) (by decide)) ?_;obtain⟨v3,hy4,h⟩:=zV h;refine ws (LR.rowN (Yu hy4) rfl call174 rfl rfl rfl rfl) ?_;obtain⟨v5,hy6,h⟩:=zV h;refine PWl.frz [8] hK (.cons rfl<|.nil) rfl (by simp) ?_;refine ws (LR.rowN (uE hy6) rfl call59 rfl rfl rfl rfl)<|xd [0,1,5,6,7,8,9] [9] ?_;refine zE ?_;refine wX ?_;cases h;exact⟨.inr rfl,4,rfl,.inr ⟨9,_,rfl,(by simp),rfl⟩⟩
theorem YN  (r0:Int×Int×A16×Bool×(List (Int×TMember))) (h:(uy ).wp (·=r0)):PObj prog 45 [] [] [] (.ref 3 0) (fun _:Unit=>[(3,.cells 150 (zC .u64 r0.1::zC .u16 r0.2.1::.mp 1::wj r0.2.2.1 [])),(1,.mapH r0.2.2.2.1 [.u16] true (yI kI TMember.e r0.2.2.2.2))]):=by
 refine yY [] func45 ntmps45 ?_;intro ctx hK pv;refine zY ?_;refine ws (LR.makeMap [.u16] true rfl)<|ws (LR.buildR (ns:=[_,_,_,_,_,_,_,_,_,_,_,_,_,_,_,_,_,_,_]) build150 rfl rfl rfl) ?_;refine zQ ?_;refine wX ?_;cases h;exact EndsO.mk () (.inr rfl) (Sub.trans (Sub.toH (id:=1) rfl)<|vJ [0] [3,1]) (.cons (.tmp rfl)<|.nil) rfl rfl
theorem xV{epoch_1 last_2 c3 nl4 m5 r0}(h:(yb epoch_1 last_2 c3 nl4 m5).wp (·=r0)):PObj prog 84 [.ref 100 0] [(100,.cells 150 (zC .u64 epoch_1::zC .u16 last_2::.mp 101::wj c3 [])),(101,.mapH nl4 [.u16] true (yI kI TMember.e m5))] [100,101] (.d (.v (.bool r0))) (fun _:Unit=>[(100,.cells 150 (zC .u64 epoch_1::zC .u16 last_2::.mp 101::wj c3 [])),(101,.mapH nl4 [.u16] true (yI kI TMember.e m5))]):=by
 refine yY [0] func84 ntmps84 ?_;intro ctx hK pv;refine qu ?_;refine wX ?_;cases h;exact yl [2] [100,101,1100,1101]
theorem vl{epoch_1 last_2 c3 nl4 m5 r0}(h:(yt epoch_1 last_2 c3 nl4 m5).wp (·=r0)):PObj prog 51 [.ref 100 0] [(100,.cells 150 (zC .u64 epoch_1::zC .u16 last_2::.mp 101::wj c3 [])),(101,.mapH nl4 [.u16] true (yI kI TMember.e m5))] [100,101] (zW TMember.e r0) (fun _:Unit=>[(100,.cells 150 (zC .u64 epoch_1::zC .u16 last_2::.mp 101::wj c3 [])),(101,.mapH nl4 [.u16] true (yI kI TMember.e m5))]):=by
 refine yY [0] func51 ntmps51 ?_;intro ctx hK pv;refine zE ?_;refine ws (aR 59 3 rfl) ?_;refine zK ?_;obtain⟨y6,hy7,h⟩:=zV h;refine ZCa [(100,100),(101,101)] [] [100,101] [] [100,101] (xV hy7) call84 ?_;refine g5 ?_;refine zD h (fun h=>?_) fun h=>?_
 ·refine g5 ?_;refine zx [] [100,101,1100,1101] ?_;refine g5 ?_;refine ws (aR 59 3 rfl) ?_;refine g5 ?_;refine wX ?_;cases h;exact EndsO.mk () (.inr rfl) (Sub.trans (Sub.frz [2] hK rfl vD (AllRow.get (.cons rfl<|.nil)))<|vJ [2] [100,101,1100,1101]) (.cons (.tmp rfl)<|.nil) rfl rfl
 ·refine zE ?_;refine zx [0] [100,101,1100,1101] ?_;refine g5 ?_;refine ws (aR 59 3 rfl) ?_;refine zl ?_;refine PWl.openH (id:=101) rfl (fun bs9 ck9=>?_);refine zE ?_;refine yF (zO h) 24 [] [100,101,1100,1101] (fun out10=>([(3,.row 3 (out10.length))],[(3,.row 59 3 (List.map TMember.e out10))])) (fun h=>?_) ?_
  ·refine g5 ?_;refine zf h 24 [12] [100,101,1100,1101] (fun⟨seen29,out30⟩=>([(3,.row 3 (out30.length))],[(3,.row 59 3 (List.map TMember.e out30)),(12,.iterO 101 bs9 ck9 seen29)])) ?_;rintro N ⟨seen29,out30⟩ _ h;refine zE ?_;obtain⟨hy38,h⟩:=zy h;replace h:=iNxt h;refine PWl.nextN rfl rfl rfl (nxtD hy38) rfl (fun hy32=>?_) (fun j31 hy33 hy34=>?_)
   ·replace h:=h.1 (nxtA hy32);refine zQ ?_;refine PWc.condF rfl<|wZ ?_;exact⟨out30,(),h,sP⟩
   ·replace h:=h.2 j31 (nxtB hy33) hy34;refine zQ ?_;refine PWc.condT rfl ?_;refine zG ?_;obtain⟨kv35,hy36,h⟩:=yO h;refine ws (LR.entryN rfl rfl rfl (xGa hy36) rfl rfl) ?_;refine ze ?_;refine ws (LR.buildSliceD [.tmp 18] JM rfl rfl (.cons rfl rfl rfl<|.nil) (by decide) (by decide)) ?_;obtain⟨hy37,h⟩:=zy h;refine ws (LR.appT (enc:=TMember.e) (L:=out30) (R:=[kv35.2]) [3,17] JM underlying24 rfl rfl rfl (Src.slT (enc:=TMember.e) (R:=[kv35.2]) rfl (fun _=>rfl)) (fun _=>rfl) hy37 rfl rfl) ?_;refine zE ?_;exact⟨((seen29++[j31]),(out30++[kv35.2])),(),h,sP⟩
  ·rintro out10 _ h;refine zQ ?_;obtain⟨hy40,h⟩:=zy h;refine PWl.sortFn (encD:=TMember.e) (enc:=TMember.v) (l:=out10) srt85_86 (fun _=>rfl) TMember.v1 (fun _=>rfl) rfl call85 rfl rfl rfl (by simp) hy40 rfl (fun s39 hy41 hy42=>?_);replace h:=iSrt h s39 hy41 hy42;have hy41l:=hy41.length_eq;refine zY ?_;refine wX ?_;cases h;exact EndsO.mk () (.inr rfl) (Sub.trans (Sub.frz [2,3,21,23] hK rfl vD (AllRow.get (.cons rfl<|.cons rfl<|.cons rfl<|.cons rfl<|.nil)))<|Sub.trans (Sub.nToH (id:=101) rfl)<|vJ [2] [100,101,1100,1101]) (.cons (.tmp rfl)<|.nil) rfl rfl
theorem ZE{slot1 epoch_2 last_3 c4 nl5 m6 r0}(h:(xr slot1 epoch_2 last_3 c4 nl5 m6).wp (·=r0)):PObj prog 126 [.ref 100 0,zC .u8 slot1] [(100,.cells 150 (zC .u64 epoch_2::zC .u16 last_3::.mp 101::wj c4 [])),(101,.mapH nl5 [.u16] true (yI kI TMember.e m6))] [100,101] (.tup [.agg (List.map .d (TMember.e r0.1)),.d (.v (.bool r0.2))]) (fun _:Unit=>[(100,.cells 150 (zC .u64 epoch_2::zC .u16 last_3::.mp 101::wj c4 [])),(101,.mapH nl5 [.u16] true (yI kI TMember.e m6))]):=by
 refine yY [0,1] func126 ntmps126 ?_;intro ctx hK pv;refine ym ?_;obtain⟨y7,hy8,h⟩:=zV h;refine ZCa [(100,100),(101,101)] [] [100,101] [] [100,101] (vl hy8) call51 ?_;refine zQ ?_;refine wq (zO h) 22 [4] [4,100,101,1100,1101] (fun _=>([],[])) (fun h=>?_) ?_
 ·refine g5 ?_;refine zf h 22 [1,4,9,10] [4,100,101,1100,1101] (fun v18=>([(11,zC .i64 v18)],[])) ?_;rintro N v18 _ h;refine zK ?_;refine zD h (fun h=>?_) fun h=>?_
  ·refine zK ?_;obtain⟨x20,hy21,h⟩:=yO h;refine xK hy21 ?_;refine vi ?_;refine zD h (fun h=>?_) fun h=>?_
   ·refine zY ?_;refine wX ?_;cases h;exact EndsO.mkX (ex:=[(4,_)]) () (.inr rfl) (vJ [4,5] [100,101,1100,1101,4]) (.cons (.agg isAgg59 sizeOf59 rfl rfl rfl)<|.cons (.tmp rfl)<|.nil) rfl rfl
   ·refine zK ?_;exact⟨(IntKind.i64.wrap (v18+1)),(),h,sP⟩
  ·refine wZ ?_;exact⟨(),(),h,sP⟩
 ·rintro _ _ h;refine zE ?_;refine ws (LR.build (ns:=[_,_,_]) wma rfl rfl rfl) ?_;refine zQ ?_;refine wX ?_;cases h;exact EndsO.mkX (ex:=[(4,_)]) () (.inr rfl) (vJ [4,5] [100,101,1100,1101,4]) (.cons (.agg isAgg59 sizeOf59 rfl rfl rfl)<|.cons (.tmp rfl)<|.nil) rfl rfl
theorem uD{epoch1 last2 members3 tries4 r0}(h:(uK epoch1 last2 members3 tries4).wp (·=r0)):(match r0 with | .inl r0=>PObj prog 90 [zC .u64 epoch1,zC .u16 last2,zW TMember.e members3,zW (eK .u64) tries4] [] [] (.tup [.d (.v (.pointer none)),zC .i64 1]) (fun _:Unit=>[]) | .inr r0=>PObj prog 90 [zC .u64 epoch1,zC .u16 last2,zW TMember.e members3,zW (eK .u64) tries4] [] [] (.tup [.ref 26 0,zC .i64 0]) (fun _:Unit=>[(26,.cells 150 (zC .u64 r0.1::zC .u16 r0.2.1::.mp 20521::wj r0.2.2.1 [])),(20521,.mapH r0.2.2.2.1 [.u16] true (yI kI TMember.e r0.2.2.2.2))])):=by
 cases r0 with
 | inl r0=>
  refine yY [0,1,2,3] func90 ntmps90 ?_;intro ctx hK pv;refine ze ?_;refine yF (zO h) 111 [0,1,2,3] [] (fun v5=>([(25,.d (.v (.bool v5)))],[])) (fun h=>?_) ?_
  ·refine zG ?_;refine wL (d:=17) rfl (fun hg6=>?_) (fun hg6=>?_)
   ·replace h:=iT hg6 h;refine ym ?_;exact⟨true,(),h,sP⟩
   ·replace h:=iF hg6 h;refine zG ?_;refine wL (d:=21) rfl (fun hg7=>?_) (fun hg7=>?_)
    ·replace h:=iT hg7 h;refine zK ?_;exact⟨true,(),h,sP⟩
    ·replace h:=iF hg7 h;refine zK ?_;exact⟨(!decide ((tries4.length:Int)=16)),(),h,sP⟩
  ·rintro v5 _ h;refine wC rfl (fun hc8=>?_) (fun hc8=>?_)
   ·replace h:=iT hc8 h;refine zK ?_;refine wX ?_;replace h:(Sum.inl _:Unit⊕(Int×Int×A16×Bool×(List (Int×TMember))))=Sum.inl r0:=h;replace h:=Sum.inl.inj h;subst h;exact yl [8,9] []
   ·replace h:=iF hc8 h;refine zQ ?_;obtain⟨y9,hy10,h⟩:=zV h;refine xO [(3,26),(1,20521)] [] [3,1] (YN y9 hy10) call45 ?_;refine zQ ?_;refine zx [0,1,2,3,10] [26,20521] ?_;refine gs19A6 ?_;refine ws (LR.copyArr (ns:=[_,_,_,_,_,_,_,_,_,_,_,_,_,_,_,_,_,_,_]) (L:=tries4) .u64 y9.2.2.1 underlying25 sizeOf22 rfl rfl rfl rfl rfl) ?_;refine zY ?_;refine xd [1,2,10,41,42] [26,20521] ?_;refine zE ?_;refine wq (zO h) 111 [10] [26] (fun v11=>([],[(20521,.mapH y9.2.2.2.1 [.u16] true (yI kI TMember.e v11))])) (fun h=>?_) ?_
    ·refine g5 ?_;refine zf h 111 [1,2,10,41,42] [26] (fun⟨v52,v53⟩=>([(43,zC .i64 v52)],[(20521,.mapH y9.2.2.2.1 [.u16] true (yI kI TMember.e v53))])) ?_;rintro N ⟨v52,v53⟩ _ h;refine zK ?_;refine wC rfl (fun hc54=>?_) (fun hc54=>?_)
     ·replace h:=iT hc54 h;refine zY ?_;obtain⟨x55,hy56,h⟩:=yO h;refine xK hy56 ?_;refine zl ?_;refine yF (zO h) 111 [1,2,10,12,41,42,43] [12,26,20521] (fun v57=>([(48,.d (.v (.bool v57)))],[])) (fun h=>?_) ?_
      ·refine g5 ?_;refine xX ?_;refine PQl.split (d:=52) rfl (fun hg58=>?_) (fun hg58=>?_)
       ·replace h:=iT hg58 h;refine xPa ?_;refine jX [1,2,10,12,41,42,43,53,54,55,56,59,60,61,62,63,64,65,66,67,68,69,70,71,72] ?_;refine yW ?_;exact⟨true,(),h,sP⟩
       ·replace h:=iF hg58 h;refine Ys ?_;refine PQl.split (d:=58) rfl (fun hg59=>?_) (fun hg59=>?_)
        ·replace h:=iT hg59 h;refine JR ?_;refine jX [1,2,10,12,41,42,43,53,54,55,56,58,59,60,61,62,63,64,65,66,67,68,69,70,71] ?_;refine yC ?_;exact⟨true,(),h,sP⟩
        ·replace h:=iF hg59 h;refine yC ?_;refine PQl.split (d:=61) rfl (fun hg60=>?_) (fun hg60=>?_)
         ·replace h:=iT hg60 h;refine yC ?_;obtain⟨x61,hy62,h⟩:=yO h;refine vS hy62 ?_;refine WJ ?_;refine jX [1,2,10,12,41,42,43,53,54,55,56,58,59,60,61,62,63,64,65,66,67,68,69,70] ?_;refine xX ?_;exact⟨(decide (x55.dev<=x61.dev)),(),h,sP⟩
         ·replace h:=iF hg60 h;refine yBa ?_;refine jX [1,2,10,12,41,42,43,53,54,55,56,58,59,60,61,62,63,64,65,66,67,68,69,70] ?_;refine xX ?_;exact⟨false,(),h,sP⟩
      ·rintro v57 _ h;refine wC rfl (fun hc63=>?_) (fun hc63=>?_)
       ·replace h:=iT hc63 h;refine zK ?_;refine wX ?_;replace h:(Sum.inl _:Unit⊕(Int×Int×A16×Bool×(List (Int×TMember))))=Sum.inl r0:=h;replace h:=Sum.inl.inj h;subst h;exact yl [8,9] []
       ·replace h:=iF hc63 h;refine g5 ?_;refine yF (zO h) 111 [1,2,10,12,41,42,43] [12,26,20521] (fun v64=>([(73,.d (.v (.bool v64)))],[])) (fun h=>?_) ?_
        ·refine g5 ?_;refine xX ?_;refine PQl.split (d:=77) rfl (fun hg65=>?_) (fun hg65=>?_)
         ·replace h:=iT hg65 h;refine YRa ?_;exact⟨true,(),h,sP⟩
         ·replace h:=iF hg65 h;refine WJ ?_;refine PQl.split (d:=82) rfl (fun hg66=>?_) (fun hg66=>?_)
          ·replace h:=iT hg66 h;refine JR ?_;exact⟨true,(),h,sP⟩
          ·replace h:=iF hg66 h;refine WJ ?_;obtain⟨hy67,h⟩:=zy h;refine qt (fun _ U W=>LR.idxArr underlying65 rfl sizeOf22 U U hy67) ?_;refine qt (fun _ U W=>LR.loadArr .u64 (AR.over y9.2.2.1 tries4) isAgg22 U (W rfl) hy67 rfl) ?_;refine Ys ?_;exact⟨(!decide ((AR.get (AR.over y9.2.2.1 tries4) (Int.toNat x55.slot))=x55.try_)),(),h,sP⟩
        ·rintro v64 _ h;refine wC rfl (fun hc68=>?_) (fun hc68=>?_)
         ·replace h:=iT hc68 h;refine zK ?_;refine wX ?_;replace h:(Sum.inl _:Unit⊕(Int×Int×A16×Bool×(List (Int×TMember))))=Sum.inl r0:=h;replace h:=Sum.inl.inj h;subst h;exact yl [8,9] []
         ·replace h:=iF hc68 h;refine ze ?_;obtain⟨y69,hy70,h⟩:=zV h;refine ZCa [(100,26),(101,20521)] [] [100,101] [] [100,101] (ZE hy70) call126 ?_;refine zl ?_;refine zx [1,2,10,12,14,41,42,43] [12,26,20521] ?_;refine zQ ?_;refine wC rfl (fun hc71=>?_) (fun hc71=>?_)
          ·replace h:=iT hc71 h;refine zK ?_;refine wX ?_;replace h:(Sum.inl _:Unit⊕(Int×Int×A16×Bool×(List (Int×TMember))))=Sum.inl r0:=h;replace h:=Sum.inl.inj h;subst h;exact yl [8,9] []
          ·replace h:=iF hc71 h;refine g5 ?_;refine zx [1,2,10,12,41,42,43] [12,26,20521] ?_;refine PWc.regionE [yf [102] [26],yf [103] [26],yf [104] [26],⟨[105],[],[26],[],[],[20521],[],[]⟩,yf [106] [12],⟨[107],[],[12],[],[],[],[],[]⟩,⟨[108],[],[12],[],[],[],[],[]⟩,⟨[],[20521],[20521],[],[],[],[],[]⟩] (by kernel_rfl) (by kernel_rfl) rfl ?_;refine zKa ?_;obtain⟨hy72,h⟩:=zy h;refine ks (fun _ U W=>LR.setH (eV:=TMember.e) (q:=x55.dev) (v:=x55) (m:=v53) vya underlying148 key148 U (W rfl rfl) U rfl rfl U rfl (fun h=>by cases h) hy72) ?_;refine PQe.nil ?_;refine zG ?_;exact⟨((IntKind.i64.wrap (v52+1)),(AL.set v53 x55.dev x55)),(),h,sP⟩
     ·replace h:=iF hc54 h;refine wZ ?_;exact⟨v53,(),h,sP⟩
    ·rintro v11 _ h;refine zY ?_;refine wX ?_;exact nomatch (show(Sum.inr _:Unit⊕(Int×Int×A16×Bool×(List (Int×TMember))))=Sum.inl r0 from h)
 | inr r0=>
  refine yY [0,1,2,3] func90 ntmps90 ?_;intro ctx hK pv;refine ze ?_;refine yF (zO h) 111 [0,1,2,3] [] (fun v5=>([(25,.d (.v (.bool v5)))],[])) (fun h=>?_) ?_
  ·refine zG ?_;refine wL (d:=17) rfl (fun hg6=>?_) (fun hg6=>?_)
   ·replace h:=iT hg6 h;refine ym ?_;exact⟨true,(),h,sP⟩
   ·replace h:=iF hg6 h;refine zG ?_;refine wL (d:=21) rfl (fun hg7=>?_) (fun hg7=>?_)
    ·replace h:=iT hg7 h;refine zK ?_;exact⟨true,(),h,sP⟩
    ·replace h:=iF hg7 h;refine zK ?_;exact⟨(!decide ((tries4.length:Int)=16)),(),h,sP⟩
  ·rintro v5 _ h;refine wC rfl (fun hc8=>?_) (fun hc8=>?_)
   ·replace h:=iT hc8 h;refine zK ?_;refine wX ?_;exact nomatch (show(Sum.inl _:Unit⊕(Int×Int×A16×Bool×(List (Int×TMember))))=Sum.inr r0 from h)
   ·replace h:=iF hc8 h;refine zQ ?_;obtain⟨y9,hy10,h⟩:=zV h;refine xO [(3,26),(1,20521)] [] [3,1] (YN y9 hy10) call45 ?_;refine zQ ?_;refine zx [0,1,2,3,10] [26,20521] ?_;refine gs19A6 ?_;refine ws (LR.copyArr (ns:=[_,_,_,_,_,_,_,_,_,_,_,_,_,_,_,_,_,_,_]) (L:=tries4) .u64 y9.2.2.1 underlying25 sizeOf22 rfl rfl rfl rfl rfl) ?_;refine zY ?_;refine xd [1,2,10,41,42] [26,20521] ?_;refine zE ?_;refine wq (zO h) 111 [10] [26] (fun v11=>([],[(20521,.mapH y9.2.2.2.1 [.u16] true (yI kI TMember.e v11))])) (fun h=>?_) ?_
    ·refine g5 ?_;refine zf h 111 [1,2,10,41,42] [26] (fun⟨v52,v53⟩=>([(43,zC .i64 v52)],[(20521,.mapH y9.2.2.2.1 [.u16] true (yI kI TMember.e v53))])) ?_;rintro N ⟨v52,v53⟩ _ h;refine zK ?_;refine wC rfl (fun hc54=>?_) (fun hc54=>?_)
     ·replace h:=iT hc54 h;refine zY ?_;obtain⟨x55,hy56,h⟩:=yO h;refine xK hy56 ?_;refine zl ?_;refine yF (zO h) 111 [1,2,10,12,41,42,43] [12,26,20521] (fun v57=>([(48,.d (.v (.bool v57)))],[])) (fun h=>?_) ?_
      ·refine g5 ?_;refine xX ?_;refine PQl.split (d:=52) rfl (fun hg58=>?_) (fun hg58=>?_)
       ·replace h:=iT hg58 h;refine xPa ?_;refine jX [1,2,10,12,41,42,43,53,54,55,56,59,60,61,62,63,64,65,66,67,68,69,70,71,72] ?_;refine yW ?_;exact⟨true,(),h,sP⟩
       ·replace h:=iF hg58 h;refine Ys ?_;refine PQl.split (d:=58) rfl (fun hg59=>?_) (fun hg59=>?_)
        ·replace h:=iT hg59 h;refine JR ?_;refine jX [1,2,10,12,41,42,43,53,54,55,56,58,59,60,61,62,63,64,65,66,67,68,69,70,71] ?_;refine yC ?_;exact⟨true,(),h,sP⟩
        ·replace h:=iF hg59 h;refine yC ?_;refine PQl.split (d:=61) rfl (fun hg60=>?_) (fun hg60=>?_)
         ·replace h:=iT hg60 h;refine yC ?_;obtain⟨x61,hy62,h⟩:=yO h;refine vS hy62 ?_;refine WJ ?_;refine jX [1,2,10,12,41,42,43,53,54,55,56,58,59,60,61,62,63,64,65,66,67,68,69,70] ?_;refine xX ?_;exact⟨(decide (x55.dev<=x61.dev)),(),h,sP⟩
         ·replace h:=iF hg60 h;refine yBa ?_;refine jX [1,2,10,12,41,42,43,53,54,55,56,58,59,60,61,62,63,64,65,66,67,68,69,70] ?_;refine xX ?_;exact⟨false,(),h,sP⟩
      ·rintro v57 _ h;refine wC rfl (fun hc63=>?_) (fun hc63=>?_)
       ·replace h:=iT hc63 h;refine zK ?_;refine wX ?_;exact nomatch (show(Sum.inl _:Unit⊕(Int×Int×A16×Bool×(List (Int×TMember))))=Sum.inr r0 from h)
       ·replace h:=iF hc63 h;refine g5 ?_;refine yF (zO h) 111 [1,2,10,12,41,42,43] [12,26,20521] (fun v64=>([(73,.d (.v (.bool v64)))],[])) (fun h=>?_) ?_
        ·refine g5 ?_;refine xX ?_;refine PQl.split (d:=77) rfl (fun hg65=>?_) (fun hg65=>?_)
         ·replace h:=iT hg65 h;refine YRa ?_;exact⟨true,(),h,sP⟩
         ·replace h:=iF hg65 h;refine WJ ?_;refine PQl.split (d:=82) rfl (fun hg66=>?_) (fun hg66=>?_)
          ·replace h:=iT hg66 h;refine JR ?_;exact⟨true,(),h,sP⟩
          ·replace h:=iF hg66 h;refine WJ ?_;obtain⟨hy67,h⟩:=zy h;refine qt (fun _ U W=>LR.idxArr underlying65 rfl sizeOf22 U U hy67) ?_;refine qt (fun _ U W=>LR.loadArr .u64 (AR.over y9.2.2.1 tries4) isAgg22 U (W rfl) hy67 rfl) ?_;refine Ys ?_;exact⟨(!decide ((AR.get (AR.over y9.2.2.1 tries4) (Int.toNat x55.slot))=x55.try_)),(),h,sP⟩
        ·rintro v64 _ h;refine wC rfl (fun hc68=>?_) (fun hc68=>?_)
         ·replace h:=iT hc68 h;refine zK ?_;refine wX ?_;exact nomatch (show(Sum.inl _:Unit⊕(Int×Int×A16×Bool×(List (Int×TMember))))=Sum.inr r0 from h)
         ·replace h:=iF hc68 h;refine ze ?_;obtain⟨y69,hy70,h⟩:=zV h;refine ZCa [(100,26),(101,20521)] [] [100,101] [] [100,101] (ZE hy70) call126 ?_;refine zl ?_;refine zx [1,2,10,12,14,41,42,43] [12,26,20521] ?_;refine zQ ?_;refine wC rfl (fun hc71=>?_) (fun hc71=>?_)
          ·replace h:=iT hc71 h;refine zK ?_;refine wX ?_;exact nomatch (show(Sum.inl _:Unit⊕(Int×Int×A16×Bool×(List (Int×TMember))))=Sum.inr r0 from h)
          ·replace h:=iF hc71 h;refine g5 ?_;refine zx [1,2,10,12,41,42,43] [12,26,20521] ?_;refine PWc.regionE [yf [102] [26],yf [103] [26],yf [104] [26],⟨[105],[],[26],[],[],[20521],[],[]⟩,yf [106] [12],⟨[107],[],[12],[],[],[],[],[]⟩,⟨[108],[],[12],[],[],[],[],[]⟩,⟨[],[20521],[20521],[],[],[],[],[]⟩] (by kernel_rfl) (by kernel_rfl) rfl ?_;refine zKa ?_;obtain⟨hy72,h⟩:=zy h;refine ks (fun _ U W=>LR.setH (eV:=TMember.e) (q:=x55.dev) (v:=x55) (m:=v53) vya underlying148 key148 U (W rfl rfl) U rfl rfl U rfl (fun h=>by cases h) hy72) ?_;refine PQe.nil ?_;refine zG ?_;exact⟨((IntKind.i64.wrap (v52+1)),(AL.set v53 x55.dev x55)),(),h,sP⟩
     ·replace h:=iF hc54 h;refine wZ ?_;exact⟨v53,(),h,sP⟩
    ·rintro v11 _ h;refine zY ?_;refine wX ?_;replace h:(Sum.inr _:Unit⊕(Int×Int×A16×Bool×(List (Int×TMember))))=Sum.inr r0:=h;replace h:=Sum.inr.inj h;subst h;exact yl [8,9] [26,20521]
theorem yPa{v1 r0}(h:(Wz v1).wp (·=r0)):PFun prog 155 [zC .u64 v1] (.tup [.agg (List.map .d (DT.e r0.1)),.d (.v (.bool r0.2))]):=by
 refine ya [0] func155 ntmps155 ?_;intro ctx hK;refine zl ?_;obtain⟨v2,hy3,h⟩:=zV h;refine xN (zMa hy3) call183 ?_;refine wV ?_;refine ws (LR.build (ns:=[_,_]) um rfl rfl rfl) ?_;refine ze ?_;obtain⟨v4,hy5,h⟩:=zV h;refine xN (YL hy5) call137 ?_;refine zE ?_;refine zD h (fun h=>?_) fun h=>?_
 ·refine zE ?_;refine ws (LR.build (ns:=[_,_]) um rfl rfl rfl) ?_;refine zQ ?_;refine wX ?_;cases h;exact⟨.inr rfl,_,.cons (.agg isAgg101 sizeOf101 rfl rfl rfl rfl)<|.cons (.tmp rfl rfl)<|.nil,rfl⟩
 ·refine ze ?_;refine wX ?_;cases h;exact⟨.inr rfl,_,.cons (.agg isAgg101 sizeOf101 rfl rfl rfl rfl)<|.cons (.tmp rfl rfl)<|.nil,rfl⟩
theorem yQa{f1 r0}(h:(VA f1).wp (·=r0)):PFun prog 156 [zC .u8 f1] (.d (.v (.bool r0))):=by
 refine ya [0] func156 ntmps156 ?_;intro ctx hK;refine zK ?_;refine yF (zO h) 9 [] [] (fun v2=>([(2,.d (.v (.bool v2)))],[])) (fun h=>?_) ?_
 ·refine zG ?_;refine yK 5 h (fun h=>?_) fun h=>?_
  ·refine zK ?_;exact⟨(decide (f1<=5)),(),h,sP⟩
  ·refine zK ?_;exact⟨false,(),h,sP⟩
 ·rintro v2 _ h;refine wX ?_;cases h;exact xT
theorem yRa{s1 r0}(h:(VB s1).wp (·=r0)):PFun prog 157 [.d (.v (.string s1))] (.d (.v (.bool r0))):=by
 refine ya [0] func157 ntmps157 ?_;intro ctx hK;refine vi ?_;refine zD h (fun h=>?_) fun h=>?_
 ·refine zG ?_;refine wX ?_;cases h;exact xT
 ·refine zl ?_;refine wq (zO h) 23 [] [] (fun _=>([],[])) (fun h=>?_) ?_
  ·refine g5 ?_;refine zf h 23 [0,8] [] (fun v20=>([(9,zC .i64 v20)],[])) ?_;rintro N v20 _ h;refine zK ?_;refine zD h (fun h=>?_) fun h=>?_
   ·refine ym ?_;refine yF (zO h) 23 [0,8,9] [] (fun v22=>([(21,.d (.v (.bool v22)))],[])) (fun h=>?_) ?_
    ·refine zQ ?_;obtain⟨b23,hy24,h⟩:=yO h;refine ws (LR.strIdx underlying9 rfl rfl hy24) ?_;refine zE ?_;refine yK 16 h (fun h=>?_) fun h=>?_
     ·refine zY ?_;exact⟨true,(),h,sP⟩
     ·refine zE ?_;obtain⟨b26,hy27,h⟩:=yO h;refine wt (LR.strIdx underlying9 rfl rfl hy27) ?_;refine zQ ?_;exact⟨(decide (126 < b26)),(),h,sP⟩
    ·rintro v22 _ h;refine zD h (fun h=>?_) fun h=>?_
     ·refine zG ?_;refine wX ?_;cases h;exact xT
     ·refine zK ?_;exact⟨(IntKind.i64.wrap (v20+1)),(),h,sP⟩
   ·refine wZ ?_;exact⟨(),(),h,sP⟩
  ·rintro _ _ h;refine zG ?_;refine wX ?_;cases h;exact xT
theorem ySa{l1 r0}(h:(VC l1).wp (·=r0)):PFun prog 158 [zW DT.e l1] (.d (.v (.bool r0))):=by
 refine ya [0] func158 ntmps158 ?_;intro ctx hK;refine vi ?_;refine wq (zO h) 25 [] [] (fun _=>([],[])) (fun h=>?_) ?_
 ·refine g5 ?_;refine zf h 25 [0,5] [] (fun v23=>([(6,zC .i64 v23)],[])) ?_;rintro N v23 _ h;refine zK ?_;refine zD h (fun h=>?_) fun h=>?_
  ·refine ym ?_;refine yF (zO h) 25 [0,5,6] [] (fun v25=>([(23,.d (.v (.bool v25)))],[])) (fun h=>?_) ?_
   ·refine g5 ?_;refine yC ?_;refine vn 11 h (fun h=>?_) fun h=>?_
    ·refine yC ?_;obtain⟨x27,hy28,h⟩:=yO h;refine vS hy28 ?_;refine yC ?_;obtain⟨x29,hy30,h⟩:=yO h;refine vS hy30 ?_;refine h5 ?_;obtain⟨v31,hy32,h⟩:=zV h;refine qt (fun _ U W=>cN (XI hy32) U call76 (Ya (fun a b=>U a b) rfl rfl) rfl rfl rfl) ?_;refine yC ?_;exact⟨(decide (0<=v31)),(),h,sP⟩
    ·refine JR ?_;exact⟨false,(),h,sP⟩
   ·rintro v25 _ h;refine zD h (fun h=>?_) fun h=>?_
    ·refine zG ?_;refine wX ?_;cases h;exact xT
    ·refine zK ?_;exact⟨(IntKind.i64.wrap (v23+1)),(),h,sP⟩
  ·refine wZ ?_;exact⟨(),(),h,sP⟩
 ·rintro _ _ h;refine zG ?_;refine wX ?_;cases h;exact xT
theorem Xq{e1 r0}(h:(Zp e1).wp (·=r0)):PFun prog 113 [.agg (List.map .d (EV.e e1))] (.d (.v (.bool r0))):=by
 refine ya [0] func113 ntmps113 ?_;intro ctx hK;refine wV ?_;obtain⟨v2,hy3,h⟩:=zV h;refine xN (yPa hy3) call155 ?_;refine zl ?_;refine yF (zO h) 72 [1] [1] (fun v4=>([(20,.d (.v (.bool v4)))],[])) (fun h=>?_) ?_
 ·refine zG ?_;refine yK 15 h (fun h=>?_) fun h=>?_
  ·refine zY ?_;exact⟨true,(),h,sP⟩
  ·refine zE ?_;obtain⟨v6,hy7,h⟩:=zV h;refine wt (cN (YL hy7) rfl call137 rfl rfl rfl rfl) ?_;refine zQ ?_;exact⟨(!v6),(),h,sP⟩
 ·rintro v4 _ h;refine zD h (fun h=>?_) fun h=>?_
  ·refine zG ?_;refine wX ?_;cases h;exact xT
  ·refine ze ?_;refine wq (zO h) 72 [1] [1] (fun _=>([],[])) (fun h=>?_) ?_
   ·refine zY ?_;refine zD h (fun h=>?_) fun h=>?_
    ·refine g5 ?_;refine yF (zO h) 72 [1] [1] (fun v10=>([(34,.d (.v (.bool v10)))],[])) (fun h=>?_) ?_
     ·refine zQ ?_;obtain⟨v11,hy12,h⟩:=zV h;refine xN (yQa hy12) call156 ?_;refine zE ?_;refine yK 29 h (fun h=>?_) fun h=>?_
      ·refine zY ?_;exact⟨true,(),h,sP⟩
      ·refine zE ?_;obtain⟨v14,hy15,h⟩:=zV h;refine wt (cN (yRa hy15) rfl call157 rfl rfl rfl rfl) ?_;refine zQ ?_;exact⟨(!v14),(),h,sP⟩
     ·rintro v10 _ h;refine zD h (fun h=>?_) fun h=>?_
      ·refine zG ?_;refine wX ?_;cases h;exact xT
      ·refine g5 ?_;exact⟨(),(),h,sP⟩
    ·refine zK ?_;refine zD h (fun h=>?_) fun h=>?_
     ·refine g5 ?_;refine yF (zO h) 72 [1] [1] (fun v18=>([(44,.d (.v (.bool v18)))],[])) (fun h=>?_) ?_
      ·refine zK ?_;refine yK 40 h (fun h=>?_) fun h=>?_
       ·refine zK ?_;exact⟨true,(),h,sP⟩
       ·refine zK ?_;exact⟨(!decide (e1.text=(⟨#[]⟩:ByteArray))),(),h,sP⟩
      ·rintro v18 _ h;refine zD h (fun h=>?_) fun h=>?_
       ·refine zG ?_;refine wX ?_;cases h;exact xT
       ·refine g5 ?_;exact⟨(),(),h,sP⟩
     ·refine zG ?_;refine wX ?_;cases h;exact xT
   ·rintro _ _ h;refine zE ?_;refine yF (zO h) 72 [1] [1] (fun v21=>([(54,.d (.v (.bool v21)))],[])) (fun h=>?_) ?_
    ·refine zY ?_;refine yK 49 h (fun h=>?_) fun h=>?_
     ·refine zY ?_;exact⟨true,(),h,sP⟩
     ·refine zE ?_;obtain⟨v23,hy24,h⟩:=zV h;refine wt (cN (ySa hy24) rfl call158 rfl rfl rfl rfl) ?_;refine zQ ?_;exact⟨(!v23),(),h,sP⟩
    ·rintro v21 _ h;refine zD h (fun h=>?_) fun h=>?_
     ·refine zG ?_;refine wX ?_;cases h;exact xT
     ·refine ym ?_;refine wq (zO h) 72 [] [] (fun _=>([],[])) (fun h=>?_) ?_
      ·refine g5 ?_;refine zf h 72 [1,56,57] [1] (fun v43=>([(58,zC .i64 v43)],[])) ?_;rintro N v43 _ h;refine zK ?_;refine zD h (fun h=>?_) fun h=>?_
       ·refine zK ?_;obtain⟨x45,hy46,h⟩:=yO h;refine xK hy46 ?_;refine zK ?_;refine yF (zO h) 72 [1,56,57,58] [1] (fun v47=>([(70,.d (.v (.bool v47)))],[])) (fun h=>?_) ?_
        ·refine zE ?_;obtain⟨v48,hy49,h⟩:=zV h;refine xN (YL hy49) call137 ?_;refine zE ?_;refine yK 65 h (fun h=>?_) fun h=>?_
         ·refine zY ?_;exact⟨true,(),h,sP⟩
         ·refine zQ ?_;refine wt (LR.eqlAgg rfl rfl rfl rfl yAa) ?_;refine zE ?_;exact⟨((decide (x45.dev=e1.dot.dev)&&decide (x45.n=e1.dot.n))),(),h,sP⟩
        ·rintro v47 _ h;refine zD h (fun h=>?_) fun h=>?_
         ·refine zG ?_;refine wX ?_;cases h;exact xT
         ·refine zK ?_;exact⟨(IntKind.i64.wrap (v43+1)),(),h,sP⟩
       ·refine wZ ?_;exact⟨(),(),h,sP⟩
      ·rintro _ _ h;refine zG ?_;refine wX ?_;cases h;exact xT
theorem Yd{s1 v2 r0}(h:(wv s1 v2).wp (·=r0)):PFun prog 240 [zW DT.e s1,.agg (List.map .d (DT.e v2))] (zC .i64 r0):=by
 refine ya [0,1] func240 ntmps240 ?_;intro ctx hK;refine qr ?_;refine wq (zO h) 19 [] [] (fun _=>([],[])) (fun h=>?_) ?_
 ·refine g5 ?_;refine zf h 19 [0,3,7] [3] (fun v12=>([(8,zC .i64 v12)],[])) ?_;rintro N v12 _ h;refine zK ?_;refine zD h (fun h=>?_) fun h=>?_
  ·refine wV ?_;refine yC ?_;obtain⟨x14,hy15,h⟩:=yO h;refine yz hy15 ?_;refine h5 ?_;refine qs (fun _ U W=>LR.eqlAgg U U rfl rfl yAa) ?_;refine h5 ?_;refine zD h (fun h=>?_) fun h=>?_
   ·refine zK ?_;refine wX ?_;cases h;exact xT
   ·refine zK ?_;exact⟨(IntKind.i64.wrap (v12+1)),(),h,sP⟩
  ·refine wZ ?_;exact⟨(),(),h,sP⟩
 ·rintro _ _ h;refine zG ?_;refine wX ?_;cases h;exact xT
theorem ZN{s1 v2 r0}(h:(xg s1 v2).wp (·=r0)):PFun prog 216 [zW DT.e s1,.agg (List.map .d (DT.e v2))] (.d (.v (.bool r0))):=by
 refine ya [0,1] func216 ntmps216 ?_;intro ctx hK;refine ym ?_;obtain⟨v3,hy4,h⟩:=zV h;refine xN (Yd hy4) call240 ?_;refine zQ ?_;refine wX ?_;cases h;exact xT
theorem ZOa{l1 d2 r0}(h:(yCa l1 d2).wp (·=r0)):PFun prog 197 [zW DT.e l1,.agg (List.map .d (DT.e d2))] (.d (.v (.bool r0))):=by
 refine ya [0,1] func197 ntmps197 ?_;intro ctx hK;refine ym ?_;obtain⟨v3,hy4,h⟩:=zV h;refine xN (ZN hy4) call216 ?_;refine zE ?_;refine wX ?_;cases h;exact xT
theorem zNa{e1 d2 r0}(h:(UJ e1 d2).wp (·=r0)):PFun prog 172 [.agg (List.map .d (EV.e e1)),.agg (List.map .d (DT.e d2))] (.d (.v (.bool r0))):=by
 refine ya [0,1] func172 ntmps172 ?_;intro ctx hK;refine vi ?_;obtain⟨v3,hy4,h⟩:=zV h;refine xN (ZOa hy4) call197 ?_;refine zE ?_;refine wX ?_;cases h;exact xT
theorem Zi{l1 d2 r0}(h:(ua l1 d2).wp (·=r0)):PFun prog 127 [zW EV.e l1,.agg (List.map .d (DT.e d2))] (.d (.v (.bool r0))):=by
 refine ya [0,1] func127 ntmps127 ?_;intro ctx hK;refine qr ?_;refine wq (zO h) 17 [] [] (fun _=>([],[])) (fun h=>?_) ?_
 ·refine g5 ?_;refine zf h 17 [3,7,8] [3] (fun v16=>([(9,zC .i64 v16)],[])) ?_;rintro N v16 _ h;refine zK ?_;refine zD h (fun h=>?_) fun h=>?_
  ·refine zK ?_;obtain⟨x18,hy19,h⟩:=yO h;refine xK hy19 ?_;refine zl ?_;obtain⟨v20,hy21,h⟩:=zV h;refine xN (zNa hy21) call172 ?_;refine g5 ?_;refine zD h (fun h=>?_) fun h=>?_
   ·refine zG ?_;refine wX ?_;cases h;exact xT
   ·refine zK ?_;exact⟨(IntKind.i64.wrap (v16+1)),(),h,sP⟩
  ·refine wZ ?_;exact⟨(),(),h,sP⟩
 ·rintro _ _ h;refine zG ?_;refine wX ?_;cases h;exact xT
theorem Zj{e1 nl2 m3 r0}(h:(XC e1 nl2 m3).wp (·=r0)):PObj prog 128 [.mp 100,.agg (List.map .d (EV.e e1))] [(100,.mapH nl2 [.u16,.u64] true (yI DT.k EV.e m3))] [] (.mp 100) (fun _:Unit=>[(100,.mapH r0.1 [.u16,.u64] true (yI DT.k EV.e r0.2))]):=by
 refine yY [0,1] func128 ntmps128 ?_;intro ctx hK pv;refine vi ?_;refine wJ (zO h) (fun(v4:List (DT×EV)) (⟨bs5,ck6⟩:List Nat×Nat)=>⟨14,[(  0,.mp 100),(  3,.ref 3 0)],[(  3,.cells 104 [zC .u16 e1.dot.dev,zC .u64 e1.dot.n,zC .u8 e1.kind,zC .u64 e1.cid,zC .u8 e1.field,.d (.v (.string e1.text)),zW DT.e e1.kills]),(100,.map [.u16,.u64] true (yI DT.k EV.e v4) bs5 ck6)]⟩) (fun h=>?_) ?_
 ·refine wC rfl (fun hc7=>?_) (fun hc7=>?_)
  ·replace h:=iT hc7 h;refine PWc.sub (Sub.hT (id:=100) rfl hc7) ?_;refine g5 ?_;refine ws (LR.makeMap [.u16,.u64] true rfl) ?_;refine g5 ?_;refine xd [0,1,3,4,6] [3,7,100] ?_;refine PWl.sub (Sub.moveMap (id1:=100) (id2:=7) (j:=0) rfl rfl rfl rfl) ?_;refine g5 ?_;exact⟨([]:List (DT×EV)),([],0),h,sP⟩
  ·replace h:=iF hc7 h;refine PWc.hF (id:=100) rfl hc7 (fun bs8 ck8=>?_);refine g5 ?_;exact⟨m3,(bs8,ck8),h,sP⟩
 ·rintro v4 ⟨bs5,ck6⟩ h;refine g5 ?_;refine zx [0,3] [3,100] ?_;refine PWc.regionE [yf [8] [100],yf [9] [3],⟨[10],[],[3],[],[],[],[],[]⟩,⟨[11],[],[3],[],[],[],[],[]⟩,{ws:=[12]},⟨[],[100],[100],[],[],[],[],[]⟩] (by kernel_rfl) (by kernel_rfl) rfl ?_;refine xX ?_;obtain⟨v9,hy10,h⟩:=zV h;refine kp (fun _ U W=>cN (Xp hy10) U call123 (Ya (fun a b=>U a b) rfl rfl) rfl rfl rfl) ?_;refine ks (fun _ U W=>LR.setM (eV:=EV.e) (q:=e1.dot) (v:=v9) (m:=v4) DT.k_inj underlying154 key154 U (W rfl rfl) U rfl rfl U rfl (fun h=>by cases h)) ?_;refine PQe.nil ?_;refine zK ?_;refine wX ?_;cases h;exact EndsO.mk () (.inr rfl) (Sub.trans (Sub.toH (id:=100) rfl)<|vJ [4] [100]) (.cons (.tmp rfl)<|.nil) rfl rfl
theorem ut{c1 l2 r0}(h:(YA c1 l2).wp (·=r0)):(match r0 with | .inl r0=>PObj prog 91 [zW PT.e c1,zW EV.e l2] [] [] (.tup [.d (.v (.pointer none)),zC .i64 1]) (fun _:Unit=>[]) | .inr r0=>PObj prog 91 [zW PT.e c1,zW EV.e l2] [] [] (.tup [.ref 12 0,zC .i64 0]) (fun _:Unit=>[(12,.cells 156 [zW PT.e r0.1,.mp 30241,.mp 30242]),(30241,.mapH r0.2.1 [.u16,.u64] true (yI DT.k EV.e r0.2.2.1)),(30242,.mapH r0.2.2.2.1 [.u16,.u64] true (yI DT.k EV.e r0.2.2.2.2))])):=by
 cases r0 with
 | inl r0=>
  refine yY [0,1] func91 ntmps91 ?_;intro ctx hK pv;refine zl ?_;obtain⟨v3,hy4,h⟩:=zV h;refine ws (LR.rowN (uE hy4) rfl call59 rfl rfl rfl rfl)<|PWl.frz [10] hK (.cons rfl<|.nil) rfl (by simp) ?_;refine ws (LR.buildR (ns:=[_,_,_]) z9a rfl rfl rfl) ?_;refine g5 ?_;refine PWl.sub (Sub.ownMap (id:=12) (j:=1) (id':=30241) (ks:=[.u16,.u64]) (ag:=true) (ck:=0) rfl rfl rfl rfl)<|PWl.sub (Sub.ownMap (id:=12) (j:=2) (id':=30242) (ks:=[.u16,.u64]) (ag:=true) (ck:=0) rfl rfl rfl rfl)<|xd [0,1,12] [12,30241,30242] ?_;refine ym ?_;refine wq (zO h) 84 [0,1,6] [12] (fun⟨nl5,v6,nl7,v8⟩=>([],[(30241,.mapH nl7 [.u16,.u64] true (yI DT.k EV.e v8)),(30242,.mapH nl5 [.u16,.u64] true (yI DT.k EV.e v6))])) (fun h=>?_) ?_
  ·refine g5 ?_;refine zf h 84 [0,1,6,13,14] [12] (fun⟨v72,nl73,v74,nl75,v76⟩=>([(15,zC .i64 v72)],[(30241,.mapH nl75 [.u16,.u64] true (yI DT.k EV.e v76)),(30242,.mapH nl73 [.u16,.u64] true (yI DT.k EV.e v74))])) ?_ (hs:=Sub.trans (Sub.nToH (id:=30241) rfl)<|Sub.trans (Sub.nToH (id:=30242) rfl)<|sP);rintro N ⟨v72,nl73,v74,nl75,v76⟩ _ h;refine zK ?_;refine wC rfl (fun hc77=>?_) (fun hc77=>?_)
   ·replace h:=iT hc77 h;refine zE ?_;refine wq (zO h) 84 [0,1,6,13,14,15] [12] (fun⟨nl78,v79,nl80,v81⟩=>([],[(30241,.mapH nl80 [.u16,.u64] true (yI DT.k EV.e v81)),(30242,.mapH nl78 [.u16,.u64] true (yI DT.k EV.e v79))])) (fun h=>?_) ?_
    ·refine zG ?_;obtain⟨x82,hy83,h⟩:=yO h;refine xK hy83 ?_;refine ze ?_;refine yF (zO h) 84 [0,1,6,8,13,14,15] [8,12,30241,30242] (fun v84=>([(49,.d (.v (.bool v84)))],[])) (fun h=>?_) ?_
     ·refine g5 ?_;refine h5 ?_;obtain⟨v85,hy86,h⟩:=zV h;refine qs (fun _ U W=>cN (Xq hy86) U call113 (Ya (fun a b=>U a b) rfl rfl) rfl rfl rfl) ?_;refine yW ?_;refine PQl.split (d:=23) rfl (fun hg87=>?_) (fun hg87=>?_)
      ·replace h:=iT hg87 h;refine xPa ?_;refine jX [0,1,6,8,13,14,15,24,25,26,27,28,29,30,31,32,33,34,35,36,37,39,40,41,42,43] ?_;refine zKa ?_;exact⟨true,(),h,sP⟩
      ·replace h:=iF hg87 h;refine yC ?_;refine PQl.split (d:=26) rfl (fun hg88=>?_) (fun hg88=>?_)
       ·replace h:=iT hg88 h;refine yC ?_;obtain⟨x89,hy90,h⟩:=yO h;refine vS hy90 ?_;refine xX ?_;obtain⟨v91,hy92,h⟩:=zV h;refine qt (fun _ U W=>cN (XI hy92) U call76 (Ya (fun a b=>U a b) rfl rfl) rfl rfl rfl) ?_;refine xX ?_;refine PQl.split (d:=39) rfl (fun hg93=>?_) (fun hg93=>?_)
        ·replace h:=iT hg93 h;refine yW ?_;refine jX [0,1,6,8,13,14,15,24,25,26,27,28,29,30,31,32,33,34,35,36,37,39,40,41] ?_;refine yBa ?_;exact⟨true,(),h,sP⟩
        ·replace h:=iF hg93 h;refine yW ?_;refine jX [0,1,6,8,13,14,15,24,25,26,27,28,29,30,31,32,33,34,35,36,37,39,40,41] ?_;refine yW ?_;refine PQl.split (d:=43) rfl (fun hg94=>?_) (fun hg94=>?_)
         ·replace h:=iT hg94 h;refine yC ?_;obtain⟨v95,hy96,h⟩:=zV h;refine qt (fun _ U W=>cN (Zi hy96) U call127 (Ya (fun a b=>U a b) rfl rfl) rfl rfl rfl) ?_;refine yC ?_;exact⟨v95,(),h,sP⟩
         ·replace h:=iF hg94 h;refine zKa ?_;exact⟨false,(),h,sP⟩
       ·replace h:=iF hg88 h;refine YQa ?_;refine jX [0,1,6,8,13,14,15,24,25,26,27,28,29,30,31,32,33,34,35,36,37,39,40,41,42] ?_;refine h5 ?_;refine PQl.split (d:=43) rfl (fun hg97=>?_) (fun hg97=>?_)
        ·replace h:=iT hg97 h;refine yC ?_;obtain⟨v98,hy99,h⟩:=zV h;refine qt (fun _ U W=>cN (Zi hy99) U call127 (Ya (fun a b=>U a b) rfl rfl) rfl rfl rfl) ?_;refine yC ?_;exact⟨v98,(),h,sP⟩
        ·replace h:=iF hg97 h;refine zKa ?_;exact⟨false,(),h,sP⟩
     ·rintro v84 _ h;refine wC rfl (fun hc100=>?_) (fun hc100=>?_)
      ·replace h:=iT hc100 h;refine zK ?_;refine wX ?_;replace h:(Sum.inl _:Unit⊕(List PT×Bool×(List (DT×EV))×Bool×(List (DT×EV))))=Sum.inl r0:=h;replace h:=Sum.inl.inj h;subst h;exact yl [4,5] []
      ·replace h:=iF hc100 h;refine ze ?_;refine wC rfl (fun hc101=>?_) (fun hc101=>?_)
       ·replace h:=iT hc101 h;refine zx [0,1,6,8,13,14,15] [8,12,30241,30242] ?_;refine PWc.regionE [yf [53] [12],yf [54] [12],yf [55] [12],yf [56] [12],⟨[57],[],[12],[],[],[30241],[],[]⟩,⟨[58],[],[8],[],[],[],[],[]⟩,⟨[57,59],[12,30241],[12,30241,30242],[],[(30241,[57])],[30241],[30242],[12,30241,30242]⟩,yf [60] [12],yf [61] [12],⟨[],[12],[12,30241],[],[],[],[30241,30242],[]⟩] (by kernel_rfl) (by kernel_rfl) rfl ?_;refine Ys ?_;obtain⟨y102,hy103,h⟩:=zV h;refine Vl [(100,30241),(500,12),(501,30242)] [57] [100,500,501] [100,500] [501] (PObj.frame [(500,.cells 156 [zW PT.e v3,.mp 100,.mp 501]),(501,.mapH nl73 [.u16,.u64] true (yI DT.k EV.e v74))] [(500,.cells 156 [zW PT.e v3,.junk,.mp 501]),(501,.mapH nl73 [.u16,.u64] true (yI DT.k EV.e v74))] (Zj hy103) (fun _=>rfl) (fun _=>rfl) rfl rfl (.cons (.cells (.keep rfl<|.junk<|.keep rfl<|.nil))<|.cons (.same rfl)<|.nil)) call128 ?_;refine yW ?_;refine ks (fun _ U W=>sB (ns:=[_,_,_]) sizeOf154 U U rfl rfl (W rfl rfl) rfl rfl)<|PQe.nil ?_;exact⟨(nl73,v74,y102.1,y102.2),(),h,sP⟩
       ·replace h:=iF hc101 h;refine zx [0,1,6,8,13,14,15] [8,12,30241,30242] ?_;refine PWc.regionE [yf [62] [12],yf [63] [12],yf [64] [12],yf [65] [12],⟨[66],[],[12],[],[],[30242],[],[]⟩,⟨[67],[],[8],[],[],[],[],[]⟩,⟨[66,68],[12,30242],[12,30241,30242],[],[(30242,[66])],[30242],[30241],[12,30241,30242]⟩,yf [69] [12],yf [70] [12],⟨[],[12],[12,30242],[],[],[],[30241,30242],[]⟩] (by kernel_rfl) (by kernel_rfl) rfl ?_;refine Ys ?_;obtain⟨y104,hy105,h⟩:=zV h;refine Vl [(100,30242),(500,12),(501,30241)] [66] [100,500,501] [100,500] [501] (PObj.frame [(500,.cells 156 [zW PT.e v3,.mp 501,.mp 100]),(501,.mapH nl75 [.u16,.u64] true (yI DT.k EV.e v76))] [(500,.cells 156 [zW PT.e v3,.mp 501,.junk]),(501,.mapH nl75 [.u16,.u64] true (yI DT.k EV.e v76))] (Zj hy105) (fun _=>rfl) (fun _=>rfl) rfl rfl (.cons (.cells (.keep rfl<|.keep rfl<|.junk<|.nil))<|.cons (.same rfl)<|.nil)) call128 ?_;refine yW ?_;refine ks (fun _ U W=>sB (ns:=[_,_,_]) sizeOf154 U U rfl rfl (W rfl rfl) rfl rfl)<|PQe.nil ?_;exact⟨(y104.1,y104.2,nl75,v76),(),h,sP⟩
    ·rintro⟨nl78,v79,nl80,v81⟩ _ h;refine zG ?_;exact⟨((IntKind.i64.wrap (v72+1)),nl78,v79,nl80,v81),(),h,sP⟩
   ·replace h:=iF hc77 h;refine wZ ?_;exact⟨(nl73,v74,nl75,v76),(),h,sP⟩
  ·rintro⟨nl5,v6,nl7,v8⟩ _ h;refine zE ?_;refine yF (zO h) 84 [6] [12,30241,30242] (fun v106=>([(82,.d (.v (.bool v106)))],[])) (fun h=>?_) ?_
   ·refine zE ?_;obtain⟨v107,hy108,h⟩:=zV h;refine xN (YK hy108) call74 ?_;refine zE ?_;refine wL (d:=75) rfl (fun hg109=>?_) (fun hg109=>?_)
    ·replace h:=iT hg109 h;refine zl ?_;exact⟨true,(),h,sP⟩
    ·replace h:=iF hg109 h;refine g5 ?_;obtain⟨v110,hy111,h⟩:=zV h;refine wt (LR.rowN (jA hy111) rfl call130 rfl rfl rfl rfl) ?_;refine g5 ?_;obtain⟨v112,hy113,h⟩:=zV h;refine PWl.frz [77] hK (.cons rfl<|.nil) rfl (by simp) ?_;refine wt (LR.rowN (Uz hy113) rfl call129 rfl rfl rfl rfl) ?_;refine zG ?_;exact⟨(decide (0 < (v112.length:Int))),(),h,sP⟩
   ·rintro v106 _ h;refine wC rfl (fun hc114=>?_) (fun hc114=>?_)
    ·replace h:=iT hc114 h;refine zK ?_;refine wX ?_;replace h:(Sum.inl _:Unit⊕(List PT×Bool×(List (DT×EV))×Bool×(List (DT×EV))))=Sum.inl r0:=h;replace h:=Sum.inl.inj h;subst h;exact yl [4,5] []
    ·replace h:=iF hc114 h;refine ze ?_;refine wX ?_;exact nomatch (show(Sum.inr _:Unit⊕(List PT×Bool×(List (DT×EV))×Bool×(List (DT×EV))))=Sum.inl r0 from h)
 | inr r0=>
  refine yY [0,1] func91 ntmps91 ?_;intro ctx hK pv;refine zl ?_;obtain⟨v3,hy4,h⟩:=zV h;refine ws (LR.rowN (uE hy4) rfl call59 rfl rfl rfl rfl)<|PWl.frz [10] hK (.cons rfl<|.nil) rfl (by simp) ?_;refine ws (LR.buildR (ns:=[_,_,_]) z9a rfl rfl rfl) ?_;refine g5 ?_;refine PWl.sub (Sub.ownMap (id:=12) (j:=1) (id':=30241) (ks:=[.u16,.u64]) (ag:=true) (ck:=0) rfl rfl rfl rfl)<|PWl.sub (Sub.ownMap (id:=12) (j:=2) (id':=30242) (ks:=[.u16,.u64]) (ag:=true) (ck:=0) rfl rfl rfl rfl)<|xd [0,1,12] [12,30241,30242] ?_;refine ym ?_;refine wq (zO h) 84 [0,1,6] [12] (fun⟨nl5,v6,nl7,v8⟩=>([],[(30241,.mapH nl7 [.u16,.u64] true (yI DT.k EV.e v8)),(30242,.mapH nl5 [.u16,.u64] true (yI DT.k EV.e v6))])) (fun h=>?_) ?_
  ·refine g5 ?_;refine zf h 84 [0,1,6,13,14] [12] (fun⟨v72,nl73,v74,nl75,v76⟩=>([(15,zC .i64 v72)],[(30241,.mapH nl75 [.u16,.u64] true (yI DT.k EV.e v76)),(30242,.mapH nl73 [.u16,.u64] true (yI DT.k EV.e v74))])) ?_ (hs:=Sub.trans (Sub.nToH (id:=30241) rfl)<|Sub.trans (Sub.nToH (id:=30242) rfl)<|sP);rintro N ⟨v72,nl73,v74,nl75,v76⟩ _ h;refine zK ?_;refine wC rfl (fun hc77=>?_) (fun hc77=>?_)
   ·replace h:=iT hc77 h;refine zE ?_;refine wq (zO h) 84 [0,1,6,13,14,15] [12] (fun⟨nl78,v79,nl80,v81⟩=>([],[(30241,.mapH nl80 [.u16,.u64] true (yI DT.k EV.e v81)),(30242,.mapH nl78 [.u16,.u64] true (yI DT.k EV.e v79))])) (fun h=>?_) ?_
    ·refine zG ?_;obtain⟨x82,hy83,h⟩:=yO h;refine xK hy83 ?_;refine ze ?_;refine yF (zO h) 84 [0,1,6,8,13,14,15] [8,12,30241,30242] (fun v84=>([(49,.d (.v (.bool v84)))],[])) (fun h=>?_) ?_
     ·refine g5 ?_;refine h5 ?_;obtain⟨v85,hy86,h⟩:=zV h;refine qs (fun _ U W=>cN (Xq hy86) U call113 (Ya (fun a b=>U a b) rfl rfl) rfl rfl rfl) ?_;refine yW ?_;refine PQl.split (d:=23) rfl (fun hg87=>?_) (fun hg87=>?_)
      ·replace h:=iT hg87 h;refine xPa ?_;refine jX [0,1,6,8,13,14,15,24,25,26,27,28,29,30,31,32,33,34,35,36,37,39,40,41,42,43] ?_;refine zKa ?_;exact⟨true,(),h,sP⟩
      ·replace h:=iF hg87 h;refine yC ?_;refine PQl.split (d:=26) rfl (fun hg88=>?_) (fun hg88=>?_)
       ·replace h:=iT hg88 h;refine yC ?_;obtain⟨x89,hy90,h⟩:=yO h;refine vS hy90 ?_;refine xX ?_;obtain⟨v91,hy92,h⟩:=zV h;refine qt (fun _ U W=>cN (XI hy92) U call76 (Ya (fun a b=>U a b) rfl rfl) rfl rfl rfl) ?_;refine xX ?_;refine PQl.split (d:=39) rfl (fun hg93=>?_) (fun hg93=>?_)
        ·replace h:=iT hg93 h;refine yW ?_;refine jX [0,1,6,8,13,14,15,24,25,26,27,28,29,30,31,32,33,34,35,36,37,39,40,41] ?_;refine yBa ?_;exact⟨true,(),h,sP⟩
        ·replace h:=iF hg93 h;refine yW ?_;refine jX [0,1,6,8,13,14,15,24,25,26,27,28,29,30,31,32,33,34,35,36,37,39,40,41] ?_;refine yW ?_;refine PQl.split (d:=43) rfl (fun hg94=>?_) (fun hg94=>?_)
         ·replace h:=iT hg94 h;refine yC ?_;obtain⟨v95,hy96,h⟩:=zV h;refine qt (fun _ U W=>cN (Zi hy96) U call127 (Ya (fun a b=>U a b) rfl rfl) rfl rfl rfl) ?_;refine yC ?_;exact⟨v95,(),h,sP⟩
         ·replace h:=iF hg94 h;refine zKa ?_;exact⟨false,(),h,sP⟩
       ·replace h:=iF hg88 h;refine YQa ?_;refine jX [0,1,6,8,13,14,15,24,25,26,27,28,29,30,31,32,33,34,35,36,37,39,40,41,42] ?_;refine h5 ?_;refine PQl.split (d:=43) rfl (fun hg97=>?_) (fun hg97=>?_)
        ·replace h:=iT hg97 h;refine yC ?_;obtain⟨v98,hy99,h⟩:=zV h;refine qt (fun _ U W=>cN (Zi hy99) U call127 (Ya (fun a b=>U a b) rfl rfl) rfl rfl rfl) ?_;refine yC ?_;exact⟨v98,(),h,sP⟩
        ·replace h:=iF hg97 h;refine zKa ?_;exact⟨false,(),h,sP⟩
     ·rintro v84 _ h;refine wC rfl (fun hc100=>?_) (fun hc100=>?_)
      ·replace h:=iT hc100 h;refine zK ?_;refine wX ?_;exact nomatch (show(Sum.inl _:Unit⊕(List PT×Bool×(List (DT×EV))×Bool×(List (DT×EV))))=Sum.inr r0 from h)
      ·replace h:=iF hc100 h;refine ze ?_;refine wC rfl (fun hc101=>?_) (fun hc101=>?_)
       ·replace h:=iT hc101 h;refine zx [0,1,6,8,13,14,15] [8,12,30241,30242] ?_;refine PWc.regionE [yf [53] [12],yf [54] [12],yf [55] [12],yf [56] [12],⟨[57],[],[12],[],[],[30241],[],[]⟩,⟨[58],[],[8],[],[],[],[],[]⟩,⟨[57,59],[12,30241],[12,30241,30242],[],[(30241,[57])],[30241],[30242],[12,30241,30242]⟩,yf [60] [12],yf [61] [12],⟨[],[12],[12,30241],[],[],[],[30241,30242],[]⟩] (by kernel_rfl) (by kernel_rfl) rfl ?_;refine Ys ?_;obtain⟨y102,hy103,h⟩:=zV h;refine Vl [(100,30241),(500,12),(501,30242)] [57] [100,500,501] [100,500] [501] (PObj.frame [(500,.cells 156 [zW PT.e v3,.mp 100,.mp 501]),(501,.mapH nl73 [.u16,.u64] true (yI DT.k EV.e v74))] [(500,.cells 156 [zW PT.e v3,.junk,.mp 501]),(501,.mapH nl73 [.u16,.u64] true (yI DT.k EV.e v74))] (Zj hy103) (fun _=>rfl) (fun _=>rfl) rfl rfl (.cons (.cells (.keep rfl<|.junk<|.keep rfl<|.nil))<|.cons (.same rfl)<|.nil)) call128 ?_;refine yW ?_;refine ks (fun _ U W=>sB (ns:=[_,_,_]) sizeOf154 U U rfl rfl (W rfl rfl) rfl rfl)<|PQe.nil ?_;exact⟨(nl73,v74,y102.1,y102.2),(),h,sP⟩
       ·replace h:=iF hc101 h;refine zx [0,1,6,8,13,14,15] [8,12,30241,30242] ?_;refine PWc.regionE [yf [62] [12],yf [63] [12],yf [64] [12],yf [65] [12],⟨[66],[],[12],[],[],[30242],[],[]⟩,⟨[67],[],[8],[],[],[],[],[]⟩,⟨[66,68],[12,30242],[12,30241,30242],[],[(30242,[66])],[30242],[30241],[12,30241,30242]⟩,yf [69] [12],yf [70] [12],⟨[],[12],[12,30242],[],[],[],[30241,30242],[]⟩] (by kernel_rfl) (by kernel_rfl) rfl ?_;refine Ys ?_;obtain⟨y104,hy105,h⟩:=zV h;refine Vl [(100,30242),(500,12),(501,30241)] [66] [100,500,501] [100,500] [501] (PObj.frame [(500,.cells 156 [zW PT.e v3,.mp 501,.mp 100]),(501,.mapH nl75 [.u16,.u64] true (yI DT.k EV.e v76))] [(500,.cells 156 [zW PT.e v3,.mp 501,.junk]),(501,.mapH nl75 [.u16,.u64] true (yI DT.k EV.e v76))] (Zj hy105) (fun _=>rfl) (fun _=>rfl) rfl rfl (.cons (.cells (.keep rfl<|.keep rfl<|.junk<|.nil))<|.cons (.same rfl)<|.nil)) call128 ?_;refine yW ?_;refine ks (fun _ U W=>sB (ns:=[_,_,_]) sizeOf154 U U rfl rfl (W rfl rfl) rfl rfl)<|PQe.nil ?_;exact⟨(y104.1,y104.2,nl75,v76),(),h,sP⟩
    ·rintro⟨nl78,v79,nl80,v81⟩ _ h;refine zG ?_;exact⟨((IntKind.i64.wrap (v72+1)),nl78,v79,nl80,v81),(),h,sP⟩
   ·replace h:=iF hc77 h;refine wZ ?_;exact⟨(nl73,v74,nl75,v76),(),h,sP⟩
  ·rintro⟨nl5,v6,nl7,v8⟩ _ h;refine zE ?_;refine yF (zO h) 84 [6] [12,30241,30242] (fun v106=>([(82,.d (.v (.bool v106)))],[])) (fun h=>?_) ?_
   ·refine zE ?_;obtain⟨v107,hy108,h⟩:=zV h;refine xN (YK hy108) call74 ?_;refine zE ?_;refine wL (d:=75) rfl (fun hg109=>?_) (fun hg109=>?_)
    ·replace h:=iT hg109 h;refine zl ?_;exact⟨true,(),h,sP⟩
    ·replace h:=iF hg109 h;refine g5 ?_;obtain⟨v110,hy111,h⟩:=zV h;refine wt (LR.rowN (jA hy111) rfl call130 rfl rfl rfl rfl) ?_;refine g5 ?_;obtain⟨v112,hy113,h⟩:=zV h;refine PWl.frz [77] hK (.cons rfl<|.nil) rfl (by simp) ?_;refine wt (LR.rowN (Uz hy113) rfl call129 rfl rfl rfl rfl) ?_;refine zG ?_;exact⟨(decide (0 < (v112.length:Int))),(),h,sP⟩
   ·rintro v106 _ h;refine wC rfl (fun hc114=>?_) (fun hc114=>?_)
    ·replace h:=iT hc114 h;refine zK ?_;refine wX ?_;exact nomatch (show(Sum.inl _:Unit⊕(List PT×Bool×(List (DT×EV))×Bool×(List (DT×EV))))=Sum.inr r0 from h)
    ·replace h:=iF hc114 h;refine ze ?_;refine wX ?_;replace h:(Sum.inr _:Unit⊕(List PT×Bool×(List (DT×EV))×Bool×(List (DT×EV))))=Sum.inr r0:=h;replace h:=Sum.inr.inj h;subst h;exact yl [4,5] [12,30241,30242]
theorem Wj  (r0:Bool×(List ((Int×Int)×List RN))) (h:(WU ).wp (·=r0)):PObj prog 46 [] [] [] (.ref 2 0) (fun _:Unit=>[(2,.cells 153 [.mp 30040]),(30040,.mapH r0.1 [.u16,.u16] false (yI kP (eL RN.e) r0.2))]):=by
 refine yY [] func46 ntmps46 ?_;intro ctx hK pv;refine zY ?_;refine ws (LR.buildR (ns:=[_]) build153 rfl rfl rfl) ?_;refine g5 ?_;refine PWl.sub (Sub.ownMap (id:=2) (j:=0) (id':=30040) (ks:=[.u16,.u16]) (ag:=false) (ck:=0) rfl rfl rfl rfl) ?_;refine zE ?_;refine wX ?_;cases h;exact EndsO.mk () (.inr rfl) (Sub.trans (Sub.nToH (id:=30040) rfl)<|vJ [0] [2,30040]) (.cons (.tmp rfl)<|.nil) rfl rfl
theorem Yn{who1 nl2 m3 r0}(h:(vT who1 nl2 m3).wp (·=r0)):PObj prog 131 [.ref 100 0,zC .u16 who1] [(100,.cells 153 [.mp 101]),(101,.mapH nl2 [.u16,.u16] false (yI kP (eL RN.e) m3))] [100,101] (.d (.v (.bool r0))) (fun _:Unit=>[(100,.cells 153 [.mp 101]),(101,.mapH nl2 [.u16,.u16] false (yI kP (eL RN.e) m3))]):=by
 refine yY [0,1] func131 ntmps131 ?_;intro ctx hK pv;refine wV ?_;refine PWc.condF rfl ?_;refine zl ?_;refine ws (LR.build (ns:=[_,_]) v6a rfl rfl rfl)<|ws (LR.getOkH (eV:=(eL RN.e)) (zv:=([]:List RN)) (q:=(who1,0)) (m:=m3) kP_inj underlying151 key151 zeroValue97 (zRd1 (.slice none 0 0) rfl) rfl rfl rfl rfl rfl rfl) ?_;refine vi ?_;refine wX ?_;cases h;exact yl [4] [100,101,1100,1101]
theorem YO{who1 dev2 l3 nl4 m5 r0}(h:(xL who1 dev2 l3 nl4 m5).wp (·=r0)):PObj prog 132 [.ref 100 0,zC .u16 who1,zC .u16 dev2,zW RN.e l3] [(100,.cells 153 [.mp 101]),(101,.mapH nl4 [.u16,.u16] false (yI kP (eL RN.e) m5))] [100] (.tup []) (fun _:Unit=>[(100,.cells 153 [.mp 101]),(101,.mapH r0.1 [.u16,.u16] false (yI kP (eL RN.e) r0.2))]):=by
 refine yY [0,1,2,3] func132 ntmps132 ?_;intro ctx hK pv;refine ym ?_;refine wJ (zO h) (fun(v6:List ((Int×Int)×List RN)) (⟨bs7,ck8⟩:List Nat×Nat)=>⟨25,[(  0,.ref 100 0),(  1,zC .u16 who1),(  2,zC .u16 dev2),(  3,zW RN.e l3)],[(  100,.cells 153 [.mp 101]),(101,.map [.u16,.u16] false (yI kP (eL RN.e) v6) bs7 ck8),(  1100,.pin 100 (pv 100))]⟩) (fun h=>?_) ?_
 ·refine wC rfl (fun hc9=>?_) (fun hc9=>?_)
  ·replace h:=iT hc9 h;refine PWc.sub (Sub.hT (id:=101) rfl hc9) ?_;refine zE ?_;refine ws (LR.makeMap [.u16,.u16] false rfl) ?_;refine zG ?_;exact⟨([]:List ((Int×Int)×List RN)),([],0),h,Sub.trans (Sub.rnm [(101,14)] (tl:=[(0,.ref 100 0),(1,zC .u16 who1),(2,zC .u16 dev2),(3,zW RN.e l3)]) (to:=[(100,.cells 153 [.mp 101]),(101,.map [.u16,.u16] false (yI kP (eL RN.e) (([]:List ((Int×Int)×List RN)))) ([]) 0),(1100,.pin 100 (pv 100))]) rfl (by repeat' first | constructor | (congr 1;first | (simp;done) | (simp;omega) | omega)) (by repeat' first | constructor | (congr 1;first | (simp;done) | (simp;omega) | omega)) rfl)<|sP⟩
  ·replace h:=iF hc9 h;refine PWc.hF (id:=101) rfl hc9 (fun bs10 ck10=>?_);refine g5 ?_;exact⟨m5,(bs10,ck10),h,sP⟩
 ·rintro v6 ⟨bs7,ck8⟩ h;refine ze ?_;refine ws (LR.build (ns:=[_,_]) v6a rfl rfl rfl) ?_;refine g5 ?_;refine ws (LR.setM (eV:=(eL RN.e)) (q:=(who1,dev2)) (v:=l3) (m:=v6) kP_inj underlying151 key151 rfl rfl rfl rfl rfl rfl rfl (fun _=>rfl)) ?_;refine g5 ?_;cases h;exact EndsO.mk () (.inl rfl) (Sub.trans (Sub.toH (id:=101) rfl)<|vJ [] [100,101,1100]) (.nil) rfl rfl
end Go.Proofs
