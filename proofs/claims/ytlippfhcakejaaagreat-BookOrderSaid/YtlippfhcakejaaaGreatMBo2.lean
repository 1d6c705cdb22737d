/- Side texts. -/
import GoSem.Core.View
import Derived.WalkSpells
import Derived.Test.YtlippfhcakejaaaGreatProg
import Derived.KernelRfl
import Derived.Test.YtlippfhcakejaaaGreatMBo1
set_option linter.unusedVariables false
set_option linter.unusedSimpArgs false
namespace Go.Ep
open Go.RowKit

structure SortLaw {α:Type} (P:Program) (f g:FuncId) (k:Nat) (enc:α -> List Value) (lt:α -> α -> Bool):Prop where
 nil:∀ w:World,Calls P f #[.slice none 0 0,.func (.func g) #[] #[]] w fun e w'=>e = .returned (.tuple #[]) /\ Below w.heap.size w w'
 row:∀ (w:World) (blk cap:Nat) (l:List α) (T:TypeId) (cur:List Value),w.heap[blk]? = some (.cells cur.toArray T (0,0)) -> l.length <= cap -> cur.length = cap * k -> l.length < 4611686018427387904 ->
  (∀ (i:Nat) (x:α) (j:Nat) (u:Value),l[i]? = some x -> (enc x)[j]? = some u -> cur[i * k + j]? = some u) ->
  Calls P f #[.slice (some ⟨blk,0,none⟩) l.length cap,.func (.func g) #[] #[]] w fun e w'=>e = .returned (.tuple #[]) /\ ∃ (l':List α) (cur':List Value),l'.Perm l /\ l'.Pairwise (fun x y=>lt y x = false) /\
   w'.heap[blk]? = some (.cells cur'.toArray T (0,0)) /\ cur'.length = cur.length /\ (∀ (i:Nat) (x:α) (j:Nat) (u:Value),l'[i]? = some x -> (enc x)[j]? = some u -> cur'[i * k + j]? = some u) /\
   w'.os = w.os /\ w'.tape = w.tape /\ w'.output = w.output /\ w.heap.size <= w'.heap.size /\ ∀ b,b < w.heap.size -> b ≠ blk -> w'.heap[b]? = w.heap[b]?

section
variable {P:Program} {ctx:Ctx} {Q:PQ} {s:PState}
variable {dst:Option Tmp} {ty:TypeId} {pos:String} {after:Array Edge} {gd:Option (Nat × Bool)}

theorem PWl.sortFn {α:Type} {ops:Array Oper} {rest:List Oper} {id n k:Nat} {e:TypeId} {fx x gx:Operand} {ats:Array TypeId} {f g:FuncId} {enc:α -> List Value} {encD:α -> List DV} {lt:α -> α -> Bool} {l:List α} (hS:SortLaw P f g k enc lt)
  (henc:∀ y,encD y = (enc y).map .v) (h1:∀ y,∀ u ∈ enc y,u.oneCell' = true) (hk:∀ y,(enc y).length = k) (hfx:s.ev fx = some (.d (.v (.func (.func f) #[] #[])))) (he:∀ args w,(callFunc f args).run P w = .ok (.enter f args) w) (hx:s.ev x = some (.row id n)) (hgx:s.ev gx = some (.d (.v (.func (.func g) #[] #[]))))
  (hl:look s.objs id = some (.row e k (l.map encD))) (hn:l.length = n) (hlen:l.length < 4611686018427387904) (hgd:gd = none)
  (h:∀ l':List α,l'.Perm l -> l'.Pairwise (fun x y=>lt y x = false) -> PWl P ctx ops Q rest ((s.setO id (.row e k (l'.map encD))).putD dst (.tup []))) :
  PWl P ctx ops Q (⟨dst,.call ⟨.value fx,#[x,gx],ats⟩,ty,pos,after,gd⟩ :: rest) s:=by
 rintro a w ⟨gh,hg⟩;refine wpList_plain hgd fun K hK=>?_
 have hxv:=hg.ev hx;have hob:=hg.objs id _ hl;unfold Oper.wp;rw [vt (o:=⟨dst,.call ⟨.value fx,#[x,gx],ats⟩,ty,pos,after,gd⟩) rfl (VS hg hfx) he w]
 generalize hv:a.eval x = v at hxv
 have hargs:(#[x,gx]:Array Operand).map a.eval = #[v,.func (.func g) #[] #[]]:=by simp [hv,VS hg hgx]
 rw [hargs]
 generalize hL:l.map encD = L at hob
 cases hob with
 | rowNil _ _ hgn=>
  have hl0:l = []:=by simpa using hL
  subst hl0
  cases hxv with
  | row _ _ blk cap hgi=>rw [hgn] at hgi;cases hgi
  | rowNil=>
   refine (hS.nil w).mono fun en w' ⟨hen,hb⟩=>?_
   subst hen;have hsub:Sub ctx s (s.setO id (.row e k ([].map encD))):=Sub.drop rfl (fun i p hp=>hp) (fun j o hj=>by
    simp only [PState.setO,zC] at hj
    split at hj
    ·rename_i ej;subst ej;cases hj;rw [hl]
    ·exact hj)
   obtain ⟨g2,hg2⟩:=hsub a w' ⟨gh,hg.below hb⟩;exact hK _ _ (h [] (List.Perm.refl _) List.Pairwise.nil _ _ ⟨g2,hg2.put dst (.tup [] [] rfl (by simp))⟩)
 | row _ _ _ blk' cap' cur hgi hh hlc hcap hcs hkk hr'=>
  cases hxv with
  | rowNil _ hgn=>rw [hgn] at hgi;cases hgi
  | row _ _ blk cap hgi'=>
   rw [hgi] at hgi'
   cases hgi'
   subst hL;subst hn;have hcells:∀ (i:Nat) (y:α) (j:Nat) (u:Value),l[i]? = some y -> (enc y)[j]? = some u -> cur[i * k + j]? = some u:=by
    intro i y j u hi hu;obtain ⟨v,hv1,hv2⟩:=hr' i (encD y) j (.v u) (by simp [hi]) (by rw [henc];simp [hu])
    cases hv2 with
    | v _ _=>exact hv1
   refine (hS.row w blk' cap' l e cur hh (by simpa using hlc) hcs hlen hcells).mono fun en w' ⟨hen,l',cur',hperm,hsort,hh',hcl,hc',hos,htape,hout,hsz,hother⟩=>?_
   subst hen;have hown:=hg.own id _ blk' cap' hl hgi;have hst:yH w w' (zZ ctx gh s.objs):=⟨hsz,fun b ⟨_,h2⟩ hlt=>hother b hlt fun eb=>by subst eb;exact h2 id _ cap' hl hgi⟩
   have hpl:l'.length = l.length:=hperm.length_eq;have hwr:=hg.wrote hl hgi (w':=w') hos htape hout hsz hother hown.2 (ob:=.row e k (l'.map encD)) (.row e k _ blk' cap' cur' hgi hh' (by simpa [hpl] using hlc) hcap (by rw [hcl];exact hcs)
    (fun i cs hi=>by
     rw [List.getElem?_map] at hi
     cases hy:l'[i]? with
     | none=>simp [hy] at hi
     | some y=>simp [hy] at hi;subst hi;rw [henc];simp [hk])
    (fun i cs j d hi hd=>by
     rw [List.getElem?_map] at hi
     cases hy:l'[i]? with
     | none=>simp [hy] at hi
     | some y=>
      simp [hy] at hi;subst hi;rw [henc,List.getElem?_map] at hd
      cases hu:(enc y)[j]? with
      | none=>simp [hu] at hd
      | some u=>simp [hu] at hd;subst hd;exact ⟨u,hc' i y j u hy hu,.v u (h1 y u (List.mem_of_getElem? hu))⟩))
   exact hK _ _ (h l' hperm hsort _ _ ⟨gh,hwr.put dst (.tup [] [] rfl (by simp))⟩)
end
end Go.Ep

namespace Go.Ep
open Go.RowKit

section
variable {P:Program} {ctx:Ctx} {Q:PQ} {s:PState}
variable {dst:Option Tmp} {ty:TypeId} {pos:String} {after:Array Edge} {gd:Option (Nat × Bool)}

abbrev pNil : PV:=.d (.v (.slice none 0 0))

theorem LR.capNil {x:Operand} {t e:TypeId} (hu:P.underlying t = some (.slice e)) (hx:s.ev x = some pNil) :
  Local P ctx ⟨dst,.call ⟨.builtin .cap,#[x],#[t]⟩,ty,pos,after,gd⟩ s (s.putD dst (.d (.v (.int .i64 0)))):=
 zD (o:=⟨dst,.call ⟨.builtin .cap,#[x],#[t]⟩,ty,pos,after,gd⟩) fun a w g hg=>⟨.int .i64 0,by
  simp [execOp,resolve,invoke,builtin,VS hg hx,Builtin.cap_,run_underlying hu,Result.andThen,goInt],.d (.v _ rfl)⟩
theorem LR.lenNil {x:Operand} {t e:TypeId} (hu:P.underlying t = some (.slice e)) (hx:s.ev x = some pNil) :
  Local P ctx ⟨dst,.call ⟨.builtin .len,#[x],#[t]⟩,ty,pos,after,gd⟩ s (s.putD dst (.d (.v (.int .i64 0)))):=
 zD (o:=⟨dst,.call ⟨.builtin .len,#[x],#[t]⟩,ty,pos,after,gd⟩) fun a w g hg=>⟨.int .i64 0,by
  simp [execOp,resolve,invoke,builtin,VS hg hx,Builtin.len_,run_underlying hu,Result.andThen,goInt],.d (.v _ rfl)⟩
theorem LR.sliceNil {x hi:Operand} {t e k:Nat} {kx:IntKind} (hu:P.underlying t = some (.slice e)) (hs:∀ w,(sizeOf e).run P w = .ok k w) (hx:s.ev x = some pNil) (hh:s.ev hi = some (.d (.v (.int kx 0)))) :
  Local P ctx ⟨dst,.slice t x none (some hi) none,ty,pos,after,gd⟩ s (s.putD dst pNil):=
 zD (o:=⟨dst,.slice t x none (some hi) none,ty,pos,after,gd⟩) fun a w g hg=>⟨.slice none 0 0,by
  simp [execOp,VS hg hx,wb hg hh,Instr.sliceAt,Instr.slice,Instr.sliceBounds,run_underlying hu,hs,yh (P:=P) (show (0:Int) = (0:Nat) from rfl) (show 0 <= 0 from Nat.le_refl _),Result.andThen],.d (.v _ rfl)⟩

theorem WQ (w:World) (t ti ty e:TypeId) (i:TypeInfo) (z:Value) (hu:P.underlying t = some (.slice e)) (hti:P.underlying ti = some (.int .i64)) (hi:P.info? e = some i) (hz:i.zero = some z) (n:Nat) (h0:0 < n) (h63:(n:Int) <= 9223372036854775807) (h48:n * i.bytes <= 281474976710656) (hsz:i.size = z.cells.size) :
  (Builtin.append_ #[t,ti] ty #[.slice none 0 0,.int .i64 n]).run P w = .ok (.slice (some ⟨w.heap.size,0,none⟩) n (grownCap w n 0 e)) (w.drew.alloc (.cells (Builtin.zeroCells z.cells n ++ Builtin.zeroCells z.cells (grownCap w n 0 e - n)) e)):=by
 have hn:n ≠ 0:=by omega
 have h63':¬ (9223372036854775807 < (n:Int)):=by omega
 have h48':¬ (281474976710656 < Builtin.nextslicecap n 0 * i.bytes):=by rw [nextslicecap_zero h0];omega
 have hw:IntKind.i64.wrap (n:Int) = n:=Jp (by omega) h63;have hneg:¬ ((n:Int) < 0):=by omega
 have h48i:¬ (281474976710656 < (n:Int) * (i.bytes:Int)):=by
  rw [<- Int.natCast_mul];omega
 by_cases hk:n * i.size = 0
 ·have hzc:z.cells.size = 0:=by
   rw [hsz] at hk;rcases Nat.mul_eq_zero.1 hk with h | h
   ·omega
   ·exact h
  have he:Builtin.zeroCells z.cells n = #[]:=by
   apply Array.eq_empty_of_size_eq_zero;simp [Zv,hzc]
  simp [Builtin.append_,run_underlying hu,run_underlying hti,sizeOf,typeInfo,zeroValue,hi,hz,Builtin.lenOf,hn,h63',h48',h48i,hw,hneg,Question.forced,run_firstCells_none,newRow,grownCap,asInt,asIntOf,he]
 ·simp [Builtin.append_,run_underlying hu,run_underlying hti,sizeOf,typeInfo,zeroValue,hi,hz,Builtin.lenOf,hn,h63',h48',h48i,hw,hneg,Question.forced,run_firstCells_none,newRow,grownCap,asInt,asIntOf,hk]

theorem LR.appendMake {id n k bs:Nat} {t ti e:TypeId} {x y:Operand} {z:Value} {zs:List Value} (hE:ElemOK P t e k bs) (hti:P.underlying ti = some (.int .i64)) (hzv:∀ w,(zeroValue e).run P w = .ok z w) (hzc:z.cells = zs.toArray) (h1:(zs.all Value.oneCell') = true)
  (hx:s.ev x = some pNil) (hy:s.ev y = some (.d (.v (.int .i64 n)))) (h0:0 < n) (hb:n * bs <= 140737488355328) (hn:n <= 140737488355328) (hf:s.fresh id = true) :
  Local P ctx ⟨some id,.call ⟨.builtin .append,#[x,y],#[t,ti]⟩,ty,pos,after,gd⟩ s (s.newO id (.row e k (List.replicate n (zs.map zdv))) (.row id n)):=
 zo (o:=⟨some id,.call ⟨.builtin .append,#[x,y],#[t,ti]⟩,ty,pos,after,gd⟩) fun a w g hg=>by
  obtain ⟨i,z',hi,hz,hsize,hbytes,hzs⟩:=hE.i;have hzz:z' = z:=by
   have:=hzv w;simp [zeroValue,typeInfo,hi,hz] at this;exact this
  subst hzz;have hzl:zs.length = k:=by rw [hzc] at hzs;simpa using hzs
  have hge:=grownCap_ge w n 0 e;have hcm:=grownCap_le_maxLen w n 0 e (by unfold maxLen;omega);have hrun:=WQ (P:=P) w t ti ty e i z' hE.u hti hi hz n h0 (by omega) (by rw [hbytes];omega) (by rw [hsize,hzs]);have hdr:RelG ctx g s a w.drew:=hg.below ((Below.refl _ w).drew);have hres:=hdr.newRow (id:=id) hf (e:=e) (k:=k) (cap:=grownCap w n 0 e) (l:=List.replicate n (zs.map zdv)) (cur:=(Builtin.zeroCells z'.cells n ++ Builtin.zeroCells z'.cells (grownCap w n 0 e - n)).toList) (by simpa using hge) hcm (by
    rw [Array.toList_append,List.length_append,VU,VU,hzs,<- Nat.add_mul];congr 1;omega)
   (fun j cs hj=>by
    rw [List.getElem?_replicate] at hj
    split at hj
    ·simp at hj;subst hj;simpa using hzl
    ·cases hj)
   (fun j cs t x hj hx=>by
    rw [List.getElem?_replicate] at hj
    split at hj
    ·rename_i hjn
     simp only [Option.some.injEq] at hj;subst hj;have ht:t < zs.length:=by have:=(List.getElem?_eq_some_iff.1 hx).1;simpa using this
     have hlt:j * k + t < n * k:=vr hjn (by omega);simp [ht] at hx;subst hx;refine ⟨zs[t],?_,Jq _ _ _ (by simp at h1;exact h1 _ (List.getElem_mem ht))⟩;have e2:(j * k + t) % k = t:=by rw [Nat.mul_comm,Nat.mul_add_mod,Nat.mod_eq_of_lt (by omega)]
     rw [Array.toList_append,List.getElem?_append_left (by rw [VU,hzs];exact hlt)];simp [Builtin.zeroCells,hlt,hzc,hzl,e2];rw [List.getElem?_eq_getElem ht];rfl
    ·cases hj)
  simp only [List.length_replicate,Array.toArray_toList] at hres;refine ⟨_,_,?_,hres⟩;simp [execOp,resolve,invoke,builtin,VS hg hx,VS hg hy,hrun,Result.andThen]

theorem LR.cutRow {x hi:Operand} {id n m k:Nat} {t e:TypeId} {l:List (List DV)} {kx:IntKind} {j:Int} (js:List Nat) (hu:P.underlying t = some (.slice e)) (hs:∀ w,(sizeOf e).run P w = .ok k w) (hx:s.ev x = some (.row id n)) (hl:look s.objs id = some (.row e k l)) (hn:l.length = n)
  (hh:s.ev hi = some (.d (.v (.int kx j)))) (hj:j = m) (hm:m <= n) (ha:(s.junks js).alone id = true) :
  Local P ctx ⟨dst,.slice t x none (some hi) none,ty,pos,after,gd⟩ s (((s.junks js).setO id (.row e k (l.take m))).putD dst (.row id m)):=
 zo (o:=⟨dst,.slice t x none (some hi) none,ty,pos,after,gd⟩) fun a w g hg=>by
  have hxv:=hg.ev hx;have hob:=hg.objs id _ hl;have hgj:=hg.junks js;have hlj:look (s.junks js).objs id = some (.row e k l):=by rw [zp];exact hl
  have hupd:upd g id (g id) = g:=by funext q;unfold upd;split <;> simp_all
  have hre:∀ (ob':ObRd w g (zZ ctx g (zd id (.row e k (l.take m)) (s.junks js).objs)) id (.row e k (l.take m))),RelG ctx g ((s.junks js).setO id (.row e k (l.take m))) a w:=fun ob'=>by
   have:=hgj.reown hlj ha (g id) (ob:=.row e k (l.take m)) rfl rfl rfl (Nat.le_refl _) (fun _ _ _=>rfl) (fun b n eb=>.inl ⟨n,eb⟩) (by rw [hupd];exact ob');rw [hupd] at this;exact this
  have hst:yH w w (zZ ctx g s.objs):=⟨Nat.le_refl _,fun _ _ _=>rfl⟩
  generalize hv:a.eval x = v at hxv
  cases hob with
  | rowNil _ _ hgn=>
   cases hxv with
   | row _ _ blk cap hgi=>rw [hgn] at hgi;cases hgi
   | rowNil=>
    have hm0:m = 0:=by omega
    subst hm0;refine ⟨.slice none 0 0,w,?_,g,(hre (.rowNil e k hgn)).put dst (.rowNil id hgn)⟩;simp [execOp,hv,wb hg hh,Instr.sliceAt,Instr.slice,Instr.sliceBounds,run_underlying hu,hs,yh (P:=P) hj (show 0 <= 0 from Nat.le_refl _),Result.andThen]
  | row _ _ _ blk' cap' cur hgi hh' hlc hcap hcs hkk hr'=>
   cases hxv with
   | rowNil _ hgn=>rw [hgn] at hgi;cases hgi
   | row _ _ blk cap hgi'=>
    rw [hgi] at hgi'
    cases hgi'
    have hrow:ObRd w g (zZ ctx g (zd id (.row e k (l.take m)) (s.junks js).objs)) id (.row e k (l.take m)):=by
     rw [zp];refine .row e k _ blk' cap' cur hgi hh' (by simp;omega) hcap hcs (fun i cs hi=>?_) (fun i cs t x hi hx=>?_)
     ·rw [List.getElem?_take] at hi
      split at hi
      ·exact hkk i cs hi
      ·cases hi
     ·rw [List.getElem?_take] at hi
      split at hi
      ·obtain ⟨u,h1,h2⟩:=hr' i cs t x hi hx;exact ⟨u,h1,h2.keep hst (fun b hb _=>yo hl b hb)⟩
      ·cases hi
    refine ⟨.slice (some ⟨blk',0,none⟩) m cap',w,?_,g,(hre hrow).put dst (.row id m blk' cap' hgi)⟩;simp [execOp,hv,wb hg hh,Instr.sliceAt,Instr.slice,Instr.sliceBounds,run_underlying hu,hs,yh (P:=P) hj (show m <= cap' by omega),Addr.add_lit,Result.andThen]
end
end Go.Ep

namespace Go.Ep

structure M (α:Type) where
 wp:(α -> Prop) -> Prop
 mono:∀ {P Q:α -> Prop},(∀ a,P a -> Q a) -> wp P -> wp Q
 meet:∀ {P Q:α -> Prop},wp P -> wp Q -> ∃ a,P a /\ Q a

namespace M
variable {α β γ σ ρ:Type}

theorem ext' {x y:M α} (h:∀ Q,x.wp Q ↔ y.wp Q):x = y:=by
 obtain ⟨a,_,_⟩:=x;obtain ⟨b,_,_⟩:=y;have:a = b:=funext fun Q=>propext (h Q)
 subst this
 rfl

def pure (a:α):M α:=⟨fun Q=>Q a,fun h p=>h _ p,fun p q=>⟨a,p,q⟩⟩
def bind (x:M α) (f:α -> M β):M β:=
 ⟨fun Q=>x.wp fun a=>(f a).wp Q,fun h p=>x.mono (fun a=>(f a).mono h) p,fun p q=>let ⟨a,h1,h2⟩:=x.meet p q;(f a).meet h1 h2⟩
def fail : M α:=⟨fun _=>False,fun _ h=>h,fun h=>h.elim⟩
def yY (p:Prop) (x:M α):M α:=⟨fun Q=>p /\ x.wp Q,fun h ⟨h1,h2⟩=>⟨h1,x.mono h h2⟩,fun ⟨_,h1⟩ ⟨_,h2⟩=>x.meet h1 h2⟩
def det (x:M α):M α:=⟨fun Q=>∃ a,x.wp (· = a) /\ Q a,fun h ⟨a,h1,h2⟩=>⟨a,h1,h a h2⟩,fun ⟨a,h1,h2⟩ ⟨b,h3,h4⟩=>by
 obtain ⟨c,h5,h6⟩:=x.meet h1 h3;exact ⟨a,h2,by rw [<- h5,h6];exact h4⟩⟩
def any (p:α -> Prop):M α:=⟨fun Q=>(∃ a,p a) /\ ∀ a,p a -> Q a,fun h ⟨h0,h1⟩=>⟨h0,fun a ha=>h a (h1 a ha)⟩,fun ⟨⟨a,ha⟩,h1⟩ ⟨_,h2⟩=>⟨a,h1 a ha,h2 a ha⟩⟩

inductive Step (σ ρ:Type) where
 | next (s:σ)
 | done (r:ρ)
inductive Ex (τ α:Type) where
 | brk (t:τ)
 | ret (a:α)
def exk (k:β -> M α):Ex β α -> M α
 | .brk t=>k t
 | .ret a=>pure a

def Step.post (X:σ -> Prop) (Q:ρ -> Prop):Step σ ρ -> Prop
 | .next s=>X s
 | .done r=>Q r

def UA (body:σ -> M (Step σ ρ)) (Q:ρ -> Prop) (s:σ):Prop:=∀ X:σ -> Prop,(∀ s,(body s).wp (Step.post X Q) -> X s) -> X s
theorem YP {body:σ -> M (Step σ ρ)} {Q:ρ -> Prop} {s:σ} (h:(body s).wp (Step.post (UA body Q) Q)):UA body Q s:=fun X hX=>
 hX s ((body s).mono (fun o ho=>by cases o with | next s'=>exact ho X hX | done r=>exact ho) h)
theorem jJ {body:σ -> M (Step σ ρ)} {Q:ρ -> Prop} {s:σ} (h:UA body Q s):(body s).wp (Step.post (UA body Q) Q):=
 h (fun s=>(body s).wp (Step.post (UA body Q) Q)) fun s hs=>(body s).mono (fun o ho=>by cases o with | next s'=>exact YP ho | done r=>exact ho) hs
def loop (body:σ -> M (Step σ ρ)) (s:σ):M ρ:=
 ⟨fun Q=>UA body Q s,fun h p X hX=>p X fun s hs=>hX s ((body s).mono (fun o ho=>by cases o with | next s'=>exact ho | done r=>exact h r ho) hs),fun {P Q} hp=>by
  refine hp (fun s=>UA body Q s -> ∃ a,P a /\ Q a) fun s hs hq=>?_
  obtain ⟨o,h1,h2⟩:=(body s).meet hs (jJ hq)
  cases o with
  | next s'=>exact h1 h2
  | done r=>exact ⟨r,h1,h2⟩⟩

theorem zA (a:α) (f:α -> M β):(pure a).bind f = f a:=rfl
theorem VZ (x:M α) (f:α -> M β) (g:β -> M γ):(x.bind f).bind g = x.bind fun a=>(f a).bind g:=rfl
theorem zE {p:Prop} (h:p) (x:M α):yY p x = x:=ext' fun _=>⟨fun h=>h.2,fun hx=>⟨h,hx⟩⟩
theorem uL {x:M α} {a:α} (h:x.wp (· = a)):x = pure a:=ext' fun Q=>
 ⟨fun hq=>let ⟨b,h1,h2⟩:=x.meet h hq;by subst h1;exact h2,fun hq=>x.mono (fun b hb=>by subst hb;exact hq) h⟩
theorem zB (a:α):det (pure a) = pure a:=uL ⟨a,rfl,rfl⟩
theorem YB (k:β -> M α) (t:β):exk k (.brk t) = k t:=rfl
theorem JA (k:β -> M α) (a:α):exk k (.ret a) = pure a:=rfl
theorem JB (body:σ -> M (Step σ ρ)) (s:σ):loop body s = (body s).bind fun o=>match o with | .next s'=>loop body s' | .done r=>pure r:=ext' fun Q=>
 ⟨fun h=>(body s).mono (fun o ho=>by cases o with | next s'=>exact ho | done r=>exact ho) (jJ h),fun h=>YP ((body s).mono (fun o ho=>by cases o with | next s'=>exact ho | done r=>exact ho) h)⟩
theorem yE {body:σ -> M (Step σ ρ)} {s s':σ} (h:body s = pure (.next s')):loop body s = loop body s':=by rw [JB,h];rfl
theorem zu {body:σ -> M (Step σ ρ)} {s:σ} {r:ρ} (h:body s = pure (.done r)):loop body s = pure r:=by rw [JB,h];rfl
theorem zX (a b:Bool):(cond a (pure b) (pure false):M Bool) = pure (a && b):=by cases a <;> rfl
theorem jK (a b:Bool):(cond a (pure true) (pure b):M Bool) = pure (a || b):=by cases a <;> rfl
theorem YQ (a:Bool) (x y:α):(cond a (pure x) (pure y):M α) = pure (cond a x y):=by cases a <;> rfl
theorem loop_inv {body:σ -> M (Step σ ρ)} {Q:ρ -> Prop} (I:σ -> Prop) (mu:σ -> Nat) (h:∀ s,I s -> (body s).wp (Step.post (fun s'=>I s' /\ mu s' < mu s) Q)) (s0:σ) (h0:I s0):(loop body s0).wp Q:=by
 have key:∀ n s,mu s = n -> I s -> UA body Q s:=by
  intro n
  induction n using Nat.strongRecOn with
  | _ n ih=>
   intro s hn hI;refine YP ((body s).mono (fun o ho=>?_) (h s hI))
   cases o with
   | next s'=>exact ih (mu s') (hn ▸ ho.2) s' rfl ho.1
   | done r=>exact ho
 exact key _ s0 rfl h0

end M

namespace M
variable {α β:Type}
def idx (l:List α) (i:Int):M α:=⟨fun Q=>∃ y,(0 <= i /\ l[i.toNat]? = some y) /\ Q y,fun h ⟨y,h1,h2⟩=>⟨y,h1,h y h2⟩,fun ⟨y,h1,h2⟩ ⟨z,h3,h4⟩=>⟨y,h2,by have:=h1.2.symm.trans h3.2;cases this;exact h4⟩⟩
theorem Xd {l:List α} {i:Int} {y:α} (h0:0 <= i) (h:l[i.toNat]? = some y):idx l i = pure y:=uL ⟨y,⟨h0,h⟩,rfl⟩
theorem zF {l:List α} {i:Nat} {y:α} (h:l[i]? = some y):idx l (i:Int) = pure y:=Xd (by omega) (by simpa using h)
def cut (l:List α) (lo hi:Int):M (List α):=yY (0 <= lo /\ lo <= hi /\ hi <= l.length) (pure ((l.take hi.toNat).drop lo.toNat))
def app (bs:Nat) (l r:List α):M (List α):=yY ((l.length + r.length) * bs <= 140737488355328) (pure (l ++ r))
def upd (l:List α) (i:Int) (y:α):M (List α):=yY (0 <= i /\ i < l.length) (pure (l.set i.toNat y))
end M

def wc (s:ByteArray):List Int:=s.data.toList.map fun b=>(b.toNat:Int)
def strL (l:List Int):ByteArray:=l.foldl (fun r n=>r.push (UInt8.ofNat n.toNat)) ByteArray.empty
def bAnd (k:IntKind) (x y:Int):Int:=k.wrap (BitVec.ofInt k.bits x &&& BitVec.ofInt k.bits y).toNat
namespace AL
variable {κ ν:Type} [DecidableEq κ]
def get : List (κ × ν) -> κ -> Option ν
 | [],_=>none
 | (k,v) :: r,x=>if k = x then some v else get r x
def set : List (κ × ν) -> κ -> ν -> List (κ × ν)
 | [],x,u=>[(x,u)]
 | (k,v) :: r,x,u=>if k = x then (k,u) :: r else (k,v) :: set r x u
def del : List (κ × ν) -> κ -> List (κ × ν)
 | [],_=>[]
 | (k,v) :: r,x=>if k = x then r else (k,v) :: del r x
def getZ (m:List (κ × ν)) (x:κ) (z:ν):ν:=(get m x).getD z
def has (m:List (κ × ν)) (x:κ):Bool:=(get m x).isSome
def grow {α:Type} (m:List (κ × List α)) (l:List (κ × List α)):List (κ × List α):=l.foldl (fun m x=>set m x.1 (getZ m x.1 [] ++ x.2)) m
def growOK {α:Type} (bs n:Nat) (l:List (κ × List α)):Prop:=n < 9223372036854775807 /\ (l.map fun x=>x.2.length).sum * bs <= 140737488355328
end AL

namespace M
def nxt (n:Nat) (L:List Nat):M (Option Nat):=any fun o=>match o with | none=>∀ i,i < n -> i ∈ L | some i=>i < n /\ i ∉ L
def isNil {α:Type} (l:List α):M Bool:=any fun b=>b = true -> l = []
def srt {α:Type} (lt:α -> α -> Bool) (l:List α):M (List α):=any fun l'=>l'.Perm l /\ l'.Pairwise fun x y=>lt y x = false
end M
end Go.Ep

namespace Go.Ep
open Go.RowKit

section
variable {α β:Type} {Q:β -> Prop}
theorem zq {l:List α} {i:Int} {k:α -> M β} (h:((M.idx l i).bind k).wp Q):∃ y,(0 <= i /\ l[i.toNat]? = some y) /\ (k y).wp Q:=h
theorem zw {p:Prop} {x:M β} (h:(M.yY p x).wp Q):p /\ x.wp Q:=h
theorem zY {x:M α} {k:α -> M β} (h:(x.det.bind k).wp Q):∃ r,x.wp (· = r) /\ (k r).wp Q:=h
theorem iNxt {n:Nat} {L:List Nat} {k:Option Nat -> M β} (h:((M.nxt n L).bind k).wp Q):((∀ i,i < n -> i ∈ L) -> (k none).wp Q) /\ ∀ i,i < n -> i ∉ L -> (k (some i)).wp Q:=⟨fun h0=>h.2 none h0,fun i h1 h2=>h.2 (some i) ⟨h1,h2⟩⟩
theorem iSrt {lt:α -> α -> Bool} {l:List α} {k:List α -> M β} (h:((M.srt lt l).bind k).wp Q):∀ l':List α,l'.Perm l -> l'.Pairwise (fun x y=>lt y x = false) -> (k l').wp Q:=fun l' h1 h2=>h.2 l' ⟨h1,h2⟩
theorem iNil {l:List α} {k:Bool -> M β} (h:((M.isNil l).bind k).wp Q):∀ b,(b = true -> l = []) -> (k b).wp Q:=fun b hb=>h.2 b hb
theorem zH {x:M α} {k:α -> M β} (h:(x.bind k).wp Q):x.wp fun a=>(k a).wp Q:=h
theorem iT {b:Bool} {x y:M β} (hb:b = true) (h:(cond b x y).wp Q):x.wp Q:=by subst hb;exact h
theorem iF {b:Bool} {x y:M β} (hb:b = false) (h:(cond b x y).wp Q):y.wp Q:=by subst hb;exact h
end

def zN {κ ν:Type} (eK:κ -> List Int) (eV:ν -> List DV) (m:List (κ × ν)):Mp:=m.map fun x=>(eK x.1,eV x.2)
section
variable {κ ν:Type} [DecidableEq κ] {eK:κ -> List Int} {eV:ν -> List DV} (inj:∀ a b,eK a = eK b -> a = b)
include inj
theorem YR (m:List (κ × ν)) (k:κ):Xb (zN eK eV m) (eK k) = (AL.get m k).map eV:=by
 induction m with
 | nil=>rfl
 | cons x r ih=>
  obtain ⟨a,v⟩:=x;show (if eK a = eK k then _ else _) = _
  by_cases h:a = k
  ·subst h;simp [AL.get]
  ·rw [if_neg (fun e=>h (inj _ _ e))];simp only [AL.get,h,if_false];exact ih
theorem Qv (m:List (κ × ν)) (k:κ) (v:ν):QC (zN eK eV m) (eK k) (eV v) = zN eK eV (AL.set m k v):=by
 induction m with
 | nil=>rfl
 | cons x r ih=>
  obtain ⟨a,u⟩:=x;show (if eK a = eK k then _ else _) = _
  by_cases h:a = k
  ·subst h;simp [AL.set,zN]
  ·rw [if_neg (fun e=>h (inj _ _ e))];simp only [AL.set,h,if_false];show _ :: QC (zN eK eV r) _ _ = _ :: zN eK eV (AL.set r k v);rw [ih]
theorem Qw (m:List (κ × ν)) (k:κ):mdel (zN eK eV m) (eK k) = zN eK eV (AL.del m k):=by
 induction m with
 | nil=>rfl
 | cons x r ih=>
  obtain ⟨a,u⟩:=x;show (if eK a = eK k then _ else _) = _
  by_cases h:a = k
  ·subst h;simp [AL.del,zN]
  ·rw [if_neg (fun e=>h (inj _ _ e))];simp only [AL.del,h,if_false];show _ :: mdel (zN eK eV r) _ = _ :: zN eK eV (AL.del r k);rw [ih]
end
theorem UB {κ ν:Type} {eK:κ -> List Int} {eV:ν -> List DV} (m:List (κ × ν)):(zN eK eV m).length = m.length:=by simp [zN]

section
variable {P:Program} {ctx:Ctx} {Q:PQ} {s:PState}
variable {dst:Option Tmp} {ty:TypeId} {pos:String} {after:Array Edge} {gd:Option (Nat × Bool)}

def LoopAt (P:Program) (c:Code) (Q:Exit -> Act -> World -> Prop) (a:Act) (w:World):Prop:=∀ (b:Frame) (k:List Item) (cs:List Frame),
 ∃ e a' w',Q e a' w' /\ Arrives P (lone (b.at a (.code c :: .inLoop c :: k)) cs w) b k cs e a' w'
theorem LoopAt.step {c:Code} {Q:Exit -> Act -> World -> Prop} {a:Act} {w:World} (h:c.wp P (Exit.then (LoopAt P c Q) Q) a w):LoopAt P c Q a w:=by
 intro b k cs;obtain ⟨e,a₁,w₁,hq,harr⟩:=h b (.inLoop c :: k) cs
 cases e with
 | normal=>
  obtain ⟨e₂,a₂,w₂,hq₂,harr₂⟩:=hq b k cs;exact ⟨e₂,a₂,w₂,hq₂,.of_steps (Steps.trans harr (.one step_inLoop)) harr₂⟩
 | exit id=>exact ⟨_,a₁,w₁,hq,.pass (x:=.inLoop c) rfl (fun _ _=>.inl (by simp)) harr⟩
 | goto l=>exact ⟨_,a₁,w₁,hq,.pass (x:=.inLoop c) rfl (fun _ _=>.inl (by simp)) harr⟩
 | ret=>exact ⟨_,a₁,w₁,hq,.pass (x:=.inLoop c) rfl (fun _ _=>.inl (by simp)) harr⟩
 | panic ch=>exact ⟨_,a₁,w₁,hq,.pass (x:=.inLoop c) rfl (fun _ _=>.inl (by simp)) harr⟩
 | outgrown=>exact ⟨_,a₁,w₁,hq,.pass (x:=.inLoop c) rfl (fun _ _=>.inl (by simp)) harr⟩
theorem LoopAt.loop {c:Code} {Q:Exit -> Act -> World -> Prop} {a:Act} {w:World} (h:LoopAt P c Q a w):(Code.loop c).wp P Q a w:=fun b k cs=>
 let ⟨e,a',w',hq,harr⟩:=h b k cs
 ⟨e,a',w',hq,.of_steps (.one step_loop) harr⟩

theorem PWc.loopM {σ ρ G:Type} {c:Code} {body:σ -> M (M.Step σ ρ)} {s0:σ} {R:ρ -> Prop} (J:σ -> G -> PState) (g0:G) (h:(M.loop body s0).wp R) (hs:Sub ctx s (J s0 g0))
  (round:∀ (N:σ -> Prop) (x:σ) (g:G),(body x).wp (M.Step.post N R) -> PWc P ctx c (Then (fun t=>∃ y g',N y /\ Sub ctx t (J y g')) Q) (J x g)):PWc P ctx (.loop c) Q s:=by
 intro a w hr;refine LoopAt.loop ?_;have key:∀ g a w,Rel ctx (J s0 g) a w -> LoopAt P c (lift ctx Q) a w:=by
  refine h (fun x=>∀ g a w,Rel ctx (J x g) a w -> LoopAt P c (lift ctx Q) a w) fun x hx g a w hr=>?_
  refine LoopAt.step (wp_mono (round _ x g hx a w hr) fun e a' w' ⟨t,h1,h2⟩=>?_)
  cases e with
  | normal=>
   obtain ⟨y,g',hy,hsub⟩:=h1;exact hy g' a' w' (hsub a' w' h2)
  | _=>exact ⟨t,h1,h2⟩
 exact key g0 a w (hs a w hr)

def Jn (ctx:Ctx) (Q:PQ) {τ G:Type} (J:τ -> G -> PState) (N:τ -> Prop):PQ
 | .normal,t=>∃ v g,N v /\ Sub ctx t (J v g)
 | e,t=>Q e t
section
variable {α:Type} {enc:α -> List DV} {L R:List α}
theorem LR.idxT {x ix:Operand} {ki:IntKind} {i:Int} {k:Nat} {y:α} {t e:TypeId} (hu:P.underlying t = some (.slice e)) (hs:∀ w,(sizeOf e).run P w = .ok k w)
  (hx:s.ev x = some (.d (.sl (L.map enc)))) (hix:s.ev ix = some (.d (.v (.int ki i)))) (hy:0 <= i /\ L[i.toNat]? = some y) (hk:∀ x,(enc x).length = k) :
  Local P ctx ⟨dst,.indexAddr t x ix,ty,pos,after,gd⟩ s (s.putD dst (.ep (enc y) 0)):=
 LR.idxSl (n:=i.toNat) hu hs hx hix (by omega) (by simp [hy.2]) (hk _)
theorem LR.idxRowT {x ix:Operand} {id m:Nat} {ki:IntKind} {i:Int} {k:Nat} {y:α} {t e:TypeId} (hu:P.underlying t = some (.slice e)) (hs:∀ w,(sizeOf e).run P w = .ok k w)
  (hx:s.ev x = some (.row id m)) (hm:m = L.length) (hix:s.ev ix = some (.d (.v (.int ki i)))) (hy:0 <= i /\ L[i.toNat]? = some y) :
  Local P ctx ⟨dst,.indexAddr t x ix,ty,pos,after,gd⟩ s (s.putD dst (.rp id i.toNat 0 k)):=
 LR.idxRow hu hs hx hix (by omega) (by rw [hm];exact (List.getElem?_eq_some_iff.1 hy.2).1)
theorem LR.loadRpT {x:Operand} {id n k:Nat} {T T0:TypeId} {y:α} (ha:∀ w,(isAgg T).run P w = .ok true w) (hs:∀ w,(sizeOf T).run P w = .ok k w) (hx:s.ev x = some (.rp id n 0 k)) (hl:look s.objs id = some (.row T0 k (L.map enc))) (hy:L[n]? = some y) :
  Local P ctx ⟨dst,.load T x,ty,pos,after,gd⟩ s (s.putD dst (.agg ((enc y).map .d))):=LR.loadRpAgg ha hs hx hl (by simp [hy])
theorem LR.loadRpF {x:Operand} {id n o k:Nat} {T T0:TypeId} {y:α} {z:DV} (ha:∀ w,(isAgg T).run P w = .ok false w) (hx:s.ev x = some (.rp id n o k)) (hl:look s.objs id = some (.row T0 k (L.map enc))) (hy:L[n]? = some y) (hz:(enc y)[o]? = some z) :
  Local P ctx ⟨dst,.load T x,ty,pos,after,gd⟩ s (s.putD dst (.d z)):=LR.loadRp ha hx hl (by simp [hy]) hz
theorem LR.storeRpT {x y:Operand} {id n o k m:Nat} {T T0:TypeId} {a b:α} {ys:List DV} {p:PV} (hs:∀ w,(sizeOf T).run P w = .ok m w) (hx:s.ev x = some (.rp id n o k)) (hy:s.ev y = some p) (hp:p.dparts = some ys) (hm:ys.length = m)
  (hl:look s.objs id = some (.row T0 k (L.map enc))) (hi:L[n]? = some a) (hlen:Nat.ble (o + m) k = true) (hns:(enc a).take o ++ ys ++ (enc a).drop (o + m) = enc b) :
  Local P ctx ⟨none,.store T x y,ty,pos,after,gd⟩ s (s.setO id (.row T0 k ((L.set n b).map enc))):=by
 have:=LR.storeRpB (P:=P) (ctx:=ctx) (ty:=ty) (pos:=pos) (after:=after) (gd:=gd) hs hx hy hp hm hl (by simp [hi]) hlen hns
 rwa [<- List.map_set] at this
theorem LR.appT {x y:Operand} {id m k bs:Nat} {t t' e e':TypeId} (js:List Nat) (hE:ElemOK P t e k bs) (hu':P.underlying t' = some (.slice e')) (hx:s.ev x = some (.row id m)) (hm:m = L.length) (hl:look s.objs id = some (.row e k (L.map enc)))
  (hy:Src ctx s y (R.map enc) k) (hk:∀ x,(enc x).length = k) (hb:(L.length + R.length) * bs <= 140737488355328) (h1:Nat.ble 1 bs = true) (ha:(s.junks js).alone id = true) :
  Local P ctx ⟨dst,.call ⟨.builtin .append,#[x,y],#[t,t']⟩,ty,pos,after,gd⟩ s (((s.junks js).setO id (.row e k ((L ++ R).map enc))).putD dst (.row id (L ++ R).length)):=by
 subst hm;have h2:=Nat.le_of_ble_eq_true h1;have h3:(L.length + R.length) * 1 <= (L.length + R.length) * bs:=Nat.mul_le_mul_left _ h2;have:=LR.append (P:=P) (ctx:=ctx) (dst:=dst) (ty:=ty) (pos:=pos) (after:=after) (gd:=gd) js hE hu' hx hl (by simp) hy (jy hk R) (by simpa using hb) (by simp;omega) ha;simpa using this
theorem Src.slT {y:Operand} {k:Nat} (hy:s.ev y = some (.d (.sl (R.map enc)))) (hk:∀ x,(enc x).length = k):Src ctx s y (R.map enc) k:=Src.sl hy (jy hk R)
theorem LR.rowT {id:Nat} {x:Operand} {xs:List Operand} {ats:Array TypeId} {f:FuncId} {ps:List PV} {e:TypeId} {k:Nat} (hc:PRow P f ps e k (L.map enc)) (hx:s.ev x = some (.d (.v (.func (.func f) #[] #[])))) (he:∀ args w,(callFunc f args).run P w = .ok (.enter f args) w)
  (hps:s.evs xs = some ps) (hd:PV.isData.isDataL ps = true) (hf:s.fresh id = true) :
  Local P ctx ⟨some id,.call ⟨.value x,xs.toArray,ats⟩,ty,pos,after,gd⟩ s (s.newO id (.row e k (L.map enc)) (.row id L.length)):=by
 have:=LR.callRow (P:=P) (ctx:=ctx) (ty:=ty) (pos:=pos) (after:=after) (gd:=gd) (id:=id) (ats:=ats) hc hx he hps hd hf
 rwa [List.length_map] at this
end

section
variable {κ ν:Type} [DecidableEq κ] {eK:κ -> List Int} {eV:ν -> List DV} {m:List (κ × ν)} {q:κ} {zv:ν} (inj:∀ a b,eK a = eK b -> a = b)
variable {x kx:Operand} {t kt et:TypeId} {ks:List IntKind} {ag:Bool} {z:Value} {p kp:PV}
theorem Jw {o:Option ν}:(o.map eV).getD (eV zv) = eV (o.getD zv):=by cases o <;> rfl
section
variable (hu:P.underlying t = some (.map kt et)) (K:KeyOK P kt ks) (hz:∀ w,(zeroValue et).run P w = .ok z w) (hzr:∀ (w:World) (g:zQ) (S:Nat -> Prop),Rd w g S (elP ag (eV zv)) z) (hk:s.ev kx = some kp) (hkp:kp = jq ks (eK q)) (hn:(eK q).length = ks.length) (hp:elP ag (eV (AL.getZ m q zv)) = p)
include inj hu K hz hzr hk hkp hn hp
theorem LR.getO {id:Nat} {bs:List Nat} {ck:Nat} (hx:s.ev x = some (.mp id)) (hl:look s.objs id = some (.map ks ag (zN eK eV m) bs ck)):Local P ctx ⟨dst,.lookup t x kx false,ty,pos,after,gd⟩ s (s.putD dst p):=
 LR.lookupO hu K hz hzr (by rw [hk,hkp]) hn (by rw [YR inj,Jw];exact hp) hx hl
end
section
variable {id:Nat} {bs:List Nat} {ck:Nat} {vx:Operand} {v:ν} (hu:P.underlying t = some (.map kt et)) (K:KeyOK P kt ks) (hx:s.ev x = some (.mp id)) (hl:look s.objs id = some (.map ks ag (zN eK eV m) bs ck))
  (hk:s.ev kx = some kp) (hkp:kp = jq ks (eK q)) (hn:(eK q).length = ks.length)
include inj hu K hx hl hk hkp hn
theorem LR.setM {pv:PV} (hv:s.ev vx = some pv) (hq:elP ag (eV v) = pv) (h1:ag = false -> (eV v).length = 1) :
  Local P ctx ⟨none,.mapUpdate t x kx vx,ty,pos,after,gd⟩ s (s.setO id (.map ks ag (zN eK eV (AL.set m q v)) (bset (zN eK eV m) (eK q) bs ck) (Qr (zN eK eV m) (eK q) ck))):=by
 have:=LR.mapUpdate (P:=P) (ctx:=ctx) (ty:=ty) (pos:=pos) (after:=after) (gd:=gd) hu K hx hl (by rw [hk,hkp]) hn hv hq h1 rfl rfl
 rwa [Qv inj] at this
theorem LR.setIn {pv:PV} (hv:s.ev vx = some pv) (hq:elP ag (eV v) = pv) (h1:ag = false -> (eV v).length = 1) (hin:AL.has m q = true) :
  Local P ctx ⟨none,.mapUpdate t x kx vx,ty,pos,after,gd⟩ s (s.setO id (.map ks ag (zN eK eV (AL.set m q v)) bs ck)):=by
 have:=LR.setM (P:=P) (ctx:=ctx) (ty:=ty) (pos:=pos) (after:=after) (gd:=gd) inj hu K hx hl hk hkp hn hv hq h1;obtain ⟨u,hu'⟩:=Option.isSome_iff_exists.1 hin;have e:Xb (zN eK eV m) (eK q) = some (eV u):=by rw [YR inj,hu'];rfl
 simpa [bset,Qr,e] using this
end
end
end
end Go.Ep
namespace Go.Ep
def PV.nilD : PV -> PV
 | .d (.v (.slice none 0 0))=>.d (.sl [])
 | p=>p
theorem Rd.nilD {w:World} {g:zQ} {S:Nat -> Prop} {p:PV} {u:Value} (h:Rd w g S p u):Rd w g S p.nilD u:=by
 unfold PV.nilD
 split
 ·have:=h.of_v;subst this;exact .d (.nil none 0 (Nat.zero_le _) (fun _=>rfl))
 ·exact h
section
variable {P:Program} {ctx:Ctx} {Q:PQ} {s:PState}
variable {dst:Option Tmp} {ty:TypeId} {pos:String} {after:Array Edge} {gd:Option (Nat × Bool)}
theorem PV.isData_nilD {p:PV} (h:p.nilD.isData = true):p.isData = true:=by
 unfold PV.nilD at h
 split at h
 ·rfl
 ·exact h
theorem xp : ∀ {ps:List PV},PV.isData.isDataL (ps.map PV.nilD) = true -> PV.isData.isDataL ps = true
 | [],_=>rfl
 | p :: r,h=>by
  simp only [List.map_cons,PV.isData.isDataL,Bool.and_eq_true] at h ⊢;exact ⟨PV.isData_nilD h.1,xp h.2⟩
theorem PFun.nilD {f:FuncId} {ps:List PV} {r:PV} (h:PFun P f (ps.map PV.nilD) r):PFun P f ps r:=fun w S vs hl hv=>
 h w S vs (by simpa using hl) fun i p v hp hu=>by
  rw [List.getElem?_map] at hp
  cases hq:ps[i]? with
  | none=>simp [hq] at hp
  | some q=>simp [hq] at hp;subst hp;exact (hv i q v hq hu).nilD
theorem PRow.nilD {f:FuncId} {ps:List PV} {e:TypeId} {k:Nat} {l:List (List DV)} (h:PRow P f (ps.map PV.nilD) e k l):PRow P f ps e k l:=fun w S vs hl hv=>
 h w S vs (by simpa using hl) fun i p v hp hu=>by
  rw [List.getElem?_map] at hp
  cases hq:ps[i]? with
  | none=>simp [hq] at hp
  | some q=>simp [hq] at hp;subst hp;exact (hv i q v hq hu).nilD
theorem PMap.nilD {f:FuncId} {ps:List PV} {ks:List IntKind} {ag:Bool} {m:Mp} (h:PMap P f (ps.map PV.nilD) ks ag m):PMap P f ps ks ag m:=fun w S vs hl hv=>
 h w S vs (by simpa using hl) fun i p v hp hu=>by
  rw [List.getElem?_map] at hp
  cases hq:ps[i]? with
  | none=>simp [hq] at hp
  | some q=>simp [hq] at hp;subst hp;exact (hv i q v hq hu).nilD
theorem LR.callN {x:Operand} {xs:List Operand} {ats:Array TypeId} {f:FuncId} {ps qs:List PV} {r:PV} (hc:PFun P f ps r) (hx:s.ev x = some (.d (.v (.func (.func f) #[] #[])))) (he:∀ args w,(callFunc f args).run P w = .ok (.enter f args) w)
  (hps:s.evs xs = some qs) (hq:qs.map PV.nilD = ps) (hd:PV.isData.isDataL ps = true) (hr:r.isData = true) :
  Local P ctx ⟨dst,.call ⟨.value x,xs.toArray,ats⟩,ty,pos,after,gd⟩ s (s.putD dst r):=by
 subst hq;exact LR.call hc.nilD hx he hps (xp hd) hr
theorem LR.rowN {α:Type} {enc:α -> List DV} {L:List α} {id:Nat} {x:Operand} {xs:List Operand} {ats:Array TypeId} {f:FuncId} {ps qs:List PV} {e:TypeId} {k:Nat} (hc:PRow P f ps e k (L.map enc)) (hx:s.ev x = some (.d (.v (.func (.func f) #[] #[])))) (he:∀ args w,(callFunc f args).run P w = .ok (.enter f args) w)
  (hps:s.evs xs = some qs) (hq:qs.map PV.nilD = ps) (hd:PV.isData.isDataL ps = true) (hf:s.fresh id = true) :
  Local P ctx ⟨some id,.call ⟨.value x,xs.toArray,ats⟩,ty,pos,after,gd⟩ s (s.newO id (.row e k (L.map enc)) (.row id L.length)):=by
 subst hq;exact LR.rowT hc.nilD hx he hps (xp hd) hf
theorem PWl.mapN {ops:Array Oper} {rest:List Oper} {id:Nat} {x:Operand} {xs:List Operand} {ats:Array TypeId} {f:FuncId} {ps qs:List PV} {ks:List IntKind} {ag:Bool} {m:Mp} (hc:PMap P f ps ks ag m) (hx:s.ev x = some (.d (.v (.func (.func f) #[] #[])))) (he:∀ args w,(callFunc f args).run P w = .ok (.enter f args) w)
  (hps:s.evs xs = some qs) (hq:qs.map PV.nilD = ps) (hd:PV.isData.isDataL ps = true) (hf:s.fresh id = true) (hgd:gd = none)
  (h:∀ bs ck,bs.length = m.length -> PWl P ctx ops Q rest (s.newO id (.map ks ag m bs ck) (.mp id))):PWl P ctx ops Q (⟨some id,.call ⟨.value x,xs.toArray,ats⟩,ty,pos,after,gd⟩ :: rest) s:=by
 subst hq;exact PWl.callMap hc.nilD hx he hps (xp hd) hf hgd h
end
end Go.Ep
namespace Go.Ep
def eK (k:IntKind) (n:Int):List DV:=[.v (.int k n)]
def eS (s:ByteArray):List DV:=[.v (.string s)]
def eL {α:Type} (enc:α -> List DV) (l:List α):List DV:=[.sl (l.map enc)]
def kI (n:Int):List Int:=[n]
theorem Qy (a b:Int) (h:kI a = kI b):a = b:=by simpa [kI] using h
section
variable {P:Program} {ctx:Ctx} {Q:PQ} {s:PState}
variable {dst:Option Tmp} {ty:TypeId} {pos:String} {after:Array Edge} {gd:Option (Nat × Bool)}

theorem PWc.jn {c:Code} {τ G:Type} {m:M τ} {N:τ -> Prop} (h:m.wp N) (J:τ -> G -> PState) (i:m.wp N -> PWc P ctx c (Jn ctx Q J N) s) (k:∀ v g,N v -> Q .normal (J v g))
  (hK:∀ t u,Sub ctx t u -> Q .normal u -> Q .normal t:=by first | exact fun _ _ hs h=>PWc.sub hs h | exact fun _ _ hs ⟨v,g,h1,h2⟩=>⟨v,g,h1,Sub.trans hs h2⟩):PWc P ctx c Q s:=
 (i h).mono fun e t hq=>by
  cases e with
  | normal=>obtain ⟨v,g,hv,hs⟩:=hq;exact hK t _ hs (k v g hv)
  | _=>exact hq
theorem PWc.jnX {c:Code} {τ G α:Type} {m:M (M.Ex τ α)} {N:M.Ex τ α -> Prop} (h:m.wp N) (J:τ -> G -> PState) (i:m.wp N -> PWc P ctx c (Jn ctx Q J fun v=>N (.brk v)) s) (k:∀ v g,N (.brk v) -> Q .normal (J v g))
  (hK:∀ t u,Sub ctx t u -> Q .normal u -> Q .normal t:=by first | exact fun _ _ hs h=>PWc.sub hs h | exact fun _ _ hs ⟨v,g,h1,h2⟩=>⟨v,g,h1,Sub.trans hs h2⟩):PWc P ctx c Q s:=
 (i h).mono fun e t hq=>by
  cases e with
  | normal=>obtain ⟨v,g,hv,hs⟩:=hq;exact hK t _ hs (k v g hv)
  | _=>exact hq

theorem Jx {κ ν:Type} {eK:κ -> List Int} {eV:ν -> List DV} {m:List (κ × ν)} {i:Nat} {y:κ × ν} (h:0 <= Int.ofNat i /\ m[(Int.ofNat i).toNat]? = some y):(zN eK eV m)[i]? = some (eK y.1,eV y.2):=by
 have h2:m[i]? = some y:=h.2;simp [zN,h2]
section
variable {κ ν:Type} {eK:κ -> List Int} {eV:ν -> List DV} {m:List (κ × ν)}
theorem nxtA {L:List Nat} (h:∀ i,i < (zN eK eV m).length -> i ∈ L):∀ i,i < m.length -> i ∈ L:=fun i hi=>h i (by rw [UB];exact hi)
theorem nxtB {i:Nat} (h:i < (zN eK eV m).length):i < m.length:=by rwa [UB] at h
theorem nxtD {L:List Nat} (h:∀ i ∈ L,i < m.length):∀ i ∈ L,i < (zN eK eV m).length:=fun i hi=>by rw [UB];exact h i hi
end
end
end Go.Ep
namespace Go.Ep
section
variable {P:Program} {ctx:Ctx} {Q:PQ} {s:PState}
variable {dst:Option Tmp} {ty:TypeId} {pos:String} {after:Array Edge} {gd:Option (Nat × Bool)}
section
variable {x y:Operand} {k ky:IntKind} {m n r:Int} {t t':TypeId} (hx:s.ev x = some (.d (.v (.int k m)))) (hy:s.ev y = some (.d (.v (.int ky n))))
include hx hy
theorem LR.shr (h0:0 <= n) (hr:m.fdiv (2 ^ min n.toNat k.bits) = r):Local P ctx ⟨dst,.binOp .shr t x y t',ty,pos,after,gd⟩ s (s.putD dst (.d (.v (.int k r)))):=by
 subst hr;have hn:¬ n < 0:=by omega
 exact zD (o:=⟨dst,.binOp .shr t x y t',ty,pos,after,gd⟩) fun a w _ hg=>⟨_,by simp [execOp,wb hg hx,wb hg hy,eqGuard_shr,binOp_shr,Op.shift,hn],.d (.v _ rfl)⟩
end
section
variable {x y:Operand} {k:IntKind} {m n:Int} {t t':TypeId} (hx:s.ev x = some (.d (.v (.int k m)))) (hy:s.ev y = some (.d (.v (.int k n))))
include hx hy
theorem LR.and : Local P ctx ⟨dst,.binOp .and t x y t',ty,pos,after,gd⟩ s (s.putD dst (.d (.v (.int k (Go.bits .and k m n))))):=yg hx hy (fun w=>by simp [binOp_and,intBits_and]) rfl
end
end
end Go.Ep
namespace Go.Ep
theorem PWl.eqlNilT {P:Program} {ctx:Ctx} {Q:PQ} {s:PState} {dst:Option Tmp} {ty:TypeId} {pos:String} {after:Array Edge} {gd:Option (Nat × Bool)} {α:Type} {enc:α -> List DV} {L:List α} {ops:Array Oper} {rest:List Oper} {x:Operand} {t t' e:TypeId} (hu:P.underlying t = some (.slice e)) (hx:s.ev x = some (.d (.sl (L.map enc)))) (hg:gd = none)
  (h:∀ b:Bool,(b = true -> L = []) -> PWl P ctx ops Q rest (s.putD dst (.d (.v (.bool b))))):PWl P ctx ops Q (⟨dst,.binOp .eql t x (.const (.slice none 0 0)) t',ty,pos,after,gd⟩ :: rest) s:=
 PWl.eqlNil hu hx hg fun b hb=>h b fun e=>by simpa using hb e
end Go.Ep
namespace Go.Ep
section
variable {P:Program} {ctx:Ctx} {Q:PQ} {s:PState}
variable {dst:Option Tmp} {ty:TypeId} {pos:String} {after:Array Edge} {gd:Option (Nat × Bool)}
theorem LR.appMakeT {α:Type} {enc:α -> List DV} {z:α} {id k bs:Nat} {t ti e:TypeId} {x y:Operand} {zv:Value} {zs:List Value} {n:Int} (hb:0 < n /\ n * bs <= 140737488355328) (hE:ElemOK P t e k bs) (hti:P.underlying ti = some (.int .i64)) (hzv:∀ w,(zeroValue e).run P w = .ok zv w) (hzc:zv.cells = zs.toArray) (h1:(zs.all Value.oneCell') = true)
  (hz:enc z = zs.map zdv) (hx:s.ev x = some (.d (.v (.slice none 0 0)))) (hy:s.ev y = some (.d (.v (.int .i64 n)))) (hf:s.fresh id = true) (hbs:Nat.ble 1 bs = true) :
  Local P ctx ⟨some id,.call ⟨.builtin .append,#[x,y],#[t,ti]⟩,ty,pos,after,gd⟩ s (s.newO id (.row e k (List.map enc (List.replicate n.toNat z))) (.row id n.toNat)):=by
 obtain ⟨h0,h2⟩:=hb;obtain ⟨m,rfl⟩:=Int.eq_ofNat_of_zero_le (Int.le_of_lt h0);have h3:m * bs <= 140737488355328:=by
  have:((m * bs:Nat):Int) <= 140737488355328:=by rw [Int.natCast_mul];exact h2
  omega
 have h4:m <= m * bs:=by
  have:=Nat.mul_le_mul_left m (Nat.le_of_ble_eq_true hbs);omega
 have hr:=LR.appendMake (P:=P) (ctx:=ctx) (s:=s) (ty:=ty) (pos:=pos) (after:=after) (gd:=gd) (id:=id) (n:=m) hE hti hzv hzc h1 hx hy (by omega) h3 (by omega) hf;rw [<- hz,<- List.map_replicate] at hr;exact hr
theorem LR.cutRowT {α:Type} {enc:α -> List DV} {L:List α} {x hi:Operand} {id m k:Nat} {t e:TypeId} {kx:IntKind} {j:Int} (js:List Nat) (hu:P.underlying t = some (.slice e)) (hs:∀ w,(sizeOf e).run P w = .ok k w) (hx:s.ev x = some (.row id m)) (hm:m = L.length) (hl:look s.objs id = some (.row e k (L.map enc)))
  (hh:s.ev hi = some (.d (.v (.int kx j)))) (hb:0 <= (0:Int) /\ 0 <= j /\ j <= (L.length:Int)) (ha:(s.junks js).alone id = true) :
  Local P ctx ⟨dst,.slice t x none (some hi) none,ty,pos,after,gd⟩ s (((s.junks js).setO id (.row e k (List.map enc (L.take j.toNat)))).putD dst (.row id j.toNat)):=by
 have:=LR.cutRow (P:=P) (ctx:=ctx) (dst:=dst) (ty:=ty) (pos:=pos) (after:=after) (gd:=gd) (m:=j.toNat) js hu hs hx hl (by simp [hm]) hh (by omega) (by omega) ha
 rwa [<- List.map_take] at this
end
end Go.Ep
namespace Go.Ep
theorem Sub.nilRow {ctx:Ctx} {s:PState} (t id e k:Nat) (hs:s.at t = some (.d (.v (.slice none 0 0)))) (hf:s.fresh id = true):Sub ctx s { n:=s.n,sl:=(t,.row id 0) :: s.sl,objs:=zd id (.row e k []) s.objs }:=by
 rintro a w ⟨g,hg⟩;have hn:=hg.new (Go.RowKit.Below.refl _ w) hf none (fun b n e=>by cases e) (.row e k []) (.rowNil e k (zG _ _ _));refine ⟨_,⟨hn.defers,hn.size,?_,hn.objs,hn.inj,hn.own,hn.os,hn.tape,hn.output,hn.grows,hn.keep⟩⟩;intro i p hp;rcases Uy { s with objs:=zd id (.row e k []) s.objs } t (.row id 0) i p hp with ⟨rfl,rfl⟩ | ⟨_,h2⟩
 ·have hv:=(hg.slots t _ hs).of_v;rw [hv];exact .rowNil id (zG _ _ _)
 ·exact hn.slots i p h2
end Go.Ep
namespace Go.Ep
section
variable {P:Program} {ctx:Ctx} {ops:Array Oper} {Q:PState -> Prop}
theorem Xo {s t:PState} (hn:s.n = t.n) (h:∀ i p,t.at i = some p -> s.at i = some p) (d:Option Nat) (q:PV):∀ i p,(t.putD d q).at i = some p -> (s.putD d q).at i = some p:=by
 cases d with
 | none=>exact h
 | some d=>
  intro i p hp;simp only [PState.putD,YN] at hp ⊢
  by_cases h1:i < t.n
  ·rw [if_pos h1] at hp;rw [if_pos (by omega)]
   by_cases h2:d = i
   ·rw [if_pos h2] at hp ⊢;exact hp
   ·rw [if_neg h2] at hp ⊢;exact h i p hp
  ·rw [if_neg h1] at hp;cases hp
theorem ev_sub {s t:PState} (h:∀ i p,t.at i = some p -> s.at i = some p) {x:Operand} {q:PV} (hx:t.ev x = some q):s.ev x = some q:=by
 cases x with
 | tmp i=>exact h i q hx
 | const v=>cases v <;> exact hx
 | func f=>exact hx
 | global g=>exact hx
theorem PQl.forget {l:List Oper} {t:PState} (h:PQl P ctx ops Q l t):∀ {s:PState},s.n = t.n -> (∀ i p,t.at i = some p -> s.at i = some p) -> s.objs = t.objs -> PQl P ctx ops Q l s:=by
 induction h with
 | fin h hs=>intro s hn hi ho;exact .fin h (Sub.trans (Sub.drop hn hi (fun id o hl=>by rw [ho];exact hl)) hs)
 | step hl hg _ ih=>intro s hn hi ho;exact .step (fun s' h1 h2=>hl s' (fun hx hq=>h1 hx (ev_sub hi hq)) (fun hob=>h2 (by rw [ho];exact hob))) hg (ih (by simp [vd,hn]) (Xo hn hi _ _) (by simp [yD,ho]))
 | guardT hl hg hd hs _ ih=>intro s hn hi ho;exact .guardT (fun s' h1 h2=>hl s' (fun hx hq=>h1 hx (ev_sub hi hq)) (fun hob=>h2 (by rw [ho];exact hob))) hg hd (hi _ _ hs) (ih (by simp [vd,hn]) (Xo hn hi _ _) (by simp [yD,ho]))
 | guardF hg hd hs hbc _ ih=>intro s hn hi ho;exact .guardF hg hd (hi _ _ hs) hbc (ih (by simp [vd,hn]) (Xo hn hi _ _) (by simp [yD,ho]))
 | guardU hg hd hs _ ih=>intro s hn hi ho;exact .guardU hg hd (hi _ _ hs) (ih (by simp [vd,hn]) (Xo hn hi _ _) (by simp [yD,ho]))
theorem PQl.keep {l:List Oper} {s:PState} {n:Nat} {tl:List (Nat × PV)} (hn:s.n = n) (h:Fgt s tl) (k:PQl P ctx ops Q l ⟨n,tl,s.objs⟩):PQl P ctx ops Q l s:=
 k.forget (t:=⟨n,tl,s.objs⟩) hn (fun i p hp=>h.get i p (xI hp)) rfl
end
end Go.Ep
namespace Go.Ep
section
variable {P:Program} {ctx:Ctx}
theorem PWl.re {Q:PQ} {ops:Array Oper} {l:List Oper} {s:PState} {n:Nat} {tl:List (Nat × PV)} {to:List (Nat × Ob)} (hn:s.n = n) (h:Fgt s tl) (ho:OFgt s.objs to) (k:PWl P ctx ops Q l ⟨n,tl,to⟩):PWl P ctx ops Q l s:=PWl.sub (Sub.of hn h ho) k
end
end Go.Ep
namespace Go.Ep
theorem wE : type_of% @PWl.re:=@PWl.re
theorem wJ : type_of% @PWc.jn:=@PWc.jn
theorem cN : type_of% @LR.callN:=@LR.callN
theorem iX : type_of% @LR.idxT:=@LR.idxT
theorem wM : type_of% @PWc.loopM:=@PWc.loopM
theorem wy {P:Program} {ctx:Ctx} {Q:PQ} {s:PState} {ops:Array Oper} {l:List Oper} {n:Nat} {tl:List (Nat × PV)} {to:List (Nat × Ob)} (k:PWl P ctx ops Q l ⟨n,tl,to⟩) (hn:s.n = n:=by exact rfl) (h:Fgt s tl:=by repeat' constructor) (ho:OFgt s.objs to:=by repeat' constructor):PWl P ctx ops Q l s:=PWl.re hn h ho k
theorem kK {P:Program} {ctx:Ctx} {ops:Array Oper} {Q:PState -> Prop} {l:List Oper} {s:PState} {n:Nat} {tl:List (Nat × PV)} (k:PQl P ctx ops Q l ⟨n,tl,s.objs⟩) (hn:s.n = n:=by exact rfl) (h:Fgt s tl:=by repeat' constructor):PQl P ctx ops Q l s:=PQl.keep hn h k
theorem xN {P:Program} {ctx:Ctx} {Q:PQ} {s:PState} {ops:Array Oper} {rest:List Oper} {dst:Option Tmp} {ty:TypeId} {pos:String} {after:Array Edge} {gd:Option (Nat × Bool)} {x:Operand} {xs:List Operand} {ats:Array TypeId} {f:FuncId} {ps qs:List PV} {r:PV} (hc:PFun P f ps r) (he:∀ args w,(callFunc f args).run P w = .ok (.enter f args) w) (h:PWl P ctx ops Q rest (s.putD dst r)) (hx:s.ev x = some (.d (.v (.func (.func f) #[] #[]))):=by exact rfl) (hps:s.evs xs = some qs:=by exact rfl) (hq:qs.map PV.nilD = ps:=by exact rfl) (hd:PV.isData.isDataL ps = true:=by exact rfl) (hr:r.isData = true:=by exact rfl) (hg:gd = none:=by exact rfl):PWl P ctx ops Q (⟨dst,.call ⟨.value x,xs.toArray,ats⟩,ty,pos,after,gd⟩ :: rest) s:=PWl.step (LR.callN hc hx he hps hq hd hr) hg h
theorem xD {P:Program} {ctx:Ctx} {Q:PQ} {s:PState} {c:Operand} {x y:Code} {b:Bool} {β:Type} {X Y:M β} {R:β -> Prop} (h:(_root_.cond b X Y).wp R) (hc:s.ev c = some (.d (.v (.bool b)))) (ht:b = true -> X.wp R -> PWc P ctx x Q s) (hf:b = false -> Y.wp R -> PWc P ctx y Q s):PWc P ctx (.cond c x y) Q s:=PWc.cond hc (fun e=>ht e (iT e h)) (fun e=>hf e (iF e h))
theorem xG {P:Program} {ctx:Ctx} {ops:Array Oper} {Q:PQ} {rest:List Oper} {s:PState} {d:Nat} {b:Bool} {β:Type} {X Y:M β} {R:β -> Prop} (h:(_root_.cond b X Y).wp R) (hs:s.at d = some (.d (.v (.bool b)))) (ht:b = true -> X.wp R -> PWl P ctx ops Q rest (s.put d (.d (.v (.bool true))))) (hf:b = false -> Y.wp R -> PWl P ctx ops Q rest (s.put d (.d (.v (.bool false))))):PWl P ctx ops Q rest s:=PWl.split hs (fun e=>ht e (iT e h)) (fun e=>hf e (iF e h))
theorem xQ {P:Program} {ctx:Ctx} {ops:Array Oper} {Q:PState -> Prop} {rest:List Oper} {s:PState} {d:Nat} {b:Bool} {β:Type} {X Y:M β} {R:β -> Prop} (h:(_root_.cond b X Y).wp R) (hs:s.at d = some (.d (.v (.bool b)))) (ht:b = true -> X.wp R -> PQl P ctx ops Q rest (s.put d (.d (.v (.bool true))))) (hf:b = false -> Y.wp R -> PQl P ctx ops Q rest (s.put d (.d (.v (.bool false))))):PQl P ctx ops Q rest s:=PQl.split hs (fun e=>ht e (iT e h)) (fun e=>hf e (iF e h))
end Go.Ep
namespace Go.Ep
structure DT where
 dev:Int
 n:Int
 deriving DecidableEq
structure EV where
 dot:DT
 kind:Int
 cid:Int
 field:Int
 text:ByteArray
 kills:List DT
 deriving DecidableEq
structure RN where
 lo:Int
 hi:Int
 deriving DecidableEq
structure PT where
 dev:Int
 runs:List RN
 deriving DecidableEq
end Go.Ep

namespace Go.Ep
def DT.e (x:DT):List DV:=[.v (.int .u16 x.dev),.v (.int .u64 x.n)]
def DT.v (x:DT):List Value:=[(.int .u16 x.dev),(.int .u64 x.n)]
theorem DT.v1 (x:DT):∀ u ∈ x.v,u.oneCell' = true:=by
 intro u hu;simp only [DT.v,List.mem_cons,List.not_mem_nil,or_false] at hu;rcases hu with rfl | rfl <;> rfl
def DT.k (x:DT):List Int:=[x.dev,x.n]
theorem DT.k_inj (a b:DT) (h:a.k = b.k):a = b:=by
 cases a;cases b;simp [DT.k] at h;simp [h]
def EV.e (x:EV):List DV:=[.v (.int .u16 x.dot.dev),.v (.int .u64 x.dot.n),.v (.int .u8 x.kind),.v (.int .u64 x.cid),.v (.int .u8 x.field),.v (.string x.text),.sl (List.map DT.e x.kills)]
def RN.e (x:RN):List DV:=[.v (.int .u64 x.lo),.v (.int .u64 x.hi)]
def RN.v (x:RN):List Value:=[(.int .u64 x.lo),(.int .u64 x.hi)]
theorem RN.v1 (x:RN):∀ u ∈ x.v,u.oneCell' = true:=by
 intro u hu;simp only [RN.v,List.mem_cons,List.not_mem_nil,or_false] at hu;rcases hu with rfl | rfl <;> rfl
def RN.k (x:RN):List Int:=[x.lo,x.hi]
def PT.e (x:PT):List DV:=[.v (.int .u16 x.dev),.sl (List.map RN.e x.runs)]
end Go.Ep

namespace Go.Ep
open Go.RowKit
section
variable {P:Program}
theorem WR {kt:TypeId} {k1 k2:IntKind} (he:∀ {a0 a1 b0 b1:Int},QB P kt [.int k1 a0,.int k2 a1] [.int k1 b0,.int k2 b1] (decide (a0 = b0) && decide (a1 = b1))) (w:World) (x y:Int) :
  ∀ (m:Mp) (es:List MapEntry) (i:Nat),es.length = m.length -> (∀ (i:Nat) (e:MapEntry) (n:List Int) (c:List DV),es[i]? = some e -> m[i]? = some (n,c) -> e.key = vD [k1,k2] n /\ n.length = 2) ->
  (Instr.findAsking kt (vD [k1,k2] [x,y]) es i).run P w = .ok ((yO [x,y] m 0).bind fun j=>(es[j]?).map fun e=>(i + j,e.val)) w
 | [],es,i,hl,_=>by
  have:es = []:=List.eq_nil_of_length_eq_zero hl;subst this;simp [Instr.findAsking,yO]
 | (ns,c) :: m,[],i,hl,_=>by simp at hl
 | (ns,c) :: m,e :: es,i,hl,h=>by
  obtain ⟨hk,hn⟩:=h 0 e ns c rfl rfl;obtain ⟨a,b,rfl⟩:∃ a b,ns = [a,b]:=by
   match ns,hn with
   | [a,b],_=>exact ⟨a,b,rfl⟩
  have ih:=WR he w x y m es (i + 1) (by simpa using hl) (fun j e' n' c' h1 h2=>h (j + 1) e' n' c' (by simpa using h1) (by simpa using h2));have heq:(Op.equal kt (vD [k1,k2] [x,y]) e.key).run P w = .ok (decide (x = a) && decide (y = b)) w:=by
   rw [hk];exact (he (a0:=x) (a1:=y) (b0:=a) (b1:=b)).2 w
  unfold Instr.findAsking;simp only [Sem.run_bind,heq,Result.andThen_ok,Sem.run_ite]
  by_cases e1:x = a /\ y = b
  ·obtain ⟨rfl,rfl⟩:=e1;simp [yO]
  ·have e2:¬ ([a,b]:List Int) = [x,y]:=fun h=>e1 (by simp at h;exact ⟨h.1.symm,h.2.symm⟩)
   have e3:(decide (x = a) && decide (y = b)) = false:=by
    rw [Bool.and_eq_false_iff,decide_eq_false_iff_not,decide_eq_false_iff_not]
    by_cases h0:x = a
    ·exact .inr fun h=>e1 ⟨h0,h⟩
    ·exact .inl h0
   rw [e3,if_neg (by simp),ih];show _ = Result.ok ((if [a,b] = [x,y] then some 0 else yO [x,y] m (0 + 1)).bind _) w;rw [if_neg e2,xF [x,y] m (0 + 1)]
   cases yO [x,y] m 0 with
   | none=>rfl
   | some j=>
    simp only [Option.map_some,Option.bind_some,Nat.zero_add,Nat.add_comm 1 j,List.getElem?_cons_succ]
    cases es[j]? with
    | none=>rfl
    | some z=>simp;omega
theorem KeyOK.pair {kt:TypeId} {k1 k2:IntKind} {d:TypeDesc} (hu:P.underlying kt = some d) (hd:∀ us vs,Instr.sameNow d (.agg us) (.agg vs) = none)
  (hc:∀ (w:World) (e:Bool) (a b:Int),(Instr.checkKey e 10000 kt (.agg #[.int k1 a,.int k2 b])).run P w = .ok () w)
  (he:∀ {a0 a1 b0 b1:Int},QB P kt [.int k1 a0,.int k2 a1] [.int k1 b0,.int k2 b1] (decide (a0 = b0) && decide (a1 = b1))):KeyOK P kt [k1,k2]:=by
 refine ⟨fun w e ns hn=>?_,fun w ns m es hn hl h=>?_⟩
 ·obtain ⟨a,b,rfl⟩:∃ a b,ns = [a,b]:=by
   match ns,hn with
   | [a,b],_=>exact ⟨a,b,rfl⟩
  exact hc w e a b
 ·obtain ⟨a,b,rfl⟩:∃ a b,ns = [a,b]:=by
   match ns,hn with
   | [a,b],_=>exact ⟨a,b,rfl⟩
  unfold Instr.findKey;simp only [Sem.run_bind,run_underlying hu,Result.andThen_ok]
  cases es with
  | nil=>
   have:m = []:=List.eq_nil_of_length_eq_zero (by simpa using hl.symm);subst this;simp [Instr.findNow,yO]
  | cons e r=>
   have hnow:Instr.findNow d (vD [k1,k2] [a,b]) (e :: r) 0 = none:=by
    unfold Instr.findNow
    cases m with
    | nil=>simp at hl
    | cons x m'=>
     obtain ⟨n,c⟩:=x;obtain ⟨hk,hn2⟩:=h 0 e n c rfl rfl;obtain ⟨a',b',rfl⟩:∃ a b,n = [a,b]:=by
      match n,hn2 with
      | [a,b],_=>exact ⟨a,b,rfl⟩
     rw [hk];have:=hd #[.int k1 a,.int k2 b] #[.int k1 a',.int k2 b'];show (match Instr.sameNow d (.agg #[.int k1 a,.int k2 b]) (.agg #[.int k1 a',.int k2 b']) with | some true=>_ | some false=>_ | none=>_) = _;rw [this]
   rw [hnow];have:=WR he w a b m (e :: r) 0 hl h;simp only [Nat.zero_add] at this;exact this
end
end Go.Ep

namespace Go.Proofs
open Go.Ep
set_option linter.unusedSimpArgs false

theorem xq : ElemOK Tryz.prog 22 34 7 80:=ElemOK.mk' (z:=.agg #[.int .u16 0,.int .u64 0,.int .u8 0,.int .u64 0,.int .u8 0,.string ⟨#[]⟩,.slice none 0 0]) Tryz.underlying22 (by kernel_rfl) rfl
theorem vJ : ElemOK Tryz.prog 32 31 2 16:=ElemOK.mk' (z:=.agg #[.int .u16 0,.int .u64 0]) Tryz.underlying32 (by kernel_rfl) rfl
theorem WS : ElemOK Tryz.prog 42 63 2 32:=ElemOK.mk' (z:=.agg #[.int .u16 0,.slice none 0 0]) Tryz.underlying42 (by kernel_rfl) rfl
theorem wd : ElemOK Tryz.prog 61 79 2 16:=ElemOK.mk' (z:=.agg #[.int .u64 0,.int .u64 0]) Tryz.underlying61 (by kernel_rfl) rfl
theorem Qz : ElemOK Tryz.prog 89 55 1 8:=ElemOK.mk' (z:=.map none) Tryz.underlying89 (by kernel_rfl) rfl
theorem elem118 : ElemOK Tryz.prog 118 42 1 24:=ElemOK.mk' (z:=.slice none 0 0) Tryz.underlying118 (by kernel_rfl) rfl
theorem XG : ElemOK Tryz.prog 133 29 1 8:=ElemOK.mk' (z:=.int .u64 0) Tryz.underlying133 (by kernel_rfl) rfl
theorem ul : YA Tryz.prog 31 [(0,1),(1,1)] [.int .u16 0,.int .u64 0]:=fun parts=>by kernel_rfl
theorem WT : YA Tryz.prog 34 [(0,2),(2,1),(3,1),(4,1),(5,1),(6,1)] [.int .u16 0,.int .u64 0,.int .u8 0,.int .u64 0,.int .u8 0,.string ⟨#[]⟩,.slice none 0 0]:=fun parts=>by kernel_rfl
theorem build57 : YA Tryz.prog 57 [(0,1),(1,1),(2,1)] [.slice none 0 0,.map none,.map none]:=fun parts=>by kernel_rfl
theorem JC : YA Tryz.prog 63 [(0,1),(1,1)] [.int .u16 0,.slice none 0 0]:=fun parts=>by kernel_rfl
theorem UC : YA Tryz.prog 79 [(0,1),(1,1)] [.int .u64 0,.int .u64 0]:=fun parts=>by kernel_rfl
theorem eq31 {a0 b0:Int} {a1 b1:Int}:QB Tryz.prog 31 [.int .u16 a0,.int .u64 a1] [.int .u16 b0,.int .u64 b1] ((decide (a0 = b0) && decide (a1 = b1))):=by
 refine ⟨by kernel_rfl,fun w=>?_⟩;have hu:Tryz.prog.underlying 31 = some (.struct (Tryz.prog.fieldsOf 31)):=by simp only [Program.fieldsOf,Tryz.underlying31]
 rw [run_equalIn_agg w 9999 31 _ _ hu (by kernel_rfl)];simp [Program.fieldsOf,Tryz.underlying31,Op.eqFields,part,Tryz.isAgg28,Tryz.isAgg29,run_equalIn_int _ 9998 28 _ _ _ _ Tryz.underlying28,run_equalIn_int _ 9998 29 _ _ _ _ Tryz.underlying29,Result.andThen,YO]
 all_goals (repeat' split) <;> simp_all
theorem eq79 {a0 b0:Int} {a1 b1:Int}:QB Tryz.prog 79 [.int .u64 a0,.int .u64 a1] [.int .u64 b0,.int .u64 b1] ((decide (a0 = b0) && decide (a1 = b1))):=by
 refine ⟨by kernel_rfl,fun w=>?_⟩;have hu:Tryz.prog.underlying 79 = some (.struct (Tryz.prog.fieldsOf 79)):=by simp only [Program.fieldsOf,Tryz.underlying79]
 rw [run_equalIn_agg w 9999 79 _ _ hu (by kernel_rfl)];simp [Program.fieldsOf,Tryz.underlying79,Op.eqFields,part,Tryz.isAgg29,run_equalIn_int _ 9998 29 _ _ _ _ Tryz.underlying29,Result.andThen,YO]
 all_goals (repeat' split) <;> simp_all
theorem chk55 : ∀ (w:World) (e:Bool) (a b:Int),(Instr.checkKey e 10000 31 (.agg #[.int .u16 a,.int .u64 b])).run Tryz.prog w = .ok () w:=by
 intro w e a b;have q1:∀ w,(Instr.checkKey e 9999 28 (.int .u16 a)).run Tryz.prog w = .ok () w:=fun w=>MapKept.run_checkKey (k:=.int .u16 a) Tryz.underlying28 rfl e 9998
 have q2:∀ w,(Instr.checkKey e 9999 29 (.int .u64 b)).run Tryz.prog w = .ok () w:=fun w=>MapKept.run_checkKey (k:=.int .u64 b) Tryz.underlying29 rfl e 9998
 unfold Instr.checkKey;simp [run_underlying Tryz.underlying31,Result.andThen,part,Tryz.isAgg28,Tryz.isAgg29,q1,q2]
theorem zAa : KeyOK Tryz.prog 31 [.u16,.u64]:=KeyOK.pair Tryz.underlying31 (fun _ _=>rfl) chk55 eq31
theorem UD : KeyOK Tryz.prog 28 [.u16]:=KeyOK.int Tryz.underlying28
end Go.Proofs

namespace Go.Ep
def zJ (x y:DT):Bool:=decide (x.dev < y.dev) || (decide (x.dev = y.dev) && decide (x.n < y.n))
def VN (x y:RN):Bool:=decide (x.lo < y.lo)
def Va (x y:PT):Bool:=decide (x.dev < y.dev)
def uM (x y:EV):Bool:=decide (x.dot.dev < y.dot.dev) || (decide (x.dot.dev = y.dot.dev) && decide (x.dot.n < y.dot.n))
end Go.Ep

namespace Go.Ep
open Go

def ZM (l1:List EV):Int -> M (M.Step Int (M.Ex Unit Bool)):=fun i21=>
 cond ((decide (i21 < (l1.length:Int))))
  (M.bind (M.bind (M.idx l1 i21) fun x24=>
  cond ((decide (300 < (x24.kills.length:Int))))
   (M.pure true)
   (M.bind (M.idx l1 i21) fun x27=>
   M.pure ((decide (200 < (ByteArray.size x27.text:Int)))))) (fun v23=>
  cond v23
   (M.pure (.done (.ret false)))
   (M.pure (.next (IntKind.i64.wrap (i21 + 1))))))
  (M.pure (.done (.brk ())))
def UE (l1:List EV) (most2:Int):M Bool:=
 cond ((decide (most2 < (l1.length:Int))))
  (M.pure false)
  (M.bind (M.loop (ZM l1) 0) (M.exk (fun _=>
  M.pure true)))

def wh (l1:List EV) (i69:Int):Int -> M (M.Step Int (M.Ex Unit (M.Step Int (M.Ex Unit Bool)))):=fun k92=>
 M.bind (M.idx l1 i69) fun x93=>
 cond ((decide (k92 < (x93.kills.length:Int))))
  (M.bind (M.idx l1 i69) fun x96=>
  M.bind (M.idx x96.kills k92) fun x98=>
  M.bind (M.idx l1 i69) fun x100=>
  cond (decide (x100.dot.n <= x98.n))
   (M.pure (.done ((.ret (.done (.ret false))))))
   (M.pure (.next (IntKind.i64.wrap (k92 + 1)))))
  (M.pure (.done (.brk ())))
def YS (l1:List EV):Int -> M (M.Step Int (M.Ex Unit Bool)):=fun i69=>
 cond ((decide (i69 < (l1.length:Int))))
  (M.bind (M.loop (wh l1 i69) 0) (M.exk (fun _=>
  M.pure (.next (IntKind.i64.wrap (i69 + 1))))))
  (M.pure (.done (.brk ())))
def ZN (l1:List EV):M Bool:=
 M.bind (M.loop (YS l1) 0) (M.exk (fun _=>
 M.pure true))

def yp (d1:DT):M Bool:=
 M.bind (cond (decide (0 < d1.dev))
  (cond (decide (0 < d1.n))
   (M.pure (decide (d1.n <= 281474976710655)))
   (M.pure false))
  (M.pure false)) (fun v2=>
 M.pure v2)

def uN (v1:Int):M (Int × Int):=
 M.pure (((IntKind.u16.wrap (Int.fdiv v1 (2 ^ 48))),(bAnd .u64 v1 281474976710655)))

def ZO (v1:Int):M (DT × Bool):=
 M.bind (M.det (uN v1)) fun v2=>
 M.bind (M.det (yp (⟨v2.1,v2.2⟩:DT))) fun v4=>
 cond (!v4)
  (M.pure ((⟨0,0⟩:DT),false))
  (M.pure ((⟨v2.1,v2.2⟩:DT),true))

def ZP (f1:Int):M Bool:=
 M.bind (cond (decide (1 <= f1))
  (M.pure (decide (f1 <= 5)))
  (M.pure false)) (fun v2=>
 M.pure v2)

def xL (s1:ByteArray):Int -> M (M.Step Int (M.Ex Unit Bool)):=fun v20=>
 cond ((decide (v20 < (ByteArray.size s1:Int))))
  (M.bind (M.bind (M.idx (wc s1) v20) fun b23=>
  cond (decide (b23 < 32))
   (M.pure true)
   (M.bind (M.idx (wc s1) v20) fun b26=>
   M.pure (decide (126 < b26)))) (fun v22=>
  cond v22
   (M.pure (.done (.ret false)))
   (M.pure (.next (IntKind.i64.wrap (v20 + 1))))))
  (M.pure (.done (.brk ())))
def ZQ (s1:ByteArray):M Bool:=
 cond ((decide (60 < (ByteArray.size s1:Int))))
  (M.pure false)
  (M.bind (M.loop (xL s1) 0) (M.exk (fun _=>
  M.pure true)))

def xA (x1:Int):M Bool:=
 M.pure (!decide (x1 = x1))

def yQ (x1:Int) (y2:Int):M Int:=
 M.bind (M.det (xA x1)) fun v3=>
 M.bind (M.det (xA y2)) fun v5=>
 cond v3
  (cond v5
   (M.pure 0)
   (M.pure (-1)))
  (cond v5
   (M.pure 1)
   (cond (decide (x1 < y2))
    (M.pure (-1))
    (cond (decide (y2 < x1))
     (M.pure 1)
     (M.pure 0))))

def xB (x1:Int):M Bool:=
 M.pure (!decide (x1 = x1))

def yd (x1:Int) (y2:Int):M Int:=
 M.bind (M.det (xB x1)) fun v3=>
 M.bind (M.det (xB y2)) fun v5=>
 cond v3
  (cond v5
   (M.pure 0)
   (M.pure (-1)))
  (cond v5
   (M.pure 1)
   (cond (decide (x1 < y2))
    (M.pure (-1))
    (cond (decide (y2 < x1))
     (M.pure 1)
     (M.pure 0))))

def UF (a1:DT) (b2:DT):M Int:=
 M.bind (M.det (yd a1.dev b2.dev)) fun v3=>
 cond (!decide (v3 = 0))
  (M.pure v3)
  (M.bind (M.det (yQ a1.n b2.n)) fun v6=>
  M.pure v6)

def yR (l1:List DT):Int -> M (M.Step Int (M.Ex Unit Bool)):=fun v23=>
 cond ((decide (v23 < (l1.length:Int))))
  (M.bind (cond (decide (0 < v23))
   (M.bind (M.idx l1 (IntKind.i64.wrap (v23 - 1))) fun x27=>
   M.bind (M.idx l1 v23) fun x29=>
   M.bind (M.det (UF x27 x29)) fun v31=>
   M.pure (decide (0 <= v31)))
   (M.pure false)) (fun v25=>
  cond v25
   (M.pure (.done (.ret false)))
   (M.pure (.next (IntKind.i64.wrap (v23 + 1))))))
  (M.pure (.done (.brk ())))
def ZR (l1:List DT):M Bool:=
 M.bind (M.loop (yR l1) 0) (M.exk (fun _=>
 M.pure true))

def xM (e1:EV):Int -> M (M.Step Int (M.Ex Unit Bool)):=fun v43=>
 cond ((decide (v43 < (e1.kills.length:Int))))
  (M.bind (M.idx e1.kills v43) fun x45=>
  M.bind (M.bind (M.det (yp x45)) fun v48=>
  cond (!v48)
   (M.pure true)
   (M.pure (((decide (x45.dev = e1.dot.dev) && decide (x45.n = e1.dot.n)))))) (fun v47=>
  cond v47
   (M.pure (.done (.ret false)))
   (M.pure (.next (IntKind.i64.wrap (v43 + 1))))))
  (M.pure (.done (.brk ())))
def vw (e1:EV):M Bool:=
 M.bind (M.det (ZO e1.cid)) fun v2=>
 M.bind (cond (!v2.2)
  (M.pure true)
  (M.bind (M.det (yp e1.dot)) fun v6=>
  M.pure (!v6))) (fun v4=>
 cond v4
  (M.pure false)
  (M.bind (cond (decide (e1.kind = 1))
   (M.bind (M.bind (M.det (ZP e1.field)) fun v11=>
   cond (!v11)
    (M.pure true)
    (M.bind (M.det (ZQ e1.text)) fun v14=>
    M.pure (!v14))) (fun v10=>
   cond v10
    (M.pure (.ret false))
    (M.pure (.brk ()))))
   (cond (decide (e1.kind = 2))
    (M.bind (cond (!decide (e1.field = 0))
     (M.pure true)
     (M.pure ((!decide (e1.text = (⟨#[]⟩:ByteArray)))))) (fun v18=>
    cond v18
     (M.pure (.ret false))
     (M.pure (.brk ()))))
    (M.pure (.ret false)))) (M.exk (fun _=>
  M.bind (cond ((decide (256 < (e1.kills.length:Int))))
   (M.pure true)
   (M.bind (M.det (ZR e1.kills)) fun v23=>
   M.pure (!v23))) (fun v21=>
  cond v21
   (M.pure false)
   (M.bind (M.loop (xM e1) 0) (M.exk (fun _=>
   M.pure true))))))))

def xr (l1:List RN):Int × List RN -> M (M.Step (Int × List RN) (List RN)):=fun ⟨v23,some24⟩=>
 cond ((decide (v23 < (l1.length:Int))))
  (M.bind (M.bind (M.idx l1 v23) fun x27=>
  M.bind (cond (decide (0 < x27.lo))
   (cond (decide (x27.lo <= x27.hi))
    (M.pure (decide (x27.hi <= 281474976710655)))
    (M.pure false))
   (M.pure false)) (fun v29=>
  cond v29
   (M.yY ((some24.length + List.length ([x27])) * 16 <= 140737488355328) <|
   M.pure (some24 ++ [x27]))
   (M.pure some24))) (fun some26=>
  M.pure (.next (((IntKind.i64.wrap (v23 + 1)),some26)))))
  (M.pure (.done some24))
def xt (some2:List RN) (s34:List RN):Int × List RN -> M (M.Step (Int × List RN) (List RN)):=fun ⟨v69,out70⟩=>
 cond ((decide (v69 < ((some2.length):Int))))
  (M.bind (M.bind (M.idx s34 v69) fun x73=>
  M.bind (cond ((decide (0 <= ((IntKind.i64.wrap (((out70.length):Int) - 1))))))
   (M.bind (M.idx out70 ((IntKind.i64.wrap (((out70.length):Int) - 1)))) fun x77=>
   M.pure ((decide (x73.lo <= (IntKind.u64.wrap (x77.hi + 1))))))
   (M.pure false)) (fun v75=>
  cond v75
   (M.bind (M.idx out70 ((IntKind.i64.wrap (((out70.length):Int) - 1)))) fun x80=>
   M.bind (M.idx out70 ((IntKind.i64.wrap (((out70.length):Int) - 1)))) fun x82=>
   M.pure ((List.set out70 ((Int.toNat ((IntKind.i64.wrap (((out70.length):Int) - 1))))) (⟨x82.lo,(max x80.hi x73.hi)⟩:RN))))
   (M.yY ((out70.length + List.length ([x73])) * 16 <= 140737488355328) <|
   M.pure (out70 ++ [x73])))) (fun out72=>
  M.pure (.next (((IntKind.i64.wrap (v69 + 1)),out72)))))
  (M.pure (.done out70))
def xu (l1:List RN):M (List RN):=
 M.bind (M.loop (xr l1) (0,([]:List RN))) (fun some2=>
 M.yY (some2.length < 4611686018427387904)<|M.bind (M.srt VN some2) fun s34=>
 M.bind (M.loop (xt some2 s34) (0,([]:List RN))) (fun out38=>
 M.pure out38))

def vK (x1:RN) (n2:Int):M Int:=
 M.bind (M.det (yQ x1.hi n2)) fun v3=>
 M.pure v3

def zL (x1:List RN) (target2:Int):Int × Int -> M (M.Step (Int × Int) Int):=fun ⟨i18,j19⟩=>
 cond (decide (i18 < j19))
  (M.bind (M.idx x1 ((IntKind.i64.wrap ((Int.fdiv ((IntKind.u64.wrap (IntKind.i64.wrap (i18 + j19)))) (2 ^ 1)))))) fun x21=>
  M.bind (M.det (vK x21 target2)) fun v23=>
  cond (decide (v23 < 0))
   (M.pure (.next (((IntKind.i64.wrap (((IntKind.i64.wrap ((Int.fdiv ((IntKind.u64.wrap (IntKind.i64.wrap (i18 + j19)))) (2 ^ 1))))) + 1)),j19))))
   (M.pure (.next ((i18,(IntKind.i64.wrap ((Int.fdiv ((IntKind.u64.wrap (IntKind.i64.wrap (i18 + j19)))) (2 ^ 1)))))))))
  (M.pure (.done i18))
def zI (x1:List RN) (target2:Int):M (Int × Bool):=
 M.bind (M.loop (zL x1 target2) (0,(x1.length:Int))) (fun i3=>
 M.bind (cond ((decide (i3 < (x1.length:Int))))
  (M.bind (M.idx x1 i3) fun x28=>
  M.bind (M.det (vK x28 target2)) fun v30=>
  M.pure (decide (v30 = 0)))
  (M.pure false)) (fun v26=>
 M.pure (i3,v26)))

def Xp (l1:List RN) (n2:Int):M Bool:=
 M.bind (M.det (xu l1)) fun v3=>
 M.bind (M.det (zI v3 n2)) fun v5=>
 M.bind (cond ((decide (v5.1 < (v3.length:Int))))
  (M.bind (M.idx v3 v5.1) fun x9=>
  M.pure (decide (x9.lo <= n2)))
  (M.pure false)) (fun v7=>
 M.pure v7)

def zU (p:PT):Option (Int × List RN):=if 0 < p.dev then some (p.dev,p.runs) else none
def YT (c1:List PT):M (List (Int × List RN)):=
 M.yY (AL.growOK 16 (c1.length) (List.filterMap zU c1)) <|
 M.pure ((AL.grow ([]:List (Int × List RN)) (List.filterMap zU c1)))

def Xq (c1:List PT) (dev2:Int):M (List RN):=
 M.bind (M.det (YT c1)) fun v3=>
 M.bind (M.det (xu (AL.getZ v3 dev2 ([]:List RN)))) fun v6=>
 M.pure v6

def uO (c1:List PT) (d2:DT):M Bool:=
 M.bind (cond (decide (0 < d2.dev))
  (M.bind (M.det (Xq c1 d2.dev)) fun v5=>
  M.bind (M.det (Xp v5 d2.n)) fun v7=>
  M.pure v7)
  (M.pure false)) (fun v3=>
 M.pure v3)

def ve (m1:List (Int × List RN)):List Nat × List PT -> M (M.Step (List Nat × List PT) (List PT)):=fun ⟨seen28,c29⟩=>
 M.yY (∀ i ∈ seen28,i < m1.length)<|M.bind (M.nxt (m1.length) seen28) fun o=>match o with
 | none=>
  M.pure (.done c29)
 | some j30=>
  M.bind (M.idx m1 (Int.ofNat j30)) fun kv34=>
  M.bind (M.det (xu kv34.2)) fun v36=>
  cond ((decide (0 < ((v36.length):Int))))
   (M.yY ((c29.length + List.length ([(⟨kv34.1,v36⟩:PT)])) * 32 <= 140737488355328) <|
   M.pure (.next (((seen28 ++ [j30]),(c29 ++ [(⟨kv34.1,v36⟩:PT)])))))
   (M.pure (.next ((seen28 ++ [j30]),c29)))
def vy (m1:List (Int × List RN)):M (List PT):=
 M.bind (M.loop (ve m1) ([],([]:List PT))) (fun c3=>
 M.yY (c3.length < 4611686018427387904)<|M.bind (M.srt Va c3) fun s41=>
 M.pure s41)

def YU (c1:List PT):M (List PT):=
 M.bind (M.det (YT c1)) fun v2=>
 M.bind (M.det (vy v2)) fun v5=>
 M.pure v5

def yB (n1:Int):M (List PT):=
 cond (decide (n1 < 0))
  M.fail
  (M.bind (cond ((decide (0 < ((IntKind.i64.wrap (n1 - (IntKind.i64.wrap (0 - 0))))))))
   (M.yY (0 < ((IntKind.i64.wrap (n1 - (IntKind.i64.wrap (0 - 0))))) /\ ((IntKind.i64.wrap (n1 - (IntKind.i64.wrap (0 - 0))))) * 32 <= 140737488355328) <|
   M.yY ((0:Int) <= 0 /\ (0:Int) <= 0 /\ 0 <= (List.length ((List.replicate (Int.toNat ((IntKind.i64.wrap (n1 - (IntKind.i64.wrap (0 - 0)))))) (⟨0,([]:List RN)⟩:PT))):Int)) <|
   M.pure ((List.take (Int.toNat 0) ((List.replicate (Int.toNat ((IntKind.i64.wrap (n1 - (IntKind.i64.wrap (0 - 0)))))) (⟨0,([]:List RN)⟩:PT))))))
   (M.pure ([]))) (fun v3=>
  M.pure v3))

def zR (slices1:List (List PT)):Int × Int -> M (M.Step (Int × Int) Int):=fun ⟨size13,v14⟩=>
 cond ((decide (v14 < (slices1.length:Int))))
  (M.bind (M.idx slices1 v14) fun x16=>
  cond ((decide (((IntKind.i64.wrap (size13 + (x16.length:Int)))) < 0)))
   M.fail
   (M.pure (.next (((IntKind.i64.wrap (size13 + (x16.length:Int))),(IntKind.i64.wrap (v14 + 1)))))))
  (M.pure (.done size13))
def zS (slices1:List (List PT)):Int × List PT -> M (M.Step (Int × List PT) (List PT)):=fun ⟨v32,v33⟩=>
 cond ((decide (v32 < (slices1.length:Int))))
  (M.bind (M.idx slices1 v32) fun x35=>
  M.yY ((v33.length + x35.length) * 32 <= 140737488355328) <|
  M.pure (.next (((IntKind.i64.wrap (v32 + 1)),(v33 ++ x35)))))
  (M.pure (.done v33))
def yM (slices1:List (List PT)):M (List PT):=
 M.bind (M.loop (zR slices1) (0,0)) (fun size2=>
 M.bind (M.det (yB size2)) fun v19=>
 M.bind (M.loop (zS slices1) (0,v19)) (fun v21=>
 M.pure v21))

def Xr (a1:List PT) (b2:List PT):M (List PT):=
 M.bind (M.det (yM ([a1,b2]))) fun v3=>
 M.bind (M.det (YU v3)) fun v5=>
 M.pure v5

def vz (d:DT):Bool:=decide (0 < d.dev) && (decide (0 < d.n) && decide (d.n <= 281474976710655))
theorem Xe (d:DT):yp d = M.pure (vz d):=by
 unfold yp vz;rw [M.zX,M.zX];rfl
def xP (d:DT):Option (Int × List RN):=if vz d then some (d.dev,[⟨d.n,d.n⟩]) else none
def Jy (l1:List DT):M (List PT):=
 M.yY (AL.growOK 16 (l1.length) (List.filterMap xP l1)) <|
 M.bind (M.det (vy ((AL.grow ([]:List (Int × List RN)) (List.filterMap xP l1))))) fun v17=>
 M.pure v17

def WU (c1:List PT) (l2:List DT):M (List PT):=
 M.bind (M.det (Jy l2)) fun v3=>
 M.bind (M.det (Xr c1 v3)) fun v5=>
 M.pure v5

def zj (s1:List DT):M (List DT):=
 M.bind (M.isNil s1) fun b2=>
 cond b2
  (M.pure ([]:List DT))
  (M.yY ((List.length ([]:List DT) + s1.length) * 16 <= 140737488355328) <|
  M.pure (([]:List DT) ++ s1))

def zV (row1:List DT) (k148:Int):Int × Int × List DT -> M (M.Step (Int × Int × List DT) (Int × List DT)):=fun ⟨k197,k2_198,v199⟩=>
 cond ((decide (k2_198 < ((((row1.length - Int.toNat k148):Nat):Int)))))
  (M.bind (M.yY ((0:Int) <= k2_198 /\ k2_198 < (((row1.length - Int.toNat k148):Nat):Int))<|M.bind (M.idx v199 ((((Int.toNat k148) + Int.toNat k2_198):Nat):Int)) fun x203=>
  M.yY ((0:Int) <= (IntKind.i64.wrap (k2_198 - 1)) /\ (IntKind.i64.wrap (k2_198 - 1)) < (((row1.length - Int.toNat k148):Nat):Int))<|M.bind (M.idx v199 ((((Int.toNat k148) + Int.toNat (IntKind.i64.wrap (k2_198 - 1))):Nat):Int)) fun x207=>
  cond ((!(decide (x203.dev = x207.dev) && decide (x203.n = x207.n))))
   (M.yY ((0:Int) <= k2_198 /\ k2_198 < (((row1.length - Int.toNat k148):Nat):Int))<|M.bind (M.idx v199 ((((Int.toNat k148) + Int.toNat k2_198):Nat):Int)) fun x212=>
   M.bind (M.idx v199 k197) fun x216=>
   M.pure (((IntKind.i64.wrap (k197 + 1)),(List.set v199 (Int.toNat k197) x212))))
   (M.pure (k197,v199))) (fun ⟨k201,v202⟩=>
  M.pure (.next ((k201,(IntKind.i64.wrap (k2_198 + 1)),v202)))))
  (M.pure (.done (k197,v199)))
def zW (row1:List DT):Int -> M (M.Step Int (M.Ex Unit (List DT))):=fun k148=>
 cond ((decide (k148 < ((row1.length):Int))))
  (M.bind (M.bind (M.idx row1 k148) fun x150=>
  M.bind (M.idx row1 (IntKind.i64.wrap (k148 - 1))) fun x152=>
  cond (((decide (x150.dev = x152.dev) && decide (x150.n = x152.n))))
   (M.yY ((0:Int) <= k148 /\ k148 <= (row1.length:Int)) <|
   M.bind (M.loop (zV row1 k148) (k148,1,row1)) (fun ⟨k156,v157⟩=>
   M.yY ((0:Int) <= k156 /\ k156 <= (v157.length:Int)) <|
   M.yY ((Int.toNat k156) + (v157.length - Int.toNat k156) <= v157.length) <|
   M.yY ((0:Int) <= 0 /\ (0:Int) <= k156 /\ k156 <= (List.length ((List.take (Int.toNat k156) v157 ++ List.replicate (v157.length - Int.toNat k156) (⟨0,0⟩:DT) ++ List.drop ((Int.toNat k156) + (v157.length - Int.toNat k156)) v157)):Int)) <|
   M.pure (.ret ((.done ((.ret (((List.take (Int.toNat k156) ((List.take (Int.toNat k156) v157 ++ List.replicate (v157.length - Int.toNat k156) (⟨0,0⟩:DT) ++ List.drop ((Int.toNat k156) + (v157.length - Int.toNat k156)) v157))))))))))))
   (M.pure (.brk ()))) (M.exk (fun _=>
  M.pure (.next (IntKind.i64.wrap (k148 + 1))))))
  (M.pure (.done (.brk ())))
def za (row1:List DT):M (List DT):=
 cond ((decide (((row1.length):Int) < 2)))
  (M.pure row1)
  (M.bind (M.loop (zW row1) 1) (M.exk (fun _=>
  M.pure row1)))

def Xs (l1:List DT):M (List DT):=
 M.bind (M.det (zj l1)) fun v2=>
 M.yY (v2.length < 4611686018427387904)<|M.bind (M.srt zJ v2) fun s4=>
 M.bind (M.det (za s4)) fun y8=>
 M.pure y8

def wi (l1:List EV):Int × List DT -> M (M.Step (Int × List DT) (List DT)):=fun ⟨v15,out16⟩=>
 cond ((decide (v15 < (l1.length:Int))))
  (M.bind (M.idx l1 v15) fun x18=>
  M.yY ((out16.length + List.length ([x18.dot])) * 16 <= 140737488355328) <|
  M.yY ((List.length (out16 ++ [x18.dot]) + x18.kills.length) * 16 <= 140737488355328) <|
  M.pure (.next (((IntKind.i64.wrap (v15 + 1)),((out16 ++ [x18.dot]) ++ x18.kills)))))
  (M.pure (.done out16))
def vF (l1:List EV):M (List DT):=
 M.bind (M.loop (wi l1) (0,([]:List DT))) (fun out2=>
 M.bind (M.det (Xs out2)) fun v22=>
 M.pure v22)

def yP (e1:EV):M EV:=
 M.bind (M.det (zj e1.kills)) fun v2=>
 M.pure (⟨e1.dot,e1.kind,e1.cid,e1.field,e1.text,v2⟩:EV)

def wH (e1:EV) (cv2:Int) (cv3:Int):M Bool:=
 M.bind (cond (decide (e1.cid = cv2))
  (M.pure (decide (e1.field = cv3)))
  (M.pure false)) (fun v4=>
 M.pure v4)

def zt (l1:List EV) (cv2:Int) (cv3:Int):Int × List EV -> M (M.Step (Int × List EV) (List EV)):=fun ⟨v27,some28⟩=>
 cond ((decide (v27 < (l1.length:Int))))
  (M.bind (M.bind (M.idx l1 v27) fun x31=>
  M.bind (cond (decide (x31.kind = 1))
   (M.bind (M.det (wH x31 cv2 cv3)) fun v35=>
   M.pure v35)
   (M.pure false)) (fun v33=>
  cond v33
   (M.yY ((some28.length + List.length ([x31])) * 80 <= 140737488355328) <|
   M.pure (some28 ++ [x31]))
   (M.pure some28))) (fun some30=>
  M.pure (.next (((IntKind.i64.wrap (v27 + 1)),some30)))))
  (M.pure (.done some28))
def yb (l1:List EV) (cv2:Int) (cv3:Int):M (List DT):=
 M.bind (M.loop (zt l1 cv2 cv3) (0,([]:List EV))) (fun some4=>
 M.bind (M.det (vF some4)) fun v39=>
 M.pure v39)

def uA (l1:List EV) (cid2:Int) (f3:Int):M (List DT):=
 M.bind (M.det (yb l1 cid2 f3)) fun v4=>
 M.pure v4

def xR (e1:EV) (cv2:Int):M Bool:=
 M.pure (decide (e1.cid = cv2))

def zk (l1:List EV) (cv2:Int):Int × List EV -> M (M.Step (Int × List EV) (List EV)):=fun ⟨v26,some27⟩=>
 cond ((decide (v26 < (l1.length:Int))))
  (M.bind (M.bind (M.idx l1 v26) fun x30=>
  M.bind (cond (decide (x30.kind = 1))
   (M.bind (M.det (xR x30 cv2)) fun v34=>
   M.pure v34)
   (M.pure false)) (fun v32=>
  cond v32
   (M.yY ((some27.length + List.length ([x30])) * 80 <= 140737488355328) <|
   M.pure (some27 ++ [x30]))
   (M.pure some27))) (fun some29=>
  M.pure (.next (((IntKind.i64.wrap (v26 + 1)),some29)))))
  (M.pure (.done some27))
def yW (l1:List EV) (cv2:Int):M (List DT):=
 M.bind (M.loop (zk l1 cv2) (0,([]:List EV))) (fun some3=>
 M.bind (M.det (vF some3)) fun v38=>
 M.pure v38)

def xv (l1:List EV) (cid2:Int):M (List DT):=
 M.bind (M.det (yW l1 cid2)) fun v3=>
 M.pure v3

def uP (e1:EV) (c2:List PT):M EV:=
 M.bind (M.det (yP e1)) fun v3=>
 M.bind (M.det (uO c2 v3.dot)) fun v5=>
 M.bind (cond v5
  (M.pure ([]:List DT))
  (M.pure v3.kills)) (fun e7=>
 M.pure (⟨v3.dot,v3.kind,v3.cid,v3.field,v3.text,e7⟩:EV))

def vf (d1:DT):M Bool:=
 M.bind (cond (decide (1 <= d1.dev))
  (cond (decide (1 <= d1.n))
   (M.pure (decide (d1.n < 281474976710656)))
   (M.pure false))
  (M.pure false)) (fun v2=>
 M.pure v2)

def WV (x1:RN):M Bool:=
 M.bind (cond (decide (1 <= x1.lo))
  (cond (decide (x1.lo <= x1.hi))
   (M.pure (decide (x1.hi <= 281474976710655)))
   (M.pure false))
  (M.pure false)) (fun v2=>
 M.pure v2)

def ZS (l1:List RN) (n2:Int):Int -> M (M.Step Int (M.Ex Unit Bool)):=fun i30=>
 cond ((decide (i30 < (l1.length:Int))))
  (M.bind (M.bind (M.idx l1 i30) fun x33=>
  M.bind (M.det (WV x33)) fun v35=>
  cond v35
   (M.bind (M.idx l1 i30) fun x38=>
   cond (decide (x38.lo <= n2))
    (M.bind (M.idx l1 i30) fun x41=>
    M.pure (decide (n2 <= x41.hi)))
    (M.pure false))
   (M.pure false)) (fun v32=>
  cond v32
   (M.pure (.done (.ret true)))
   (M.pure (.next (IntKind.i64.wrap (i30 + 1))))))
  (M.pure (.done (.brk ())))
def XH (l1:List RN) (n2:Int):M Bool:=
 M.bind (M.loop (ZS l1 n2) 0) (M.exk (fun _=>
 M.pure false))

def ZT (l1:List Int) (n2:Int):Bool × Int × List Int -> M (M.Step (Bool × Int × List Int) (Bool × List Int)):=fun ⟨done43,i44,out45⟩=>
 cond ((decide (i44 < (l1.length:Int))))
  (M.bind (M.bind (cond (!done43)
   (M.bind (M.idx l1 i44) fun x51=>
   M.pure (decide (n2 <= x51)))
   (M.pure false)) (fun v49=>
  M.bind (cond v49
   (M.yY ((out45.length + List.length ([n2])) * 8 <= 140737488355328) <|
   M.pure (true,(out45 ++ [n2])))
   (M.pure (done43,out45))) (fun ⟨done53,out54⟩=>
  M.bind (M.idx l1 i44) fun x57=>
  cond (!decide (x57 = n2))
   (M.bind (M.idx l1 i44) fun x60=>
   M.yY ((out54.length + List.length ([x60])) * 8 <= 140737488355328) <|
   M.pure (done53,(out54 ++ [x60])))
   (M.pure (done53,out54))))) (fun ⟨done47,out48⟩=>
  M.pure (.next ((done47,(IntKind.i64.wrap (i44 + 1)),out48)))))
  (M.pure (.done (done43,out45)))
def WW (l1:List Int) (n2:Int):M (List Int):=
 M.bind (M.loop (ZT l1 n2) (false,0,([]:List Int))) (fun ⟨done3,out4⟩=>
 M.bind (cond (!done3)
  (M.yY ((out4.length + List.length ([n2])) * 8 <= 140737488355328) <|
  M.pure (out4 ++ [n2]))
  (M.pure out4)) (fun out63=>
 M.pure out63))

def wj (a1:List RN) (b2:List RN):List Int × Int -> M (M.Step (List Int × Int) (List Int)):=fun ⟨out38,i39⟩=>
 cond ((decide (i39 < (((List.length ((([]:List RN) ++ a1) ++ b2)):Int)))))
  (M.bind (M.bind (M.idx (((([]:List RN) ++ a1) ++ b2)) i39) fun x42=>
  M.bind (M.det (WV x42)) fun v44=>
  cond v44
   (M.bind (M.idx (((([]:List RN) ++ a1) ++ b2)) i39) fun x47=>
   M.bind (M.det (WW out38 x47.lo)) fun v49=>
   M.bind (M.idx (((([]:List RN) ++ a1) ++ b2)) i39) fun x51=>
   M.bind (M.det (WW v49 (IntKind.u64.wrap (x51.hi + 1)))) fun v53=>
   M.pure v53)
   (M.pure out38)) (fun out41=>
  M.pure (.next ((out41,(IntKind.i64.wrap (i39 + 1)))))))
  (M.pure (.done out38))
def ZU (a1:List RN) (b2:List RN):M (List Int):=
 M.yY ((List.length ([]:List RN) + a1.length) * 16 <= 140737488355328) <|
 M.yY ((List.length (([]:List RN) ++ a1) + b2.length) * 16 <= 140737488355328) <|
 M.bind (M.loop (wj a1 b2) (([]:List Int),0)) (fun out5=>
 M.pure out5)

def ZV (v4:List Int) (a1:List RN) (b2:List RN) (how3:Int):Int × List RN -> M (M.Step (Int × List RN) (List RN)):=fun ⟨i85,out86⟩=>
 cond ((decide ((IntKind.i64.wrap (i85 + 1)) < (v4.length:Int))))
  (M.bind (M.bind (M.idx v4 i85) fun x89=>
  M.bind (M.det (XH a1 x89)) fun v91=>
  M.bind (M.idx v4 i85) fun x93=>
  M.bind (M.det (XH b2 x93)) fun v95=>
  M.bind (cond v91
   (M.pure true)
   (M.pure v95)) (fun in97=>
  M.bind (cond (decide (how3 = 1))
   (M.bind (cond v91
    (M.pure v95)
    (M.pure false)) (fun in101=>
   M.pure in101))
   (M.pure in97)) (fun in99=>
  M.bind (cond (decide (how3 = 2))
   (M.bind (cond v91
    (M.pure (!v95))
    (M.pure false)) (fun in105=>
   M.pure in105))
   (M.pure in99)) (fun in103=>
  M.bind (cond in103
   (cond ((decide (0 <= ((IntKind.i64.wrap (((out86.length):Int) - 1))))))
    (M.bind (M.idx out86 ((IntKind.i64.wrap (((out86.length):Int) - 1)))) fun x110=>
    M.bind (M.idx v4 i85) fun x112=>
    M.pure ((decide ((IntKind.u64.wrap (x110.hi + 1)) = x112))))
    (M.pure false))
   (M.pure false)) (fun v107=>
  cond v107
   (M.bind (M.idx v4 (IntKind.i64.wrap (i85 + 1))) fun x115=>
   M.bind (M.idx out86 ((IntKind.i64.wrap (((out86.length):Int) - 1)))) fun x117=>
   M.pure ((List.set out86 ((Int.toNat ((IntKind.i64.wrap (((out86.length):Int) - 1))))) ((⟨x117.lo,(IntKind.u64.wrap (x115 - 1))⟩:RN)))))
   (cond in103
    (M.bind (M.idx v4 i85) fun x120=>
    M.bind (M.idx v4 (IntKind.i64.wrap (i85 + 1))) fun x122=>
    M.yY ((out86.length + List.length ([(⟨x120,(IntKind.u64.wrap (x122 - 1))⟩:RN)])) * 16 <= 140737488355328) <|
    M.pure ((out86 ++ [(⟨x120,(IntKind.u64.wrap (x122 - 1))⟩:RN)])))
    (M.pure out86))))))) (fun out88=>
  M.pure (.next (((IntKind.i64.wrap (i85 + 1)),out88)))))
  (M.pure (.done out86))
def XI (a1:List RN) (b2:List RN) (how3:Int):M (List RN):=
 M.bind (M.det (ZU a1 b2)) fun v4=>
 M.bind (M.loop (ZV v4 a1 b2 how3) (0,([]:List RN))) (fun out6=>
 M.pure out6)

def YV (a1:List RN) (b2:List RN):M (List RN):=
 M.bind (M.det (XI a1 b2 0)) fun v3=>
 M.pure v3

def uQ (c1:List PT) (dev2:Int):List RN × Int -> M (M.Step (List RN × Int) (List RN)):=fun ⟨out28,i29⟩=>
 cond ((decide (i29 < (c1.length:Int))))
  (M.bind (M.bind (M.bind (M.idx c1 i29) fun x33=>
  cond (decide (x33.dev = dev2))
   (M.pure (!decide (dev2 = 0)))
   (M.pure false)) (fun v32=>
  cond v32
   (M.bind (M.idx c1 i29) fun x37=>
   M.bind (M.det (YV out28 x37.runs)) fun v39=>
   M.pure v39)
   (M.pure out28))) (fun out31=>
  M.pure (.next ((out31,(IntKind.i64.wrap (i29 + 1)))))))
  (M.pure (.done out28))
def ZW (c1:List PT) (dev2:Int):M (List RN):=
 M.bind (M.loop (uQ c1 dev2) (([]:List RN),0)) (fun out3=>
 M.pure out3)

def um (a1:DT) (b2:DT):M Int:=
 cond (((decide (a1.dev = b2.dev) && decide (a1.n = b2.n))))
  (M.pure 0)
  (M.bind (cond (decide (a1.dev < b2.dev))
   (M.pure true)
   (cond (decide (a1.dev = b2.dev))
    (M.pure (decide (a1.n < b2.n)))
    (M.pure false))) (fun v4=>
  cond v4
   (M.pure (-1))
   (M.pure 1)))

def ZX (l1:List DT) (d2:DT):Int × List DT -> M (M.Step (Int × List DT) (List DT)):=fun ⟨i26,out27⟩=>
 cond ((decide (i26 < (l1.length:Int))))
  (M.bind (M.bind (M.idx l1 i26) fun x30=>
  M.bind (M.det (um x30 d2)) fun v32=>
  cond (decide (v32 < 0))
   (M.bind (M.idx l1 i26) fun x35=>
   M.yY ((out27.length + List.length ([x35])) * 16 <= 140737488355328) <|
   M.pure (out27 ++ [x35]))
   (M.pure out27)) (fun out29=>
  M.pure (.next (((IntKind.i64.wrap (i26 + 1)),out29)))))
  (M.pure (.done out27))
def uB (l1:List DT) (d2:DT):Int × List DT -> M (M.Step (Int × List DT) (List DT)):=fun ⟨i62,out63⟩=>
 cond ((decide (i62 < (l1.length:Int))))
  (M.bind (M.bind (M.idx l1 i62) fun x66=>
  M.bind (M.det (um x66 d2)) fun v68=>
  cond (decide (0 < v68))
   (M.bind (M.idx l1 i62) fun x71=>
   M.yY ((out63.length + List.length ([x71])) * 16 <= 140737488355328) <|
   M.pure (out63 ++ [x71]))
   (M.pure out63)) (fun out65=>
  M.pure (.next (((IntKind.i64.wrap (i62 + 1)),out65)))))
  (M.pure (.done out63))
def uR (l1:List DT) (d2:DT):M (List DT):=
 M.bind (M.loop (ZX l1 d2) (0,([]:List DT))) (fun out3=>
 M.yY ((out3.length + List.length ([d2])) * 16 <= 140737488355328) <|
 M.bind (M.loop (uB l1 d2) (0,(out3 ++ [d2]))) (fun out39=>
 M.pure out39))

def uS (a1:List PT):List DT × Int -> M (M.Step (List DT × Int) (List DT)):=fun ⟨out16,i17⟩=>
 cond ((decide (i17 < (a1.length:Int))))
  (M.bind (M.idx a1 i17) fun x19=>
  M.bind (M.det (uR out16 (⟨x19.dev,1⟩:DT))) fun v21=>
  M.pure (.next ((v21,(IntKind.i64.wrap (i17 + 1))))))
  (M.pure (.done out16))
def vL (b2:List PT):List DT × Int -> M (M.Step (List DT × Int) (List DT)):=fun ⟨out36,i37⟩=>
 cond ((decide (i37 < (b2.length:Int))))
  (M.bind (M.idx b2 i37) fun x39=>
  M.bind (M.det (uR out36 (⟨x39.dev,1⟩:DT))) fun v41=>
  M.pure (.next ((v41,(IntKind.i64.wrap (i37 + 1))))))
  (M.pure (.done out36))
def Xt (a1:List PT) (b2:List PT):M (List DT):=
 M.bind (M.loop (uS a1) (([]:List DT),0)) (fun out3=>
 M.bind (M.loop (vL b2) (out3,0)) (fun out23=>
 M.pure out23))

def Xu (a1:List RN) (b2:List RN):M (List RN):=
 M.bind (M.det (XI a1 b2 1)) fun v3=>
 M.pure v3

def YW (a1:List RN) (b2:List RN):M (List RN):=
 M.bind (M.det (XI a1 b2 2)) fun v3=>
 M.pure v3

def ZY (v4:List DT) (a1:List PT) (b2:List PT) (how3:Int):Int × List PT -> M (M.Step (Int × List PT) (List PT)):=fun ⟨i57,out58⟩=>
 cond ((decide (i57 < (v4.length:Int))))
  (M.bind (M.bind (M.idx v4 i57) fun x61=>
  M.bind (M.det (ZW a1 x61.dev)) fun v63=>
  M.bind (M.idx v4 i57) fun x65=>
  M.bind (M.det (ZW b2 x65.dev)) fun v67=>
  M.bind (M.det (YV v63 v67)) fun v69=>
  M.bind (cond (decide (how3 = 1))
   (M.bind (M.det (Xu v63 v67)) fun v73=>
   M.pure v73)
   (M.pure v69)) (fun z71=>
  M.bind (cond (decide (how3 = 2))
   (M.bind (M.det (YW v63 v67)) fun v77=>
   M.pure v77)
   (M.pure z71)) (fun z75=>
  cond ((decide (0 < (z75.length:Int))))
   (M.bind (M.idx v4 i57) fun x80=>
   M.yY ((out58.length + List.length ([(⟨x80.dev,z75⟩:PT)])) * 32 <= 140737488355328) <|
   M.pure (out58 ++ [(⟨x80.dev,z75⟩:PT)]))
   (M.pure out58)))) (fun out60=>
  M.pure (.next (((IntKind.i64.wrap (i57 + 1)),out60)))))
  (M.pure (.done out58))
def UG (a1:List PT) (b2:List PT) (how3:Int):M (List PT):=
 M.bind (M.det (Xt a1 b2)) fun v4=>
 M.bind (M.loop (ZY v4 a1 b2 how3) (0,([]:List PT))) (fun out6=>
 M.pure out6)

def ZZ (a1:List PT) (b2:List PT):M (List PT):=
 M.bind (M.det (UG a1 b2 0)) fun v3=>
 M.pure v3

def YX (l1:List DT):List PT × Int -> M (M.Step (List PT × Int) (List PT)):=fun ⟨out35,i36⟩=>
 cond ((decide (i36 < (l1.length:Int))))
  (M.bind (M.bind (M.idx l1 i36) fun x39=>
  M.bind (M.det (vf x39)) fun v41=>
  cond v41
   (M.bind (M.idx l1 i36) fun x44=>
   M.bind (M.idx l1 i36) fun x46=>
   M.bind (M.idx l1 i36) fun x48=>
   M.bind (M.det (ZZ out35 ([(⟨x44.dev,[(⟨x46.n,x48.n⟩:RN)]⟩:PT)]))) fun v50=>
   M.pure v50)
   (M.pure out35)) (fun out38=>
  M.pure (.next ((out38,(IntKind.i64.wrap (i36 + 1)))))))
  (M.pure (.done out35))
def jL (l1:List DT):M (List PT):=
 M.bind (M.loop (YX l1) (([]:List PT),0)) (fun out2=>
 M.pure out2)

def xe (c1:List PT) (d2:DT):M Bool:=
 M.bind (M.bind (M.det (vf d2)) fun v4=>
 cond v4
  (M.bind (M.det (ZW c1 d2.dev)) fun v7=>
  M.bind (M.det (XH v7 d2.n)) fun v9=>
  M.pure v9)
  (M.pure false)) (fun v3=>
 M.pure v3)

def vG :M (List PT × Bool × (List (DT × EV)) × Bool × (List (DT × EV))):=
 M.pure ((([]:List PT),true,([]:List (DT × EV)),true,([]:List (DT × EV))))

def un (m2:List (DT × EV)):List Nat × List EV -> M (M.Step (List Nat × List EV) (List EV)):=fun ⟨seen30,out31⟩=>
 M.yY (∀ i ∈ seen30,i < m2.length)<|M.bind (M.nxt (m2.length) seen30) fun o=>match o with
 | none=>
  M.pure (.done out31)
 | some j32=>
  M.bind (M.idx m2 (Int.ofNat j32)) fun kv36=>
  M.bind (M.det (yP kv36.2)) fun v38=>
  M.yY ((out31.length + List.length ([v38])) * 80 <= 140737488355328) <|
  M.pure (.next ((seen30 ++ [j32]),(out31 ++ [v38])))
def xw (nl1:Bool) (m2:List (DT × EV)):M (List EV):=
 M.bind (M.bind (M.loop (un m2) ([],([]:List EV))) (fun out6=>
 M.pure out6)) (fun out3=>
 M.yY (out3.length < 4611686018427387904)<|M.bind (M.srt uM out3) fun s42=>
 M.pure s42)

def zO (ctx_1:List PT) (nl2:Bool) (m3:List (DT × EV)) (nl4:Bool) (m5:List (DT × EV)):M (List EV):=
 M.bind (M.det (xw nl2 m3)) fun y6=>
 M.pure y6

def yC (e1:EV) (ctx_2:List PT) (nl3:Bool) (m4:List (DT × EV)) (nl5:Bool) (m6:List (DT × EV)):M (EV × Int):=
 M.bind (M.bind (M.det (vw (⟨e1.dot,e1.kind,e1.cid,e1.field,e1.text,([]:List DT)⟩:EV))) fun v8=>
 cond (!v8)
  (M.pure (.ret ((((⟨(⟨0,0⟩:DT),0,0,0,(⟨#[]⟩:ByteArray),([]:List DT)⟩:EV),1)))))
  (M.bind (M.det (uO ctx_2 e1.dot)) fun v11=>
  cond v11
   (M.pure (.ret ((((⟨(⟨0,0⟩:DT),0,0,0,(⟨#[]⟩:ByteArray),([]:List DT)⟩:EV),7)))))
   (cond (decide (e1.kind = 1))
    (M.bind (M.det (zO ctx_2 nl3 m4 nl5 m6)) fun y15=>
    M.bind (M.det (uA y15 e1.cid e1.field)) fun v17=>
    M.pure (.brk v17))
    (M.bind (M.det (zO ctx_2 nl3 m4 nl5 m6)) fun y19=>
    M.bind (M.det (xv y19 e1.cid)) fun v21=>
    M.pure (.brk v21))))) (M.exk (fun e7=>
 cond ((decide (256 < (e7.length:Int))))
  (M.pure (((⟨(⟨0,0⟩:DT),0,0,0,(⟨#[]⟩:ByteArray),([]:List DT)⟩:EV),3)))
  (M.pure ((⟨e1.dot,e1.kind,e1.cid,e1.field,e1.text,e7⟩:EV),0))))

def uC (e1:EV) (nl2:Bool) (m3:List (DT × EV)):M (Bool × (List (DT × EV))):=
 M.bind (cond nl2
  (M.pure ([]:List (DT × EV)))
  (M.pure m3)) (fun v4=>
 M.bind (M.det (yP e1)) fun v9=>
 M.pure (false,(AL.set v4 e1.dot v9)))

def yS (e1:EV):Int × (List (DT × EV)) -> M (M.Step (Int × (List (DT × EV))) (List (DT × EV))):=fun ⟨v26,v27⟩=>
 cond ((decide (v26 < (e1.kills.length:Int))))
  (M.bind (M.idx e1.kills v26) fun x29=>
  M.pure (.next (((IntKind.i64.wrap (v26 + 1)),(AL.del v27 x29)))))
  (M.pure (.done v27))
def zP (e1:EV) (ctx_2:List PT) (nl3:Bool) (m4:List (DT × EV)) (nl5:Bool) (m6:List (DT × EV)):M (Int × List PT × Bool × (List (DT × EV)) × Bool × (List (DT × EV))):=
 M.bind (M.det (vw e1)) fun v7=>
 cond (!v7)
  (M.pure (1,ctx_2,nl3,m4,nl5,m6))
  (M.bind (M.det (uO ctx_2 e1.dot)) fun v10=>
  cond v10
   (M.pure (7,ctx_2,nl3,m4,nl5,m6))
   (M.bind (M.det (vF ([e1]))) fun v13=>
   M.bind (M.det (WU ctx_2 v13)) fun v15=>
   M.bind (M.loop (yS e1) (0,m4)) (fun v17=>
   M.bind (cond (decide (e1.kind = 1))
    (M.bind (M.det (uC e1 nl3 v17)) fun y36=>
    M.pure (nl5,m6,y36.1,y36.2))
    (M.bind (M.det (uC e1 nl5 m6)) fun y38=>
    M.pure (y38.1,y38.2,nl3,v17))) (fun ⟨nl31,v32,nl33,v34⟩=>
   M.pure (0,v15,nl33,v34,nl31,v32)))))

def yX (ctx_1:List PT) (nl2:Bool) (m3:List (DT × EV)) (nl4:Bool) (m5:List (DT × EV)):M (List EV):=
 M.bind (M.det (xw nl4 m5)) fun y6=>
 M.pure y6

def xS (l1:List EV) (c2:List PT) (nl3:Bool):Int × (List (DT × EV)) -> M (M.Step (Int × (List (DT × EV))) (Bool × (List (DT × EV)))):=fun ⟨v23,v24⟩=>
 cond ((decide (v23 < (l1.length:Int))))
  (M.bind (M.bind (M.idx l1 v23) fun x27=>
  cond (AL.has v24 x27.dot)
   (M.bind (M.det (uP x27 c2)) fun v30=>
   M.yY (AL.has v24 x27.dot = true) <|
   M.pure (AL.set v24 x27.dot v30))
   (M.pure v24)) (fun v26=>
  M.pure (.next (((IntKind.i64.wrap (v23 + 1)),v26)))))
  (M.pure (.done (nl3,v24)))
def vg (l1:List EV) (c2:List PT) (nl3:Bool) (m4:List (DT × EV)):M (Bool × (List (DT × EV))):=
 M.loop (xS l1 c2 nl3) (0,m4)

def yF (y7:List EV) (c1:List PT):Int × Int × (List (DT × EV)) -> M (M.Step (Int × Int × (List (DT × EV))) (Int × (List (DT × EV)))):=fun ⟨n30,v31,v32⟩=>
 cond ((decide (v31 < ((y7.length):Int))))
  (M.bind (M.bind (M.idx y7 v31) fun x36=>
  M.bind (M.det (uO c1 x36.dot)) fun v38=>
  cond v38
   (M.pure (((IntKind.i64.wrap (n30 + 1)),(AL.del v32 x36.dot))))
   (M.pure (n30,v32))) (fun ⟨n34,v35⟩=>
  M.pure (.next ((n34,(IntKind.i64.wrap (v31 + 1)),v35)))))
  (M.pure (.done (n30,v32)))
def yq (c1:List PT) (ctx_2:List PT) (nl3:Bool) (m4:List (DT × EV)) (nl5:Bool) (m6:List (DT × EV)):M (Int × Bool × (List (DT × EV)) × Bool × (List (DT × EV))):=
 M.bind (M.det (yX ctx_2 nl3 m4 nl5 m6)) fun y7=>
 M.bind (M.loop (yF y7 c1) (0,0,m6)) (fun ⟨n9,v10⟩=>
 M.bind (M.det (zO ctx_2 nl3 m4 nl5 v10)) fun y41=>
 M.bind (M.det (vg y41 c1 nl3 m4)) fun y43=>
 M.pure (n9,y43.1,y43.2,nl5,v10))

def uo (m2:List (DT × EV)):List Nat × List EV -> M (M.Step (List Nat × List EV) (List EV)):=fun ⟨seen32,out33⟩=>
 M.yY (∀ i ∈ seen32,i < m2.length)<|M.bind (M.nxt (m2.length) seen32) fun o=>match o with
 | none=>
  M.pure (.done out33)
 | some j34=>
  M.bind (M.idx m2 (Int.ofNat j34)) fun kv38=>
  M.bind (M.det (yP kv38.2)) fun v40=>
  M.yY ((out33.length + List.length ([v40])) * 80 <= 140737488355328) <|
  M.pure (.next ((seen32 ++ [j34]),(out33 ++ [v40])))
def up (m4:List (DT × EV)):List Nat × List EV -> M (M.Step (List Nat × List EV) (List EV)):=fun ⟨seen70,out71⟩=>
 M.yY (∀ i ∈ seen70,i < m4.length)<|M.bind (M.nxt (m4.length) seen70) fun o=>match o with
 | none=>
  M.pure (.done out71)
 | some j72=>
  M.bind (M.idx m4 (Int.ofNat j72)) fun kv76=>
  M.bind (M.det (yP kv76.2)) fun v78=>
  M.yY ((out71.length + List.length ([v78])) * 80 <= 140737488355328) <|
  M.pure (.next ((seen70 ++ [j72]),(out71 ++ [v78])))
def vh (nl1:Bool) (m2:List (DT × EV)) (nl3:Bool) (m4:List (DT × EV)):M (List EV):=
 M.bind (M.bind (M.loop (uo m2) ([],([]:List EV))) (fun out8=>
 M.bind (M.loop (up m4) ([],out8)) (fun out46=>
 M.pure out46))) (fun out5=>
 M.yY (out5.length < 4611686018427387904)<|M.bind (M.srt uM out5) fun s82=>
 M.pure s82)

def xU (ctx_1:List PT) (nl2:Bool) (m3:List (DT × EV)) (nl4:Bool) (m5:List (DT × EV)):M (List EV):=
 M.bind (M.det (vh nl2 m3 nl4 m5)) fun y6=>
 M.pure y6

def yK (ctx_1:List PT) (nl2:Bool) (m3:List (DT × EV)) (nl4:Bool) (m5:List (DT × EV)):M (List PT):=
 M.bind (M.det (YU ctx_1)) fun v6=>
 M.pure v6

def uD :M Bool:=
 M.bind (M.det (vG)) fun y1=>
 M.bind (M.det (yC (⟨(⟨1,1⟩:DT),1,281474976710657,1,(⟨#[97]⟩:ByteArray),([]:List DT)⟩:EV) y1.1 y1.2.1 y1.2.2.1 y1.2.2.2.1 y1.2.2.2.2)) fun y3=>
 M.bind (M.det (zP y3.1 y1.1 y1.2.1 y1.2.2.1 y1.2.2.2.1 y1.2.2.2.2)) fun y5=>
 M.bind (M.det (yC (⟨(⟨1,2⟩:DT),2,281474976710657,0,(⟨#[]⟩:ByteArray),([]:List DT)⟩:EV) y5.2.1 y5.2.2.1 y5.2.2.2.1 y5.2.2.2.2.1 y5.2.2.2.2.2)) fun y7=>
 M.bind (M.det (zP y7.1 y5.2.1 y5.2.2.1 y5.2.2.2.1 y5.2.2.2.2.1 y5.2.2.2.2.2)) fun y9=>
 M.bind (cond (!decide (y3.2 = 0))
  (M.pure true)
  (cond (!decide (y5.1 = 0))
   (M.pure true)
   (cond (!decide (y7.2 = 0))
    (M.pure true)
    (cond (!decide (y9.1 = 0))
     (M.pure true)
     (cond ((!decide ((y7.1.kills.length:Int) = 1)))
      (M.pure true)
      (M.bind (M.det (zO y9.2.1 y9.2.2.1 y9.2.2.2.1 y9.2.2.2.2.1 y9.2.2.2.2.2)) fun y17=>
      cond ((!decide (((y17.length):Int) = 0)))
       (M.pure true)
       (M.bind (M.det (yX y9.2.1 y9.2.2.1 y9.2.2.2.1 y9.2.2.2.2.1 y9.2.2.2.2.2)) fun y20=>
       M.pure ((!decide (((y20.length):Int) = 1)))))))))) (fun v11=>
 cond v11
  (M.pure false)
  (M.bind (M.bind (M.det (jL ([y7.1.dot]))) fun v24=>
  M.bind (M.det (yq v24 y9.2.1 y9.2.2.1 y9.2.2.2.1 y9.2.2.2.2.1 y9.2.2.2.2.2)) fun y26=>
  cond (decide (y26.1 = 1))
   (M.bind (M.det (xU y9.2.1 y26.2.1 y26.2.2.1 y26.2.2.2.1 y26.2.2.2.2)) fun y29=>
   cond ((decide ((y29.length:Int) = 0)))
    (M.bind (M.det (yK y9.2.1 y26.2.1 y26.2.2.1 y26.2.2.2.1 y26.2.2.2.2)) fun y32=>
    M.bind (M.det (xe y32 y3.1.dot)) fun v34=>
    cond v34
     (M.bind (M.det (yK y9.2.1 y26.2.1 y26.2.2.1 y26.2.2.2.1 y26.2.2.2.2)) fun y37=>
     M.bind (M.det (xe y37 y7.1.dot)) fun v39=>
     M.pure v39)
     (M.pure false))
    (M.pure false))
   (M.pure false)) (fun v23=>
  M.pure v23)))

def xJ (l1:List EV) (e2:EV):Bool × Int × List EV -> M (M.Step (Bool × Int × List EV) (M.Ex (Bool × List EV) (List EV))):=fun ⟨done38,i39,out40⟩=>
 cond ((decide (i39 < (l1.length:Int))))
  (M.bind (M.idx l1 i39) fun x42=>
  M.bind (M.det (um x42.dot e2.dot)) fun v44=>
  cond (decide (v44 = 0))
   (M.pure (.done (.ret l1)))
   (M.bind (cond (decide (0 < v44))
    (M.pure (!done38))
    (M.pure false)) (fun v47=>
   M.bind (cond v47
    (M.yY ((out40.length + List.length ([e2])) * 80 <= 140737488355328) <|
    M.pure (true,(out40 ++ [e2])))
    (M.pure (done38,out40))) (fun ⟨done49,out50⟩=>
   M.bind (M.idx l1 i39) fun x53=>
   M.yY ((out50.length + List.length ([x53])) * 80 <= 140737488355328) <|
   M.pure (.next ((done49,(IntKind.i64.wrap (i39 + 1)),(out50 ++ [x53]))))))))
  (M.pure (.done (.brk (done38,out40))))
def WX (l1:List EV) (e2:EV):M (List EV):=
 M.bind (M.loop (xJ l1 e2) (false,0,([]:List EV))) (M.exk (fun ⟨done3,out4⟩=>
 M.bind (cond (!done3)
  (M.yY ((out4.length + List.length ([e2])) * 80 <= 140737488355328) <|
  M.pure (out4 ++ [e2]))
  (M.pure out4)) (fun out56=>
 M.pure out56)))

def jM (row2:List EV) (e1:EV):Bool × Int × List EV -> M (M.Step (Bool × Int × List EV) (M.Ex (Bool × List EV) (List EV))):=fun ⟨done38,i39,out40⟩=>
 cond ((decide (i39 < ((row2.length):Int))))
  (M.bind (M.idx row2 i39) fun x42=>
  M.bind (M.det (um x42.dot e1.dot)) fun v44=>
  cond (decide (v44 = 0))
   (M.pure (.done (.ret row2)))
   (M.bind (cond (decide (0 < v44))
    (M.pure (!done38))
    (M.pure false)) (fun v47=>
   M.bind (cond v47
    (M.yY ((out40.length + List.length ([e1])) * 80 <= 140737488355328) <|
    M.pure (true,(out40 ++ [e1])))
    (M.pure (done38,out40))) (fun ⟨done49,out50⟩=>
   M.bind (M.idx row2 i39) fun x53=>
   M.yY ((out50.length + List.length ([x53])) * 80 <= 140737488355328) <|
   M.pure (.next ((done49,(IntKind.i64.wrap (i39 + 1)),(out50 ++ [x53]))))))))
  (M.pure (.done (.brk (done38,out40))))
def YY (e1:EV) (row2:List EV):M (List EV):=
 M.bind (M.loop (jM row2 e1) (false,0,([]:List EV))) (M.exk (fun ⟨done3,out4⟩=>
 M.bind (cond (!done3)
  (M.yY ((out4.length + List.length ([e1])) * 80 <= 140737488355328) <|
  M.pure (out4 ++ [e1]))
  (M.pure out4)) (fun out56=>
 M.pure out56)))

def WY (l1:List EV):Int × List EV -> M (M.Step (Int × List EV) (List EV)):=fun ⟨i15,out16⟩=>
 cond ((decide (i15 < (l1.length:Int))))
  (M.bind (M.idx l1 i15) fun x18=>
  M.bind (M.det (YY x18 out16)) fun y20=>
  M.pure (.next (((IntKind.i64.wrap (i15 + 1)),y20))))
  (M.pure (.done out16))
def Xv (l1:List EV):M (List EV):=
 M.bind (M.loop (WY l1) (0,([]:List EV))) (fun out2=>
 M.pure out2)

def Za (l1:List DT) (d2:DT):Int -> M (M.Step Int (M.Ex Unit Bool)):=fun i12=>
 cond ((decide (i12 < (l1.length:Int))))
  (M.bind (M.idx l1 i12) fun x14=>
  cond (((decide (x14.dev = d2.dev) && decide (x14.n = d2.n))))
   (M.pure (.done (.ret true)))
   (M.pure (.next (IntKind.i64.wrap (i12 + 1)))))
  (M.pure (.done (.brk ())))
def wI (l1:List DT) (d2:DT):M Bool:=
 M.bind (M.loop (Za l1 d2) 0) (M.exk (fun _=>
 M.pure false))

def WZ (l1:List DT):List DT × Int -> M (M.Step (List DT × Int) (List DT)):=fun ⟨out15,i_16⟩=>
 cond ((decide (i_16 < (l1.length:Int))))
  (M.bind (M.idx l1 i_16) fun x18=>
  M.bind (M.det (uR out15 x18)) fun v20=>
  M.pure (.next ((v20,(IntKind.i64.wrap (i_16 + 1))))))
  (M.pure (.done out15))
def YZ (l1:List DT):M (List DT):=
 M.bind (M.loop (WZ l1) (([]:List DT),0)) (fun out2=>
 M.pure out2)

def wk (l1:List EV) (k404:Int) (i303:Int):Int -> M (M.Step Int (M.Ex Unit (M.Step Int (M.Ex Unit (M.Step Int (M.Ex Unit Bool)))))):=fun j441=>
 M.bind (M.idx l1 k404) fun x442=>
 cond ((decide (j441 < (x442.kills.length:Int))))
  (M.bind (M.idx l1 i303) fun x445=>
  M.bind (M.idx l1 k404) fun x447=>
  M.bind (M.idx x447.kills j441) fun x449=>
  M.bind (M.det (wI x445.kills x449)) fun v451=>
  cond (!v451)
   (M.pure (.done ((.ret ((.done ((.ret (.done (.ret false))))))))))
   (M.pure (.next (IntKind.i64.wrap (j441 + 1)))))
  (M.pure (.done (.brk ())))
def Ya (l1:List EV) (i303:Int):Int -> M (M.Step Int (M.Ex Unit (M.Step Int (M.Ex Unit Bool)))):=fun k404=>
 cond ((decide (k404 < (l1.length:Int))))
  (M.bind (M.bind (M.idx l1 i303) fun x406=>
  M.bind (M.idx l1 k404) fun x408=>
  M.bind (M.det (wI x406.kills x408.dot)) fun v410=>
  cond (!v410)
   (M.pure (.brk ()))
   (M.bind (M.idx l1 k404) fun x413=>
   cond (!decide (x413.kind = 1))
    (M.pure (.ret ((.done ((.ret (.done (.ret false))))))))
    (M.loop (wk l1 k404 i303) 0))) (M.exk (fun _=>
  M.pure (.next (IntKind.i64.wrap (k404 + 1))))))
  (M.pure (.done (.brk ())))
def Yb (l1:List EV):Int -> M (M.Step Int (M.Ex Unit Bool)):=fun i303=>
 cond ((decide (i303 < (l1.length:Int))))
  (M.bind (M.loop (Ya l1 i303) 0) (M.exk (fun _=>
  M.pure (.next (IntKind.i64.wrap (i303 + 1))))))
  (M.pure (.done (.brk ())))
def Zb (l1:List EV):M Bool:=
 M.bind (M.loop (Yb l1) 0) (M.exk (fun _=>
 M.pure true))

def zBa (a1:List RN) (b2:List RN):Int -> M (M.Step Int (M.Ex Unit Bool)):=fun i17=>
 cond ((decide (i17 < (a1.length:Int))))
  (M.bind (M.idx a1 i17) fun x19=>
  M.bind (M.idx b2 i17) fun x21=>
  cond ((!(decide (x19.lo = x21.lo) && decide (x19.hi = x21.hi))))
   (M.pure (.done (.ret false)))
   (M.pure (.next (IntKind.i64.wrap (i17 + 1)))))
  (M.pure (.done (.brk ())))
def Jz (a1:List RN) (b2:List RN):M Bool:=
 cond ((!decide ((a1.length:Int) = (b2.length:Int))))
  (M.pure false)
  (M.bind (M.loop (zBa a1 b2) 0) (M.exk (fun _=>
  M.pure true)))

def Yc (a1:List PT) (b2:List PT):Int -> M (M.Step Int (M.Ex Unit Bool)):=fun i33=>
 cond ((decide (i33 < (a1.length:Int))))
  (M.bind (M.bind (M.idx a1 i33) fun x36=>
  M.bind (M.idx b2 i33) fun x38=>
  cond (!decide (x36.dev = x38.dev))
   (M.pure true)
   (M.bind (M.idx a1 i33) fun x41=>
   M.bind (M.idx b2 i33) fun x43=>
   M.bind (M.det (Jz x41.runs x43.runs)) fun v45=>
   M.pure (!v45))) (fun v35=>
  cond v35
   (M.pure (.done (.ret false)))
   (M.pure (.next (IntKind.i64.wrap (i33 + 1))))))
  (M.pure (.done (.brk ())))
def jN (a1:List PT) (b2:List PT):M Bool:=
 cond ((!decide ((a1.length:Int) = (b2.length:Int))))
  (M.pure false)
  (M.bind (M.loop (Yc a1 b2) 0) (M.exk (fun _=>
  M.pure true)))

def uT (a1:List DT) (b2:List DT):Int -> M (M.Step Int (M.Ex Unit Bool)):=fun i17=>
 cond ((decide (i17 < (a1.length:Int))))
  (M.bind (M.idx a1 i17) fun x19=>
  M.bind (M.idx b2 i17) fun x21=>
  cond ((!(decide (x19.dev = x21.dev) && decide (x19.n = x21.n))))
   (M.pure (.done (.ret false)))
   (M.pure (.next (IntKind.i64.wrap (i17 + 1)))))
  (M.pure (.done (.brk ())))
def Xw (a1:List DT) (b2:List DT):M Bool:=
 cond ((!decide ((a1.length:Int) = (b2.length:Int))))
  (M.pure false)
  (M.bind (M.loop (uT a1 b2) 0) (M.exk (fun _=>
  M.pure true)))

def Xx (a1:EV) (b2:EV):M Bool:=
 M.bind (cond (((decide (a1.dot.dev = b2.dot.dev) && decide (a1.dot.n = b2.dot.n))))
  (cond (decide (a1.kind = b2.kind))
   (cond (decide (a1.cid = b2.cid))
    (cond (decide (a1.field = b2.field))
     (cond (decide (a1.text = b2.text))
      (M.bind (M.det (Xw a1.kills b2.kills)) fun v9=>
      M.pure v9)
      (M.pure false))
     (M.pure false))
    (M.pure false))
   (M.pure false))
  (M.pure false)) (fun v3=>
 M.pure v3)

def Zc (a1:List EV) (b2:List EV):Int -> M (M.Step Int (M.Ex Unit Bool)):=fun i21=>
 cond ((decide (i21 < (a1.length:Int))))
  (M.bind (M.idx a1 i21) fun x23=>
  M.bind (M.idx b2 i21) fun x25=>
  M.bind (M.det (Xx x23 x25)) fun v27=>
  cond (!v27)
   (M.pure (.done (.ret false)))
   (M.pure (.next (IntKind.i64.wrap (i21 + 1)))))
  (M.pure (.done (.brk ())))
def Wc (a1:List EV) (b2:List EV):M Bool:=
 cond ((!decide ((a1.length:Int) = (b2.length:Int))))
  (M.pure false)
  (M.bind (M.loop (Zc a1 b2) 0) (M.exk (fun _=>
  M.pure true)))

def Yd (v1:Int):M (Int × Int):=
 M.pure (((IntKind.u16.wrap (IntKind.u64.wrap (Int.tdiv v1 281474976710656))),(Int.tmod v1 281474976710656)))

def Zd (v1:Int):M (DT × Bool):=
 M.bind (M.det (Yd v1)) fun v2=>
 M.bind (M.det (vf (⟨v2.1,v2.2⟩:DT))) fun v4=>
 cond (!v4)
  (M.pure ((⟨0,0⟩:DT),false))
  (M.pure ((⟨v2.1,v2.2⟩:DT),true))

def Xy (f1:Int):M Bool:=
 M.bind (cond (decide (1 <= f1))
  (M.pure (decide (f1 <= 5)))
  (M.pure false)) (fun v2=>
 M.pure v2)

def vM (s1:ByteArray):Int -> M (M.Step Int (M.Ex Unit Bool)):=fun i19=>
 cond ((decide (i19 < (ByteArray.size s1:Int))))
  (M.bind (M.bind (M.idx (wc s1) i19) fun b22=>
  cond (decide (b22 < 32))
   (M.pure true)
   (M.bind (M.idx (wc s1) i19) fun b25=>
   M.pure (decide (126 < b25)))) (fun v21=>
  cond v21
   (M.pure (.done (.ret false)))
   (M.pure (.next (IntKind.i64.wrap (i19 + 1))))))
  (M.pure (.done (.brk ())))
def Xz (s1:ByteArray):M Bool:=
 M.bind (M.loop (vM s1) 0) (M.exk (fun _=>
 M.pure ((decide ((ByteArray.size s1:Int) <= 60)))))

def yr (l1:List DT):Int -> M (M.Step Int (M.Ex Unit Bool)):=fun i19=>
 cond ((decide (i19 < (l1.length:Int))))
  (M.bind (M.idx l1 (IntKind.i64.wrap (i19 - 1))) fun x21=>
  M.bind (M.idx l1 i19) fun x23=>
  M.bind (M.det (um x21 x23)) fun v25=>
  cond (decide (0 <= v25))
   (M.pure (.done (.ret false)))
   (M.pure (.next (IntKind.i64.wrap (i19 + 1)))))
  (M.pure (.done (.brk ())))
def Ze (l1:List DT):M Bool:=
 M.bind (M.loop (yr l1) 1) (M.exk (fun _=>
 M.pure true))

def vN (e1:EV):Int -> M (M.Step Int (M.Ex Unit Bool)):=fun i37=>
 cond ((decide (i37 < (e1.kills.length:Int))))
  (M.bind (M.idx e1.kills i37) fun x39=>
  M.bind (M.det (vf x39)) fun v41=>
  cond (!v41)
   (M.pure (.done (.ret false)))
   (M.pure (.next (IntKind.i64.wrap (i37 + 1)))))
  (M.pure (.done (.brk ())))
def Zf (e1:EV):M Bool:=
 M.bind (M.det (Zd e1.cid)) fun v2=>
 M.bind (cond (!v2.2)
  (M.pure true)
  (M.bind (M.det (vf e1.dot)) fun v6=>
  cond (!v6)
   (M.pure true)
   (cond (!decide (e1.kind = 1))
    (M.pure (!decide (e1.kind = 2)))
    (M.pure false)))) (fun v4=>
 cond v4
  (M.pure false)
  (M.bind (cond (decide (e1.kind = 1))
   (M.bind (M.det (Xy e1.field)) fun v13=>
   cond (!v13)
    (M.pure true)
    (M.bind (M.det (Xz e1.text)) fun v16=>
    cond (!v16)
     (M.pure true)
     (cond (decide (e1.kind = 2))
      (cond (!decide (e1.field = 0))
       (M.pure true)
       (M.pure ((!decide (e1.text = (⟨#[]⟩:ByteArray))))))
      (M.pure false))))
   (cond (decide (e1.kind = 2))
    (cond (!decide (e1.field = 0))
     (M.pure true)
     (M.pure ((!decide (e1.text = (⟨#[]⟩:ByteArray))))))
    (M.pure false))) (fun v11=>
  cond v11
   (M.pure false)
   (M.bind (M.loop (vN e1) 0) (M.exk (fun _=>
   M.bind (cond ((decide ((e1.kills.length:Int) <= 256)))
    (M.bind (M.det (Ze e1.kills)) fun v46=>
    cond v46
     (M.bind (M.det (wI e1.kills e1.dot)) fun v49=>
     M.pure (!v49))
     (M.pure false))
    (M.pure false)) (fun v44=>
   M.pure v44)))))))

def ue (i143:Int):Int × List EV -> M (M.Step (Int × List EV) (List EV)):=fun ⟨k187,v188⟩=>
 cond ((decide (k187 < ((v188.length):Int))))
  (M.bind (M.bind (M.idx v188 i143) fun x191=>
  M.bind (M.idx v188 k187) fun x193=>
  M.bind (M.det (wI x191.kills x193.dot)) fun v195=>
  cond v195
   (M.bind (M.idx v188 i143) fun x198=>
   M.yY ((List.length ([]:List DT) + x198.kills.length) * 16 <= 140737488355328) <|
   M.bind (M.idx v188 k187) fun x201=>
   M.yY ((List.length (([]:List DT) ++ x198.kills) + x201.kills.length) * 16 <= 140737488355328) <|
   M.bind (M.det (YZ (((([]:List DT) ++ x198.kills) ++ x201.kills)))) fun v204=>
   M.bind (M.idx v188 i143) fun x206=>
   M.pure (List.set v188 (Int.toNat i143) (⟨x206.dot,x206.kind,x206.cid,x206.field,x206.text,v204⟩:EV)))
   (M.pure v188)) (fun v190=>
  M.pure (.next (((IntKind.i64.wrap (k187 + 1)),v190)))))
  (M.pure (.done v188))
def wO :Int × List EV -> M (M.Step (Int × List EV) (List EV)):=fun ⟨i143,v144⟩=>
 cond ((decide (i143 < ((v144.length):Int))))
  (M.bind (M.loop (ue i143) (0,v144)) (fun v146=>
  M.pure (.next (((IntKind.i64.wrap (i143 + 1)),v146)))))
  (M.pure (.done v144))
def wP (v14:List EV) (from2:Int):Int × List PT × Bool × (List (DT × EV)) × Bool × (List (DT × EV)) × List PT × Bool × (List (DT × EV)) × Bool × (List (DT × EV)) -> M (M.Step (Int × List PT × Bool × (List (DT × EV)) × Bool × (List (DT × EV)) × List PT × Bool × (List (DT × EV)) × Bool × (List (DT × EV))) (List PT × Bool × (List (DT × EV)) × Bool × (List (DT × EV)) × List PT × Bool × (List (DT × EV)) × Bool × (List (DT × EV)))):=fun ⟨i258,v259,nl260,v261,nl262,v263,v264,nl265,v266,nl267,v268⟩=>
 cond ((decide (i258 < (v14.length:Int))))
  (M.bind (M.idx v14 i258) fun x270=>
  M.bind (M.det (zP x270 v264 nl267 v268 nl265 v266)) fun y272=>
  M.yY ((v14.length:Int) ≠ 0) <|
  M.bind (M.idx v14 ((Int.tmod ((IntKind.i64.wrap (((IntKind.i64.wrap (((IntKind.i64.wrap ((v14.length:Int) - 1))) - i258))) + (IntKind.i64.wrap from2)))) (v14.length:Int)))) fun x275=>
  M.bind (M.det (zP x275 v259 nl262 v263 nl260 v261)) fun y277=>
  M.pure (.next (((IntKind.i64.wrap (i258 + 1)),y277.2.1,y277.2.2.2.2.1,y277.2.2.2.2.2,y277.2.2.1,y277.2.2.2.1,y272.2.1,y272.2.2.2.2.1,y272.2.2.2.2.2,y272.2.2.1,y272.2.2.2.1))))
  (M.pure (.done (v259,nl260,v261,nl262,v263,v264,nl265,v266,nl267,v268)))
def wV (v14:List EV):Int × List PT × Bool × (List (DT × EV)) × Bool × (List (DT × EV)) -> M (M.Step (Int × List PT × Bool × (List (DT × EV)) × Bool × (List (DT × EV))) (M.Ex (List PT × Bool × (List (DT × EV)) × Bool × (List (DT × EV))) Bool)):=fun ⟨i339,v340,nl341,v342,nl343,v344⟩=>
 cond ((decide (i339 < (v14.length:Int))))
  (M.bind (M.bind (M.idx v14 i339) fun x352=>
  M.bind (M.det (Zf x352)) fun v354=>
  cond v354
   (M.bind (M.idx v14 i339) fun x357=>
   M.bind (M.det (zP x357 v340 nl343 v344 nl341 v342)) fun y359=>
   M.pure (((!decide (y359.1 = 7)),y359.2.1,y359.2.2.2.2.1,y359.2.2.2.2.2,y359.2.2.1,y359.2.2.2.1)))
   (M.pure (false,v340,nl341,v342,nl343,v344))) (fun ⟨v346,v347,nl348,v349,nl350,v351⟩=>
  cond v346
   (M.pure (.done (.ret false)))
   (M.pure (.next (((IntKind.i64.wrap (i339 + 1)),v347,nl348,v349,nl350,v351))))))
  (M.pure (.done (.brk (v340,nl341,v342,nl343,v344))))
def wn (l1:List EV) (from2:Int):M Bool:=
 M.bind (M.bind (M.det (UE l1 12)) fun v4=>
 cond (!v4)
  (M.pure true)
  (M.bind (M.det (ZN l1)) fun v7=>
  M.pure (!v7))) (fun v3=>
 cond v3
  (M.bind (M.det (uD)) fun v10=>
  M.pure v10)
  (M.bind (M.det (Xv l1)) fun v12=>
  M.bind (M.loop wO (0,v12)) (fun v14=>
  M.bind (M.det (Zb v14)) fun v208=>
  cond (!v208)
   (M.bind (M.det (uD)) fun v211=>
   M.pure v211)
   (M.bind (M.det (vG)) fun y213=>
   M.bind (M.det (vG)) fun y215=>
   M.bind (M.loop (wP v14 from2) (0,y215.1,y215.2.2.2.1,y215.2.2.2.2,y215.2.1,y215.2.2.1,y213.1,y213.2.2.2.1,y213.2.2.2.2,y213.2.1,y213.2.2.1)) (fun ⟨v217,nl218,v219,nl220,v221,v222,nl223,v224,nl225,v226⟩=>
   M.bind (M.bind (M.det (yK v222 nl225 v226 nl223 v224)) fun y280=>
   M.bind (M.det (yK v217 nl220 v221 nl218 v219)) fun y282=>
   M.bind (M.det (jN y280 y282)) fun v284=>
   cond (!v284)
    (M.pure true)
    (M.bind (M.det (zO v222 nl225 v226 nl223 v224)) fun y287=>
    M.bind (M.det (zO v217 nl220 v221 nl218 v219)) fun y289=>
    M.bind (M.det (Wc y287 y289)) fun v291=>
    M.pure (!v291))) (fun v279=>
   cond v279
    (M.pure false)
    (M.bind (M.loop (wV v14) (0,v222,nl223,v224,nl225,v226)) (M.exk (fun ⟨v294,nl295,v296,nl297,v298⟩=>
    M.bind (M.bind (M.det (zO v294 nl297 v298 nl295 v296)) fun y363=>
    M.bind (M.det (zO v217 nl220 v221 nl218 v219)) fun y365=>
    M.bind (M.det (Wc y363 y365)) fun v367=>
    cond v367
     (M.bind (M.det (uD)) fun v370=>
     M.pure v370)
     (M.pure false)) (fun v362=>
    M.pure v362))))))))))
end Go.Ep

