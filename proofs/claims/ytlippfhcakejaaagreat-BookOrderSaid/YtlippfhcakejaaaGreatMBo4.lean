/- Side texts. -/
import Derived.Laws.BytesString
import Derived.Laws.IdiomStrings
import Derived.Test.YtlippfhcakejaaaGreatMBo2
import Derived.Test.YtlippfhcakejaaaGreatMBo3
set_option linter.unusedVariables false
set_option linter.unusedSimpArgs false
namespace Go.Ep
open Go.RowKit

def RowAt (w:World) (e:TypeId) (k:Nat) (l:List (List DV)):Option (Nat × Nat) -> Value -> Prop
 | none,v=>l = [] /\ v = .slice none 0 0
 | some (b,cap),v=>v = .slice (some ⟨b,0,none⟩) l.length cap /\ ∃ cur:List Value,w.heap[b]? = some (.cells cur.toArray e (0,0)) /\ l.length <= cap /\ cap <= maxLen /\ cur.length = cap * k /\ (∀ (i:Nat) (cs:List DV),l[i]? = some cs -> cs.length = k) /\
   ∀ (i:Nat) (cs:List DV) (j:Nat) (x:DV),l[i]? = some cs -> cs[j]? = some x -> ∃ u,cur[i * k + j]? = some u /\ x = .v u /\ u.oneCell' = true
def qH (l:List (List DV)):Prop:=∀ cs ∈ l,∀ x ∈ cs,∃ u,x = DV.v u
abbrev Zp:=List (List Int × List (List DV))
def UI (R:Zp):Mp:=R.map fun p=>(p.1,[DV.sl p.2])
def Dt (ctx:Ctx) (mb:Nat) (blk:Nat -> Option (Nat × Nat)) (b:Nat):Prop:=(ctx.S b \/ ctx.w0.heap.size <= b) /\ b ≠ mb /\ ∀ i c,blk i ≠ some (b,c)

structure RelT (ctx:Ctx) (ks:List IntKind) (e:TypeId) (k mid n:Nat) (sl:List (Nat × PV)) (R:Zp) (a:Act) (w:World) (g:zQ) (mb:Nat) (blk:Nat -> Option (Nat × Nat)) (es:Array MapEntry) (ck:Nat):Prop where
 defers:a.defers = []
 size:a.tmps.size = n
 slots:∀ i p,(PState.mk n sl []).at i = some p -> Rd w g (Dt ctx mb blk) p (a.tmps.getD i undef)
 gm:∃ q,g mid = some (mb,q)
 lt:mb < w.heap.size /\ (ctx.w0.heap.size <= mb \/ ctx.K mb)
 hh:w.heap[mb]? = some (.map es ck)
 sz:es.size = R.length
 below:∀ b ∈ es.toList.map (·.born),b < ck
 nodup:(es.toList.map (·.born)).Nodup
 ent:∀ (i:Nat) (ns:List Int) (l:List (List DV)),R[i]? = some (ns,l) -> ∃ x,es[i]? = some x /\ x.key = vD ks ns /\ ns.length = ks.length /\ RowAt w e k l (blk i) x.val
 inj:∀ i j b c c',blk i = some (b,c) -> blk j = some (b,c') -> i = j
 own:∀ i b c,blk i = some (b,c) -> b < w.heap.size /\ (ctx.w0.heap.size <= b \/ ctx.K b) /\ b ≠ mb
 out:∀ i,R.length <= i -> blk i = none
 os:w.os = ctx.w0.os
 tape:w.tape = ctx.w0.tape
 output:w.output = ctx.w0.output
 grows:ctx.w0.heap.size <= w.heap.size
 keep:∀ q,q < ctx.w0.heap.size -> ¬ ctx.K q -> w.heap[q]? = ctx.w0.heap[q]?

theorem at_mem {n:Nat} {sl:List (Nat × PV)} {o:List (Nat × Ob)} {i:Nat} {p:PV} (h:(PState.mk n sl o).at i = some p):(i,p) ∈ sl:=Xk (xI h)

theorem rd_row {w:World} {g:zQ} {S:Nat -> Prop} {id n:Nat} {u:Value} (h:Rd w g S (.row id n) u):(∃ b c,g id = some (b,c) /\ u = .slice (some ⟨b,0,none⟩) n c) \/ (g id = none /\ n = 0 /\ u = .slice none 0 0):=by
 cases h with
 | row _ _ b c h=>exact .inl ⟨b,c,h,rfl⟩
 | rowNil _ h=>exact .inr ⟨h,rfl,rfl⟩
section
variable {ctx:Ctx} {ks:List IntKind} {e:TypeId} {k mid n:Nat} {sl:List (Nat × PV)} {a:Act} {w:World} {g:zQ}
theorem RelT.start {bs0:List Nat} {ck0:Nat} (h:RelG ctx g ⟨n,sl,[(mid,.map ks false [] bs0 ck0)]⟩ a w):∃ mb es ck,RelT ctx ks e k mid n sl [] a w g mb (fun _=>none) es ck:=by
 have hl:look [(mid,Ob.map ks false [] bs0 ck0)] mid = some (.map ks false [] bs0 ck0):=by simp [look]
 cases h.objs mid _ hl with
 | map _ _ _ _ _ blk q es hg hh hm=>
  refine ⟨blk,es,ck0,h.defers,h.size,fun i p hp=>?_,⟨q,hg⟩,h.own mid _ blk q hl hg,hh,hm.size,by rw [<- hm.stamps];exact hm.below,by rw [<- hm.stamps];exact hm.nodup,(fun i ns l hi=>by simp at hi),(fun i j b c c' hi=>by cases hi),(fun i b c hi=>by cases hi),fun _ _=>rfl,h.os,h.tape,h.output,h.grows,h.keep⟩;refine (h.slots i p hp).keep ⟨Nat.le_refl _,fun _ _ _=>rfl⟩ (fun b hb _=>⟨hb.1,fun eb=>?_,fun i c hc=>by cases hc⟩) (fun _ _=>rfl);subst eb;exact hb.2 mid _ q hl hg
theorem cell_cur {b:Nat} {cur:List Value} (hh:w.heap[b]? = some (.cells cur.toArray e (0,0))) (o:Nat):w.cell? ⟨b,o,none⟩ = cur[o]?:=zT hh o
theorem RelT.done {R:Zp} {mb:Nat} {blk:Nat -> Option (Nat × Nat)} {es:Array MapEntry} {ck:Nat} (hK:∀ b,ctx.K b -> ctx.S b) (h:RelT ctx ks e k mid n sl R a w g mb blk es ck):RelG ctx g ⟨n,sl,[(mid,.map ks false (UI R) (es.toList.map (·.born)) ck)]⟩ a w:=by
 obtain ⟨q,hg⟩:=h.gm;have hlk:∀ id o,look [(mid,Ob.map ks false (UI R) (es.toList.map (·.born)) ck)] id = some o -> id = mid:=fun id o ho=>by
  simp only [look] at ho
  split at ho
  ·assumption
  ·cases ho
 have hfree:∀ b,(ctx.S b \/ ctx.w0.heap.size <= b) -> b ≠ mb -> zZ ctx g [(mid,Ob.map ks false (UI R) (es.toList.map (·.born)) ck)] b:=fun b h1 h2=>⟨h1,fun id o m ho hgi=>by
  rw [hlk id o ho,hg] at hgi;cases hgi;exact h2 rfl⟩
 refine ⟨h.defers,h.size,fun i p hp=>?_,fun id o ho=>?_,fun i j oi oj b m m' hi hj _ _=>by rw [hlk i oi hi,hlk j oj hj],fun id o b m ho hgi=>?_,h.os,h.tape,h.output,h.grows,h.keep⟩
 ·exact (h.slots i p hp).keep ⟨Nat.le_refl _,fun _ _ _=>rfl⟩ (fun b hb _=>hfree b hb.1 hb.2.1) (fun _ _=>rfl)
 ·have hid:=hlk id o ho;subst hid;simp only [look,if_true] at ho
  cases ho
  refine .map ks false _ _ ck mb q es hg h.hh ⟨by simp [UI,h.sz],rfl,h.below,h.nodup,fun i ns cs hi=>?_⟩;unfold UI at hi;rw [List.getElem?_map] at hi
  cases hR:R[i]? with
  | none=>rw [hR] at hi;cases hi
  | some r=>
   obtain ⟨ns',l⟩:=r;rw [hR] at hi;simp only [Option.map_some,Option.some.injEq,Prod.mk.injEq] at hi;obtain ⟨rfl,rfl⟩:=hi;obtain ⟨x,h1,h2,h3,h4⟩:=h.ent i _ l hR;have hd:DRd w (zZ ctx g [(id,Ob.map ks false (UI R) (es.toList.map (·.born)) ck)]) (.sl l) x.val:=by
    cases hb:blk i with
    | none=>
     rw [hb] at h4;obtain ⟨rfl,hv⟩:=h4;rw [hv];exact .nil none 0 (Nat.zero_le _) (fun _=>rfl)
    | some bc=>
     obtain ⟨b,cap⟩:=bc;rw [hb] at h4;obtain ⟨hv,cur,hc,hlc,hcap,hcl,hkk,hr⟩:=h4;rw [hv];obtain ⟨o1,o2,o3⟩:=h.own i b cap hb;refine .sl l b 0 cap k (fun i j=>cur.getD (i * k + j) undef) hlc hcap (hfree b (o2.elim .inr fun q=>.inl (hK b q)) o3) o1 hkk (fun i' j' hi' hj'=>?_) fun i' cs j' x' hi' hx'=>?_
     ·rw [cell_cur hc,Nat.zero_add];have:i' * k + j' < cur.length:=by rw [hcl];exact vr (by omega) hj'
      simp [List.getD,this]
     ·obtain ⟨u,hu,rfl,h1⟩:=hr i' cs j' x' hi' hx';simp only [List.getD,hu,Option.getD_some];exact .v u h1
   refine ⟨x,[x.val],h1,h2,rfl,rfl,fun _=>rfl,fun u hu=>by rw [List.mem_singleton] at hu;rw [hu];exact hd.one,h3,fun j y u hy hu=>?_⟩
   cases j with
   | zero=>simp at hy hu;subst hy;subst hu;exact hd
   | succ j=>simp at hy
 ·rw [hlk id o ho,hg] at hgi
  cases hgi
  exact h.lt

def wW (R:Zp) (es:Array MapEntry):List (List Int × Value):=List.zipWith (fun r x=>(r.1,x.val)) R es.toList
theorem xV {R:Zp} {es:Array MapEntry} (h:es.size = R.length):(wW R es).length = R.length:=by simp [wW,h]
theorem jR {R:Zp} {es:Array MapEntry} (h:es.size = R.length):(wW R es).map (·.1) = R.map (·.1):=by
 apply List.ext_getElem?;intro i;simp only [wW,List.getElem?_map,List.getElem?_zipWith]
 cases hR:R[i]? with
 | none=>simp
 | some r=>
  have:i < es.toList.length:=by have:=(List.getElem?_eq_some_iff.1 hR).1;simp;omega
  simp [List.getElem?_eq_getElem this]
theorem jS {R:Zp} {es:Array MapEntry} {i:Nat} {ns:List Int} {u:Value} (h:(wW R es)[i]? = some (ns,u)):∃ l x,R[i]? = some (ns,l) /\ es[i]? = some x /\ x.val = u:=by
 simp only [wW,List.getElem?_zipWith] at h
 cases hR:R[i]? with
 | none=>rw [hR] at h;cases h
 | some r=>
  cases hx:es.toList[i]? with
  | none=>rw [hR,hx] at h;cases h
  | some x=>
   rw [hR,hx] at h;simp only [Option.some.injEq,Prod.mk.injEq] at h;exact ⟨r.2,x,by rw [<- h.1],by simpa using hx,h.2⟩
theorem WC {R:Zp} {es:Array MapEntry} {i:Nat} {ns:List Int} {l:List (List DV)} {x:MapEntry} (h:R[i]? = some (ns,l)) (hx:es[i]? = some x):(wW R es)[i]? = some (ns,x.val):=by
 have hx':es.toList[i]? = some x:=by simpa using hx
 rw [wW,List.getElem?_zipWith,h,hx']

def ctxT (ctx:Ctx) (mb:Nat) (blk:Nat -> Option (Nat × Nat)) (j:Nat) (w:World):Ctx:=⟨w,Dt ctx mb blk,fun b=>b = mb \/ ∃ c,blk j = some (b,c)⟩

section
variable {R:Zp} {mb:Nat} {blk:Nat -> Option (Nat × Nat)} {es:Array MapEntry} {ck:Nat}
theorem RelT.found (h:RelT ctx ks e k mid n sl R a w g mb blk es ck) (hnm:∀ x ∈ sl,∀ id,x.2.has id = true -> id = mid) (hm:mid ≠ 50) {j:Nat} {ns:List Int} {l:List (List DV)} (hj:R[j]? = some (ns,l)) :
  RelG (ctxT ctx mb blk j w) (upd g 50 (blk j)) ⟨n,sl,[(mid,.mapP ks (wW R es) (some (j,.row 50 l.length)) (es.toList.map (·.born)) ck),(50,.row e k l)]⟩ a w:=by
 obtain ⟨q,hg⟩:=h.gm;have hgm:upd g 50 (blk j) mid = some (mb,q):=by rw [zl hm];exact hg
 have hg5:upd g 50 (blk j) 50 = blk j:=zG _ _ _;have hlk:∀ id o,look [(mid,Ob.mapP ks (wW R es) (some (j,.row 50 l.length)) (es.toList.map (·.born)) ck),(50,Ob.row e k l)] id = some o -> (id = mid /\ o = .mapP ks (wW R es) (some (j,.row 50 l.length)) (es.toList.map (·.born)) ck) \/ (id = 50 /\ o = .row e k l):=fun id o ho=>by
  simp only [look] at ho
  split at ho
  ·cases ho;exact .inl ⟨by assumption,rfl⟩
  ·split at ho
   ·cases ho;exact .inr ⟨by assumption,rfl⟩
   ·cases ho
 have hfree:∀ b,Dt ctx mb blk b -> zZ (ctxT ctx mb blk j w) (upd g 50 (blk j)) [(mid,Ob.mapP ks (wW R es) (some (j,.row 50 l.length)) (es.toList.map (·.born)) ck),(50,Ob.row e k l)] b:=fun b hb=>⟨.inl hb,fun id o m ho hgi=>by
  rcases hlk id o ho with ⟨rfl,_⟩ | ⟨rfl,_⟩
  ·rw [hgm] at hgi;cases hgi;exact hb.2.1 rfl
  ·rw [hg5] at hgi;exact hb.2.2 j m hgi⟩
 obtain ⟨x,h1,h2,h3,h4⟩:=h.ent j ns l hj;refine ⟨h.defers,h.size,fun i p hp=>?_,fun id o ho=>?_,fun i i' oi oj b m m' hi hi' hgi hgj=>?_,fun id o b m ho hgi=>?_,rfl,rfl,rfl,Nat.le_refl _,fun _ _ _=>rfl⟩
 ·exact (h.slots i p hp).keep ⟨Nat.le_refl _,fun _ _ _=>rfl⟩ (fun b hb _=>hfree b hb) (fun id hid=>by rw [hnm _ (at_mem hp) id hid,hgm,hg])
 ·rcases hlk id o ho with ⟨rfl,rfl⟩ | ⟨rfl,rfl⟩
  ·refine .mapP ks _ _ _ ck mb q es hgm h.hh (by rw [xV h.sz,h.sz]) rfl h.below h.nodup (fun i ns' u hi=>?_) fun j' p hjp=>?_
   ·obtain ⟨l',x',r1,r2,r3⟩:=jS hi;obtain ⟨x2,s1,s2,s3,s4⟩:=h.ent i ns' l' r1;rw [r2] at s1;cases s1;refine ⟨x',r2,s2,s3,?_,fun _=>r3⟩
    cases hb:blk i with
    | none=>rw [hb] at s4;rw [s4.2];rfl
    | some bc=>obtain ⟨b,c⟩:=bc;rw [hb] at s4;rw [s4.1];rfl
   ·cases hjp
    refine ⟨x,h1,?_⟩
    cases hb:blk j with
    | none=>rw [hb] at h4;obtain ⟨rfl,hv⟩:=h4;rw [hv];exact .rowNil 50 (zG _ _ _)
    | some bc=>obtain ⟨b,c⟩:=bc;rw [hb] at h4;rw [h4.1];exact .row 50 _ b c (zG _ _ _)
  ·cases hb:blk j with
   | none=>rw [hb] at h4;obtain ⟨rfl,hv⟩:=h4;exact .rowNil e k (zG _ _ _)
   | some bc=>
    obtain ⟨b,c⟩:=bc;rw [hb] at h4;obtain ⟨hv,cur,hc,hlc,hcap,hcl,hkk,hr⟩:=h4;refine .row e k l b c cur (zG _ _ _) hc hlc hcap hcl hkk fun i' cs j' x' hi' hx'=>?_
    obtain ⟨u,hu,rfl,ho1⟩:=hr i' cs j' x' hi' hx';exact ⟨u,hu,.v u ho1⟩
 ·rcases hlk i oi hi with ⟨rfl,_⟩ | ⟨rfl,_⟩ <;> rcases hlk i' oj hi' with ⟨rfl,_⟩ | ⟨rfl,_⟩
  ·rfl
  ·rw [hgm] at hgi;cases hgi;rw [hg5] at hgj;exact ((h.own j _ _ hgj).2.2 rfl).elim
  ·rw [hgm] at hgj;cases hgj;rw [hg5] at hgi;exact ((h.own j _ _ hgi).2.2 rfl).elim
  ·rfl
 ·rcases hlk id o ho with ⟨rfl,_⟩ | ⟨rfl,_⟩
  ·rw [hgm] at hgi;cases hgi;exact ⟨h.lt.1,.inr (.inl rfl)⟩
  ·rw [hg5] at hgi;exact ⟨(h.own j _ _ hgi).1,.inr (.inr ⟨_,hgi⟩)⟩
theorem RelT.fresh (h:RelT ctx ks e k mid n sl R a w g mb blk es ck) (j:Nat) :
  RelG (ctxT ctx mb blk j w) g ⟨n,sl,[(mid,.mapP ks (wW R es) none (es.toList.map (·.born)) ck)]⟩ a w:=by
 obtain ⟨q,hg⟩:=h.gm;have hlk:∀ id o,look [(mid,Ob.mapP ks (wW R es) none (es.toList.map (·.born)) ck)] id = some o -> id = mid /\ o = .mapP ks (wW R es) none (es.toList.map (·.born)) ck:=fun id o ho=>by
  simp only [look] at ho
  split at ho
  ·cases ho;exact ⟨by assumption,rfl⟩
  ·cases ho
 have hfree:∀ b,Dt ctx mb blk b -> zZ (ctxT ctx mb blk j w) g [(mid,Ob.mapP ks (wW R es) none (es.toList.map (·.born)) ck)] b:=fun b hb=>⟨.inl hb,fun id o m ho hgi=>by
  rw [(hlk id o ho).1,hg] at hgi;cases hgi;exact hb.2.1 rfl⟩
 refine ⟨h.defers,h.size,fun i p hp=>?_,fun id o ho=>?_,fun i i' oi oj b m m' hi hi' hgi hgj=>?_,fun id o b m ho hgi=>?_,rfl,rfl,rfl,Nat.le_refl _,fun _ _ _=>rfl⟩
 ·exact (h.slots i p hp).keep ⟨Nat.le_refl _,fun _ _ _=>rfl⟩ (fun b hb _=>hfree b hb) (fun _ _=>rfl)
 ·obtain ⟨rfl,rfl⟩:=hlk id o ho;refine .mapP ks _ _ _ ck mb q es hg h.hh (by rw [xV h.sz,h.sz]) rfl h.below h.nodup (fun i ns' u hi=>?_) fun j' p hjp=>by cases hjp
  obtain ⟨l',x',r1,r2,r3⟩:=jS hi;obtain ⟨x2,s1,s2,s3,s4⟩:=h.ent i ns' l' r1;rw [r2] at s1;cases s1;refine ⟨x',r2,s2,s3,?_,fun _=>r3⟩
  cases hb:blk i with
  | none=>rw [hb] at s4;rw [s4.2];rfl
  | some bc=>obtain ⟨b,c⟩:=bc;rw [hb] at s4;rw [s4.1];rfl
 ·rw [(hlk i oi hi).1,(hlk i' oj hi').1]
 ·rw [(hlk id o ho).1,hg] at hgi;cases hgi;exact ⟨h.lt.1,.inr (.inl rfl)⟩
theorem RelT.back (h:RelT ctx ks e k mid n sl R a w g mb blk es ck) {j q:Nat} {ns:List Int} {l:List (List DV)} {R':Zp} {vm:List (List Int × Value)} {sl':List (Nat × PV)} {a':Act} {w':World} {g':zQ} {bs':List Nat} {ck':Nat} (hq:mid ≠ q) (hle:R.length <= R'.length)
  (hvl:vm.length = R'.length) (hj:R'[j]? = some (ns,l)) (hjv:∃ u,vm[j]? = some (ns,u)) (hvm:∀ i ns' l',i ≠ j -> R'[i]? = some (ns',l') -> R[i]? = some (ns',l') /\ ∃ x,es[i]? = some x /\ vm[i]? = some (ns',x.val)) (hpl:qH l)
  (hr:RelG (ctxT ctx mb blk j w) g' ⟨n,sl',[(mid,.mapP ks vm (some (j,.row q l.length)) bs' ck'),(q,.row e k l)]⟩ a' w') :
  ∃ mb' blk' es',RelT ctx ks e k mid n sl' R' a' w' g' mb' blk' es' ck':=by
 have hlm:look [(mid,Ob.mapP ks vm (some (j,.row q l.length)) bs' ck'),(q,Ob.row e k l)] mid = some (.mapP ks vm (some (j,.row q l.length)) bs' ck'):=by simp [look]
 have hlq:look [(mid,Ob.mapP ks vm (some (j,.row q l.length)) bs' ck'),(q,Ob.row e k l)] q = some (.row e k l):=by simp [look,Ne.symm hq]
 cases hr.objs mid _ hlm with
 | mapP _ _ _ _ _ mb' n' es' hgm hh hsz hst hbl hnd hent hov=>
  subst hst;have hgr:w.heap.size <= w'.heap.size:=hr.grows;have hbase:ctx.w0.heap.size <= w.heap.size:=h.grows;have hown:∀ id o b m,look [(mid,Ob.mapP ks vm (some (j,.row q l.length)) (es'.toList.map (·.born)) ck'),(q,Ob.row e k l)] id = some o -> g' id = some (b,m) -> b < w'.heap.size /\ (w.heap.size <= b \/ b = mb \/ ∃ c,blk j = some (b,c)):=fun id o b m ho hg=>hr.own id o b m ho hg
  have hnew:∀ b,(w.heap.size <= b \/ b = mb \/ ∃ c,blk j = some (b,c)) -> ctx.w0.heap.size <= b \/ ctx.K b:=fun b hb=>by
   rcases hb with hb | hb | ⟨c,hb⟩
   ·exact .inl (by omega)
   ·subst hb;exact h.lt.2
   ·exact (h.own j b c hb).2.1
  have hkeep:∀ i b c,i ≠ j -> blk i = some (b,c) -> w'.heap[b]? = w.heap[b]?:=fun i b c hij hb=>hr.keep b (h.own i b c hb).1 fun hk=>by
   rcases hk with hk | ⟨c',hk⟩
   ·exact (h.own i b c hb).2.2 hk
   ·exact hij (h.inj i j b c c' hb hk)
  have hdiff:∀ i b c,i ≠ j -> blk i = some (b,c) -> ¬ (w.heap.size <= b \/ b = mb \/ ∃ c,blk j = some (b,c)):=fun i b c hij hb hk=>by
   rcases hk with hk | hk | ⟨c',hk⟩
   ·have:=(h.own i b c hb).1;omega
   ·exact (h.own i b c hb).2.2 hk
   ·exact hij (h.inj i j b c c' hb hk)
  refine ⟨mb',fun i=>if i = j then g' q else blk i,es',hr.defers,hr.size,fun i p hp=>?_,⟨n',hgm⟩,⟨(hown mid _ mb' n' hlm hgm).1,hnew mb' (hown mid _ mb' n' hlm hgm).2⟩,hh,by rw [hsz,hvl],hbl,hnd,fun i ns' l' hi=>?_,fun i i' b c c' hi hi'=>?_,fun i b c hi=>?_,fun i hi=>?_,?_,?_,?_,by omega,fun z hz hzK=>?_⟩
  ·refine (hr.slots i p hp).keep ⟨Nat.le_refl _,fun _ _ _=>rfl⟩ (fun b hb _=>⟨?_,fun eb=>?_,fun i' c hc=>?_⟩) (fun _ _=>rfl)
   ·rcases hb.1 with h1 | h1
    ·exact h1.1
    ·have h1':w.heap.size <= b:=h1;exact .inr (by omega)
   ·subst eb;exact hb.2 mid _ n' hlm hgm
   ·simp only at hc
    split at hc
    ·exact hb.2 q _ c hlq hc
    ·rcases hb.1 with h1 | h1
     ·exact h1.2.2 i' c hc
     ·have h1':w.heap.size <= b:=h1;have:=(h.own i' b c hc).1;omega
  ·by_cases hij:i = j
   ·subst hij;rw [hj] at hi
    cases hi
    obtain ⟨u,hu⟩:=hjv;obtain ⟨x,r1,r2,r3,_,_⟩:=hent i _ u hu;obtain ⟨x',s1,s2⟩:=hov i _ rfl;rw [r1] at s1
    cases s1
    refine ⟨x,r1,r2,r3,?_⟩;simp only [if_true];have h2:=rd_row s2
    generalize hL:l.length = L at h2
    cases hr.objs q _ hlq with
    | rowNil _ _ hgq=>
     rw [hgq];rcases h2 with ⟨b,c,hgi,_⟩ | ⟨_,_,hv⟩
     ·rw [hgq] at hgi;cases hgi
     ·exact ⟨rfl,hv⟩
    | row _ _ _ b c cur hgq hc hlc hcap hcl hkk hrr=>
     rw [hgq];rcases h2 with ⟨b',c',hgi,hv⟩ | ⟨hgi,_,_⟩
     ·rw [hgq] at hgi
      cases hgi
      subst hL;refine ⟨hv,cur,hc,hlc,hcap,hcl,hkk,fun i' cs j' y hi' hy=>?_⟩;obtain ⟨u',hu',hd⟩:=hrr i' cs j' y hi' hy;obtain ⟨u2,rfl⟩:=hpl cs (List.mem_of_getElem? hi') y (List.mem_of_getElem? hy)
      cases hd with
      | v _ h1=>exact ⟨_,hu',rfl,h1⟩
     ·rw [hgq] at hgi;cases hgi
   ·obtain ⟨r0,x0,e0,r1⟩:=hvm i ns' l' hij hi;obtain ⟨x,s1,s2,s3,s4,s5⟩:=hent i _ _ r1;refine ⟨x,s1,s2,s3,?_⟩;have hxv:=s5 fun p hp=>by cases hp;exact hij rfl
    simp only [if_neg hij];obtain ⟨x',t1,_,_,t4⟩:=h.ent i ns' l' r0;rw [e0] at t1
    cases t1
    rw [hxv]
    cases hb:blk i with
    | none=>rw [hb] at t4;exact t4
    | some bc=>
     obtain ⟨b,c⟩:=bc;rw [hb] at t4;obtain ⟨hv,cur,hc,rest⟩:=t4;exact ⟨hv,cur,by rw [hkeep i b c hij hb];exact hc,rest⟩
  ·have hi0:=hi;have hi0':=hi';clear hi hi';have hi:(if i = j then g' q else blk i) = some (b,c):=hi0;have hi':(if i' = j then g' q else blk i') = some (b,c'):=hi0'
   by_cases h1:i = j <;> by_cases h2:i' = j
   ·rw [h1,h2]
   ·rw [if_pos h1] at hi;rw [if_neg h2] at hi';exact (hdiff i' b c' h2 hi' (hown q _ b c hlq hi).2).elim
   ·rw [if_neg h1] at hi;rw [if_pos h2] at hi';exact (hdiff i b c h1 hi (hown q _ b c' hlq hi').2).elim
   ·rw [if_neg h1] at hi;rw [if_neg h2] at hi';exact h.inj i i' b c c' hi hi'
  ·replace hi:(if i = j then g' q else blk i) = some (b,c):=hi
   by_cases h1:i = j
   ·rw [if_pos h1] at hi;have:=hown q _ b c hlq hi;exact ⟨this.1,hnew b this.2,fun eb=>by subst eb;exact hq (hr.inj mid q _ _ b n' c hlm hlq hgm hi)⟩
   ·rw [if_neg h1] at hi;have:=h.own i b c hi;exact ⟨by omega,this.2.1,fun eb=>by subst eb;exact hdiff i b c h1 hi (hown mid _ b n' hlm hgm).2⟩
  ·have hjl:=(List.getElem?_eq_some_iff.1 hj).1;simp only [if_neg (show i ≠ j by omega)];exact h.out i (by omega)
  ·rw [<- h.os];exact hr.os
  ·rw [<- h.tape];exact hr.tape
  ·rw [<- h.output];exact hr.output
  ·rw [<- h.keep z hz hzK];refine hr.keep z (Nat.lt_of_lt_of_le hz hbase) fun hk=>?_
   rcases hk with hk | ⟨c,hk⟩
   ·subst hk;rcases h.lt.2 with h1 | h1
    ·omega
    ·exact hzK h1
   ·rcases (h.own j z c hk).2.1 with h1 | h1
    ·omega
    ·exact hzK h1
theorem RelT.back0 (h:RelT ctx ks e k mid n sl R a w g mb blk es ck) {j:Nat} (hjn:blk j = none) {sl':List (Nat × PV)} {a':Act} {w':World} {g':zQ} {bs':List Nat} {ck':Nat}
  (hr:RelG (ctxT ctx mb blk j w) g' ⟨n,sl',[(mid,.mapP ks (wW R es) none bs' ck')]⟩ a' w') :
  ∃ mb' es',RelT ctx ks e k mid n sl' R a' w' g' mb' blk es' ck':=by
 have hlm:look [(mid,Ob.mapP ks (wW R es) none bs' ck')] mid = some (.mapP ks (wW R es) none bs' ck'):=by simp [look]
 cases hr.objs mid _ hlm with
 | mapP _ _ _ _ _ mb' n' es' hgm hh hsz hst hbl hnd hent hov=>
  subst hst;have hgr:w.heap.size <= w'.heap.size:=hr.grows;have hbase:ctx.w0.heap.size <= w.heap.size:=h.grows;have hown:mb' < w'.heap.size /\ (w.heap.size <= mb' \/ mb' = mb \/ ∃ c,blk j = some (mb',c)):=hr.own mid _ mb' n' hlm hgm;have hown2:w.heap.size <= mb' \/ mb' = mb:=by
   rcases hown.2 with h1 | h1 | ⟨c,h1⟩
   ·exact .inl h1
   ·exact .inr h1
   ·rw [hjn] at h1;cases h1
  have hkeep:∀ i b c,blk i = some (b,c) -> w'.heap[b]? = w.heap[b]?:=fun i b c hb=>hr.keep b (h.own i b c hb).1 fun hk=>by
   rcases hk with hk | ⟨c',hk⟩
   ·exact (h.own i b c hb).2.2 hk
   ·rw [hjn] at hk;cases hk
  refine ⟨mb',es',hr.defers,hr.size,fun i p hp=>?_,⟨n',hgm⟩,⟨hown.1,?_⟩,hh,by rw [hsz,xV h.sz],hbl,hnd,fun i ns' l' hi=>?_,h.inj,fun i b c hi=>?_,h.out,?_,?_,?_,by omega,fun z hz hzK=>?_⟩
  ·refine (hr.slots i p hp).keep ⟨Nat.le_refl _,fun _ _ _=>rfl⟩ (fun b hb _=>⟨?_,fun eb=>?_,fun i' c hc=>?_⟩) (fun _ _=>rfl)
   ·rcases hb.1 with h1 | h1
    ·exact h1.1
    ·have h1':w.heap.size <= b:=h1;exact .inr (by omega)
   ·subst eb;exact hb.2 mid _ n' hlm hgm
   ·rcases hb.1 with h1 | h1
    ·exact h1.2.2 i' c hc
    ·have h1':w.heap.size <= b:=h1;have:=(h.own i' b c hc).1;omega
  ·rcases hown2 with h1 | h1
   ·exact .inl (by omega)
   ·rw [h1];exact h.lt.2
  ·obtain ⟨x',t1,t2,t3,t4⟩:=h.ent i ns' l' hi;obtain ⟨x,s1,s2,s3,s4,s5⟩:=hent i _ _ (WC hi t1);refine ⟨x,s1,s2,s3,?_⟩;rw [s5 fun p hp=>by cases hp]
   cases hb:blk i with
   | none=>rw [hb] at t4;exact t4
   | some bc=>
    obtain ⟨b,c⟩:=bc;rw [hb] at t4;obtain ⟨hv,cur,hc,rest⟩:=t4;exact ⟨hv,cur,by rw [hkeep i b c hb];exact hc,rest⟩
  ·have:=h.own i b c hi;refine ⟨by omega,this.2.1,fun eb=>?_⟩;rcases hown2 with h1 | h1
   ·omega
   ·exact this.2.2 (by rw [eb,h1])
  ·rw [<- h.os];exact hr.os
  ·rw [<- h.tape];exact hr.tape
  ·rw [<- h.output];exact hr.output
  ·rw [<- h.keep z hz hzK];refine hr.keep z (Nat.lt_of_lt_of_le hz hbase) fun hk=>?_
   rcases hk with hk | ⟨c,hk⟩
   ·subst hk;rcases h.lt.2 with h1 | h1
    ·omega
    ·exact hzK h1
   ·rw [hjn] at hk;cases hk
end
end

section
variable {P:Program} {ctx:Ctx} {ks:List IntKind} {e:TypeId} {k mid n:Nat} {Q:PQ} {s:PState} {c:Code}
inductive RoundT (P:Program) (c:Code) (ks:List IntKind) (e:TypeId) (k mid n:Nat) (sl:List (Nat × PV)) (R:Zp) (sl':List (Nat × PV)) (R':Zp):Prop
 | found {j nl nl':Nat} {ns:List Int} {l l':List (List DV)} (hl:nl = l.length) (hl':nl' = l'.length) (hj:R[j]? = some (ns,l)) (hR:R' = R.set j (ns,l'))
   (h:∀ (ctx:Ctx) (vm:List (List Int × Value)) (bs:List Nat) (ck:Nat),vm.map (·.1) = R.map (·.1) -> PWc P ctx c (fun x t=>x = .normal /\ Sub ctx t ⟨n,sl',[(mid,.mapP ks vm (some (j,.row 50 nl')) bs ck),(50,.row e k l')]⟩) ⟨n,sl,[(mid,.mapP ks vm (some (j,.row 50 nl)) bs ck),(50,.row e k l)]⟩)
 | fresh {q nl':Nat} {ns:List Int} {l':List (List DV)} (hl':nl' = l'.length) (hq:mid ≠ q) (hR:R' = R ++ [(ns,l')])
   (h:∀ (ctx:Ctx) (vm:List (List Int × Value)) (bs:List Nat) (ck:Nat),vm.map (·.1) = R.map (·.1) -> PWc P ctx c (fun x t=>x = .normal /\ Sub ctx t ⟨n,sl',[(mid,.mapP ks (vm ++ [(ns,undef)]) (some (vm.length,.row q nl')) (bs ++ [ck]) (ck + 1)),(q,.row e k l')]⟩) ⟨n,sl,[(mid,.mapP ks vm none bs ck)]⟩)
 | skip (hR:R' = R) (h:∀ (ctx:Ctx) (vm:List (List Int × Value)) (bs:List Nat) (ck:Nat),PWc P ctx c (fun x t=>x = .normal /\ Sub ctx t ⟨n,sl',[(mid,.mapP ks vm none bs ck)]⟩) ⟨n,sl,[(mid,.mapP ks vm none bs ck)]⟩)

theorem RoundT.run {sl sl':List (Nat × PV)} {R R':Zp} (hr:RoundT P c ks e k mid n sl R sl' R') (hm:mid ≠ 50) (hnm:∀ x ∈ sl,∀ id,x.2.has id = true -> id = mid) (hpl:∀ p ∈ R',qH p.2)
  {a:Act} {w:World} {g:zQ} {mb:Nat} {blk:Nat -> Option (Nat × Nat)} {es:Array MapEntry} {ck:Nat} (h:RelT ctx ks e k mid n sl R a w g mb blk es ck) :
  c.wp P (fun x a' w'=>x = .normal /\ ∃ g' mb' blk' es' ck',RelT ctx ks e k mid n sl' R' a' w' g' mb' blk' es' ck') a w:=by
 cases hr with
 | @found j nl nl' ns l l' hl hl' hj hR hw=>
  subst hl hl';refine wp_mono (hw (ctxT ctx mb blk j w) (wW R es) (es.toList.map (·.born)) ck (jR h.sz) a w ⟨_,h.found hnm hm hj⟩) fun x a' w' ⟨t,⟨hx,hs⟩,ht⟩=>⟨hx,?_⟩
  obtain ⟨g',hg'⟩:=hs a' w' ht;subst hR;have hjl:=(List.getElem?_eq_some_iff.1 hj).1;obtain ⟨x0,e0,_,_,_⟩:=h.ent j ns l hj;have hj':(R.set j (ns,l'))[j]? = some (ns,l'):=by rw [List.getElem?_set_self hjl]
  obtain ⟨mb',blk',es',hT⟩:=h.back (R':=R.set j (ns,l')) (vm:=wW R es) (q:=50) hm (by simp) (by rw [xV h.sz];simp) hj' ⟨x0.val,WC hj e0⟩ (fun i ns' l2 hij hi=>by
   rw [List.getElem?_set_ne (Ne.symm hij)] at hi;obtain ⟨x1,e1,_⟩:=h.ent i ns' l2 hi;exact ⟨hi,x1,e1,WC hi e1⟩) (hpl _ (List.mem_of_getElem? hj')) hg'
  exact ⟨g',mb',blk',es',_,hT⟩
 | @fresh q nl' ns l' hl' hq hR hw=>
  subst hl';refine wp_mono (hw (ctxT ctx mb blk R.length w) (wW R es) (es.toList.map (·.born)) ck (jR h.sz) a w ⟨_,h.fresh R.length⟩) fun x a' w' ⟨t,⟨hx,hs⟩,ht⟩=>⟨hx,?_⟩
  obtain ⟨g',hg'⟩:=hs a' w' ht;subst hR;have hj':(R ++ [(ns,l')])[R.length]? = some (ns,l'):=by simp
  rw [xV h.sz] at hg';obtain ⟨mb',blk',es',hT⟩:=h.back (R':=R ++ [(ns,l')]) (j:=R.length) (vm:=wW R es ++ [(ns,undef)]) (q:=q) hq (by simp) (by simp [xV h.sz]) hj' ⟨undef,by rw [List.getElem?_append_right (by rw [xV h.sz];exact Nat.le_refl _)];simp [xV h.sz]⟩ (fun i ns' l2 hij hi=>by
   have hil:i < R.length:=by
    have:=(List.getElem?_eq_some_iff.1 hi).1;simp at this;omega
   rw [List.getElem?_append_left hil] at hi;obtain ⟨x1,e1,_⟩:=h.ent i ns' l2 hi;exact ⟨hi,x1,e1,by rw [List.getElem?_append_left (by rw [xV h.sz];exact hil)];exact WC hi e1⟩) (hpl _ (List.mem_of_getElem? hj')) hg'
  exact ⟨g',mb',blk',es',_,hT⟩
 | skip hR hw=>
  refine wp_mono (hw (ctxT ctx mb blk R.length w) (wW R es) (es.toList.map (·.born)) ck a w ⟨_,h.fresh R.length⟩) fun x a' w' ⟨t,⟨hx,hs⟩,ht⟩=>⟨hx,?_⟩
  obtain ⟨g',hg'⟩:=hs a' w' ht;subst hR;obtain ⟨mb',es',hT⟩:=h.back0 (h.out _ (Nat.le_refl _)) hg';exact ⟨g',mb',blk,es',_,hT⟩

theorem PWc.loopRows {bid N:Nat} (J:Nat -> List (Nat × PV)) (R:Nat -> Zp) (Jf:List (Nat × PV)) (bs0:List Nat) (ck0:Nat) (hK:∀ b,ctx.K b -> ctx.S b) (hm:mid ≠ 50) (hJ:∀ i,∀ x ∈ J i,∀ id,x.2.has id = true -> id = mid)
  (h0:R 0 = []) (hpl:∀ i,∀ p ∈ R i,qH p.2) (hs:Sub ctx s ⟨n,J 0,[(mid,.map ks false [] bs0 ck0)]⟩)
  (round:∀ i,i < N -> RoundT P c ks e k mid n (J i) (R i) (J (i + 1)) (R (i + 1)))
  (mf:Mp) (hmf:UI (R N) = mf) (last:∀ (ctx:Ctx) (vm:List (List Int × Value)) (bs:List Nat) (ck:Nat),PWc P ctx c (fun x t=>x = .exit bid /\ Sub ctx t ⟨n,Jf,[(mid,.mapP ks vm none bs ck)]⟩) ⟨n,J N,[(mid,.mapP ks vm none bs ck)]⟩)
  (hQ:∀ bs ck,Q (.exit bid) ⟨n,Jf,[(mid,.map ks false mf bs ck)]⟩):PWc P ctx (.loop c) Q s:=by
 subst hmf;intro a w hr;refine LoopAt.loop ?_;have key:∀ d i,i + d = N -> ∀ a w g mb blk es ck,RelT ctx ks e k mid n (J i) (R i) a w g mb blk es ck -> LoopAt P c (lift ctx Q) a w:=by
  intro d
  induction d with
  | zero=>
   intro i hi a w g mb blk es ck h;have:i = N:=by omega
   subst this;refine LoopAt.step (wp_mono (last (ctxT ctx mb blk (R i).length w) (wW (R i) es) (es.toList.map (·.born)) ck a w ⟨_,h.fresh (R i).length⟩) fun x a' w' ⟨t,⟨hx,hsb⟩,ht⟩=>?_);obtain ⟨g',hg'⟩:=hsb a' w' ht;obtain ⟨mb',es',hT⟩:=h.back0 (h.out _ (Nat.le_refl _)) hg';subst hx;exact ⟨_,hQ _ _,g',hT.done hK⟩
  | succ d ih=>
   intro i hi a w g mb blk es ck h;refine LoopAt.step (wp_mono ((round i (by omega)).run hm (hJ i) (hpl (i + 1)) h) fun x a' w' ⟨hx,g',mb',blk',es',ck',hT⟩=>?_);subst hx;exact ih (i + 1) (by omega) a' w' g' mb' blk' es' ck' hT
 obtain ⟨g,hg⟩:=hs a w hr;obtain ⟨mb,es,ck,hT⟩:=RelT.start (e:=e) (k:=k) hg;rw [<- h0] at hT;exact key N 0 (by omega) a w g mb _ es ck hT
end

section
variable {κ α:Type} {eK:κ -> List Int} {enc:α -> List DV}
def xZ (eK:κ -> List Int) (enc:α -> List DV) (m:List (κ × List α)):Zp:=m.map fun x=>(eK x.1,x.2.map enc)
theorem qI (m:List (κ × List α)):UI (xZ eK enc m) = zN eK (eL enc) m:=by simp [UI,xZ,zN,eL]
theorem Xf (h:∀ x,∀ d ∈ enc x,∃ u,d = DV.v u) (m:List (κ × List α)):∀ p ∈ xZ eK enc m,qH p.2:=by
 intro p hp cs hcs d hd;simp only [xZ,List.mem_map] at hp;obtain ⟨x,_,rfl⟩:=hp;obtain ⟨y,_,rfl⟩:=List.mem_map.1 hcs;exact h y d hd
variable [DecidableEq κ]
theorem Yk {vm:List (List Int × Value)} {R:Zp} (h:vm.map (·.1) = R.map (·.1)):vO vm = R.map fun x=>(x.1,[]):=by
 have e1:vO vm = (vm.map (·.1)).map fun k=>(k,[]):=by simp [vO]
 rw [e1,h];simp
theorem XK (inj:∀ a b,eK a = eK b -> a = b) (q:κ):∀ m:List (κ × List α),
  (∃ j l,yO (eK q) ((xZ eK enc m).map fun x=>(x.1,([]:List DV))) 0 = some j /\ (xZ eK enc m)[j]? = some (eK q,l.map enc) /\ AL.getZ m q [] = l /\ ∀ l',xZ eK enc (AL.set m q l') = (xZ eK enc m).set j (eK q,l'.map enc)) \/
  (yO (eK q) ((xZ eK enc m).map fun x=>(x.1,([]:List DV))) 0 = none /\ AL.getZ m q [] = [] /\ ∀ l',xZ eK enc (AL.set m q l') = xZ eK enc m ++ [(eK q,l'.map enc)])
 | []=>.inr ⟨rfl,rfl,fun _=>rfl⟩
 | (k,v) :: r=>by
  by_cases h:k = q
  ·subst h;refine .inl ⟨0,v,?_,rfl,?_,fun l'=>?_⟩
   ·show (if eK k = eK k then _ else _) = _;rw [if_pos rfl]
   ·simp [AL.getZ,AL.get]
   ·simp [xZ,AL.set]
  ·have he:¬ eK k = eK q:=fun e=>h (inj _ _ e)
   have hp:yO (eK q) ((xZ eK enc ((k,v) :: r)).map fun x=>(x.1,([]:List DV))) 0 = (yO (eK q) ((xZ eK enc r).map fun x=>(x.1,([]:List DV))) 0).map (1 + ·):=by
    show (if eK k = eK q then _ else _) = _;rw [if_neg he,xF]
    rfl
   have hg:AL.getZ ((k,v) :: r) q [] = AL.getZ r q []:=by simp [AL.getZ,AL.get,h]
   rcases XK inj q r with ⟨j,l,h1,h2,h3,h4⟩ | ⟨h1,h2,h3⟩
   ·refine .inl ⟨1 + j,l,by rw [hp,h1];rfl,?_,by rw [hg,h3],fun l'=>?_⟩
    ·rw [Nat.add_comm];exact h2
    ·rw [Nat.add_comm];have:=h4 l';simp only [AL.set,h,if_false];show _ :: xZ eK enc (AL.set r q l') = _ :: _;rw [this];rfl
   ·refine .inr ⟨by rw [hp,h1];rfl,by rw [hg,h2],fun l'=>?_⟩;simp only [AL.set,h,if_false];show _ :: xZ eK enc (AL.set r q l') = _ :: _;rw [h3 l'];rfl
end
namespace AL
variable {κ α β:Type} [DecidableEq κ]
theorem zUa {ν:Type} (m:List (κ × ν)) (k q:κ) (v z:ν):getZ (set m k v) q z = if k = q then v else getZ m q z:=by
 induction m with
 | nil=>by_cases h:k = q <;> simp [getZ,set,get,h]
 | cons x r ih=>
  obtain ⟨a,u⟩:=x
  by_cases ha:a = k
  ·subst ha
   by_cases h:a = q <;> simp [getZ,set,get,h]
  ·simp only [set,ha,if_false]
   by_cases h:a = q
   ·subst h;have:¬ k = a:=fun e=>ha e.symm
    simp [getZ,get,this]
   ·have e1:getZ ((a,u) :: set r k v) q z = getZ (set r k v) q z:=by simp [getZ,get,h]
    have e2:getZ ((a,u) :: r) q z = getZ r q z:=by simp [getZ,get,h]
    rw [e1,e2];exact ih
theorem JF (m l l':List (κ × List α)):grow m (l ++ l') = grow (grow m l) l':=by simp [grow]
theorem grow_take {c:List β} {i:Nat} {p:β} (hp:c[i]? = some p) (f:β -> Option (κ × List α)):grow ([]:List (κ × List α)) ((c.take (i + 1)).filterMap f) = grow (grow [] ((c.take i).filterMap f)) (f p).toList:=by
 rw [List.take_add_one,hp,List.filterMap_append,JF]
 cases h:f p <;> simp [h]
theorem grow_len (q:κ) (l:List (κ × List α)):∀ m:List (κ × List α),(getZ (grow m l) q []).length <= (getZ m q []).length + (l.map fun x=>x.2.length).sum:=by
 induction l with
 | nil=>intro m;simp [grow]
 | cons x r ih=>
  intro m;have h1:=ih (set m x.1 (getZ m x.1 [] ++ x.2));rw [zUa] at h1;show (getZ (grow (set m x.1 (getZ m x.1 [] ++ x.2)) r) q []).length <= _;simp only [List.map_cons,List.sum_cons]
  by_cases h:x.1 = q
  ·subst h;rw [if_pos rfl,List.length_append] at h1;omega
  ·rw [if_neg h] at h1;omega
theorem grow_bound {c:List β} {i n bs:Nat} {p:β} {x:κ × List α} {f:β -> Option (κ × List α)} (hB:growOK bs n (c.filterMap f)) (hp:c[i]? = some p) (hf:f p = some x) :
  ((getZ (grow [] ((c.take i).filterMap f)) x.1 []).length + x.2.length) * bs <= 140737488355328:=by
 have h1:=grow_len x.1 ((c.take i).filterMap f) [];have h2:c = c.take i ++ p :: c.drop (i + 1):=by
  have hlt:=(List.getElem?_eq_some_iff.1 hp).1;have:c[i] = p:=(List.getElem?_eq_some_iff.1 hp).2;rw [<- this,<- List.drop_eq_getElem_cons hlt,List.take_append_drop]
 have h3:((c.filterMap f).map fun x=>x.2.length).sum = (((c.take i).filterMap f).map fun x=>x.2.length).sum + (x.2.length + (((c.drop (i + 1)).filterMap f).map fun x=>x.2.length).sum):=by
  conv=>lhs;rw [h2]
  simp [List.filterMap_append,List.filterMap_cons,hf]
 have h4:(getZ ([]:List (κ × List α)) x.1 []).length = 0:=by simp [getZ,get]
 refine Nat.le_trans (Nat.mul_le_mul_right bs ?_) hB.2;omega
end AL
theorem zVa {s s':PState} (h1:s'.n = s.n) (h2:s'.sl = s.sl) {y:Operand} {q:PV} (h:s.ev y = some q):s'.ev y = some q:=by
 cases y with
 | tmp t=>show s'.at t = _;unfold PState.at;rw [h1,h2];exact h
 | const v=>cases v <;> exact h
 | func f=>exact h
 | global g=>exact h
theorem evObjs {s:PState} {objs:List (Nat × Ob)} {y:Operand} {q:PV} (h:s.ev y = some q):({ s with objs:=objs }:PState).ev y = some q:=zVa (s:=s) rfl rfl h
theorem Wh {s:PState} {id:Nat} {e k:Nat} {l:List (List DV)} (h:s.fresh id = true):({ s with objs:=zd id (.row e k l) s.objs }:PState).alone id = true:=by
 unfold PState.fresh at h;unfold PState.alone;rw [Bool.and_eq_true] at h ⊢;refine ⟨h.1,List.all_eq_true.2 fun x hx=>?_⟩;obtain ⟨xk,xo⟩:=x;rcases WA hx with h3 | h3
 ·cases h3;rfl
 ·have:=List.all_eq_true.1 h.2 _ h3;simp only [Bool.and_eq_true] at this;exact this.2
theorem idxU {α:Type} {l:List α} {i:Int} {x y:α} (h1:0 <= i /\ l[i.toNat]? = some x) (h2:0 <= i /\ l[i.toNat]? = some y):x = y:=by have:=h1.2.symm.trans h2.2;cases this;rfl
theorem detU {α:Type} {m:M α} {x y:α} (h1:m.wp (· = x)) (h2:m.wp (· = y)):x = y:=by obtain ⟨z,h3,h4⟩:=m.meet h1 h2;rw [<- h3,h4]
theorem zWa {i:Nat} (h:i < 9223372036854775807):IntKind.i64.wrap ((i:Int) + 1) = ((i + 1:Nat):Int):=by rw [Jp (by omega) (by omega)];rfl
end Go.Ep

namespace Go.Ep
open Go.RowKit

theorem zXa {α β : Type} (f : α -> β) {l l' : List β} (h : l'.Perm l) : ∀ Z : List α, Z.map f = l -> ∃ Z' : List α, Z'.Perm Z /\ Z'.map f = l' := by
  induction h with
  | nil => intro Z hZ; exact ⟨[], by have : Z = [] := by simpa using hZ
                                     rw [this], rfl⟩
  | cons x _ ih =>
    intro Z hZ
    cases Z with
    | nil => cases hZ
    | cons z r =>
      simp only [List.map_cons, List.cons.injEq] at hZ;obtain ⟨Z', h1, h2⟩ := ih r hZ.2;exact ⟨z :: Z', h1.cons z, by simp [hZ.1, h2]⟩
  | swap x y _ =>
    intro Z hZ
    match Z, hZ with
    | a :: b :: r, hZ =>
      simp only [List.map_cons, List.cons.injEq] at hZ;exact ⟨b :: a :: r, List.Perm.swap a b r, by simp [hZ]⟩
    | [a], hZ => simp at hZ
    | [], hZ => cases hZ
  | trans _ _ ih1 ih2 =>
    intro Z hZ;obtain ⟨Z1, h1, h2⟩ := ih2 Z hZ;obtain ⟨Z2, h3, h4⟩ := ih1 Z1 h2;exact ⟨Z2, h3.trans h1, h4⟩

section
variable {P:Program} {ctx:Ctx} {Q:PQ} {s:PState}
variable {dst:Option Tmp} {ty:TypeId} {pos:String} {after:Array Edge} {gd:Option (Nat × Bool)}

theorem raws {α X:Type} {enc:α -> List Value} {encD:X -> List DV} {R:X -> α -> Prop} {k:Nat} {w:World} {S:Nat -> Prop} {cur:List Value}
  (hraw:∀ (x:X) (us:List Value),us.length = k -> (∀ (j:Nat) (d:DV) (u:Value),(encD x)[j]? = some d -> us[j]? = some u -> DRd w S d u) -> ∃ r:α,enc r = us /\ R x r) (hk:∀ y,(encD y).length = k) :
  ∀ (l:List X) (b:Nat),(∀ (i:Nat) (x:X) (j:Nat) (d:DV),l[i]? = some x -> (encD x)[j]? = some d -> ∃ u,cur[(b + i) * k + j]? = some u /\ DRd w S d u) ->
   ∃ Z:List (X × α),Z.map (·.1) = l /\ ∀ i z,Z[i]? = some z -> R z.1 z.2 /\ (∀ (j:Nat) (u:Value),(enc z.2)[j]? = some u -> cur[(b + i) * k + j]? = some u) /\ ∀ (j:Nat) (d:DV) (u:Value),(encD z.1)[j]? = some d -> (enc z.2)[j]? = some u -> DRd w S d u
 | [],b,_=>⟨[],rfl,fun i z h=>by simp at h⟩
 | x :: r,b,h=>by
  obtain ⟨Z,h1,h2⟩:=raws hraw hk r (b + 1) fun i y j d hi hd=>by
   have:=h (i + 1) y j d (by simpa using hi) hd
   rwa [show b + (i + 1) = b + 1 + i by omega] at this
  let us:List Value:=(List.range k).map fun j=>cur.getD (b * k + j) undef
  have hget:∀ j d,(encD x)[j]? = some d -> ∃ u,us[j]? = some u /\ cur[b * k + j]? = some u /\ DRd w S d u:=fun j d hd=>by
   obtain ⟨u,h3,h4⟩:=h 0 x j d rfl hd;rw [Nat.add_zero] at h3;have hj:j < k:=by rw [<- hk x];exact (List.getElem?_eq_some_iff.1 hd).1
   exact ⟨u,by simp [us,hj,List.getD,h3],h3,h4⟩
  obtain ⟨q,h3,h4⟩:=hraw x us (by simp [us]) fun j d u hd hu=>by
   obtain ⟨u',h5,_,h6⟩:=hget j d hd;rw [h5] at hu;cases hu;exact h6
  refine ⟨(x,q) :: Z,by simp [h1],fun i z hz=>?_⟩
  cases i with
  | zero=>
   simp only [List.getElem?_cons_zero,Option.some.injEq] at hz;subst hz;refine ⟨h4,fun j u hu=>?_,fun j d u hd hu=>?_⟩
   ·rw [Nat.add_zero];simp only [h3] at hu;have hj:j < k:=by have:=(List.getElem?_eq_some_iff.1 hu).1;simpa [us] using this
    have hj2:j < (encD x).length:=by rw [hk];exact hj
    obtain ⟨u',h5,h6,_⟩:=hget j _ (List.getElem?_eq_getElem hj2);rw [h5] at hu;cases hu;exact h6
   ·simp only [h3] at hu;obtain ⟨u',h5,_,h6⟩:=hget j d hd;rw [h5] at hu;cases hu;exact h6
  | succ i=>
   have:=h2 i z (by simpa using hz)
   rwa [show b + 1 + i = b + (i + 1) by omega] at this

theorem PWl.sortFnR {α X:Type} {ops:Array Oper} {rest:List Oper} {id n k:Nat} {e:TypeId} {fx x gx:Operand} {ats:Array TypeId} {f g:FuncId} {enc:α -> List Value} {encD:X -> List DV} {ltR:α -> α -> Bool} {lt:X -> X -> Bool} {R:X -> α -> Prop} {l:List X} (hS:SortLaw P f g k enc ltR)
  (hraw:∀ (w:World) (S:Nat -> Prop) (x:X) (us:List Value),us.length = k -> (∀ (j:Nat) (d:DV) (u:Value),(encD x)[j]? = some d -> us[j]? = some u -> DRd w S d u) -> ∃ r:α,enc r = us /\ R x r) (hlt:∀ x y r r',R x r -> R y r' -> ltR r r' = lt x y) (hk:∀ y,(encD y).length = k) (hk2:∀ y,(enc y).length = k)
  (hfx:s.ev fx = some (.d (.v (.func (.func f) #[] #[])))) (he:∀ args w,(callFunc f args).run P w = .ok (.enter f args) w) (hx:s.ev x = some (.row id n)) (hgx:s.ev gx = some (.d (.v (.func (.func g) #[] #[]))))
  (hl:look s.objs id = some (.row e k (l.map encD))) (hn:l.length = n) (hlen:l.length < 4611686018427387904) (hgd:gd = none)
  (h:∀ l':List X,l'.Perm l -> l'.Pairwise (fun x y=>lt y x = false) -> PWl P ctx ops Q rest ((s.setO id (.row e k (l'.map encD))).putD dst (.tup []))) :
  PWl P ctx ops Q (⟨dst,.call ⟨.value fx,#[x,gx],ats⟩,ty,pos,after,gd⟩ :: rest) s:=by
 rintro a w ⟨gh,hg⟩;refine wpList_plain hgd fun K hK=>?_
 have hxv:=hg.ev hx;have hob:=hg.objs id _ hl;unfold Oper.wp;rw [vt (o:=⟨dst,.call ⟨.value fx,#[x,gx],ats⟩,ty,pos,after,gd⟩) rfl (VS hg hfx) he w]
 generalize hv:a.eval x = v at hxv
 have hargs:(#[x,gx]:Array Operand).map a.eval = #[v,.func (.func g) #[] #[]]:=by simp [hv,VS hg hgx]
 rw [hargs]
 generalize hL:l.map encD = L at hob
 cases hob with
 | rowNil _ _ hgn=>
  have hl0:l = []:=by simpa using hL
  subst hl0
  cases hxv with
  | row _ _ blk cap hgi=>rw [hgn] at hgi;cases hgi
  | rowNil=>
   refine (hS.nil w).mono fun en w' ⟨hen,hb⟩=>?_
   subst hen;have hsub:Sub ctx s (s.setO id (.row e k ([].map encD))):=Sub.drop rfl (fun i p hp=>hp) (fun j o hj=>by
    simp only [PState.setO,zC] at hj
    split at hj
    ·rename_i ej;subst ej;cases hj;rw [hl]
    ·exact hj)
   obtain ⟨g2,hg2⟩:=hsub a w' ⟨gh,hg.below hb⟩;exact hK _ _ (h [] (List.Perm.refl _) List.Pairwise.nil _ _ ⟨g2,hg2.put dst (.tup [] [] rfl (by simp))⟩)
 | row _ _ _ blk' cap' cur hgi hh hlc hcap hcs hkk hr'=>
  cases hxv with
  | rowNil _ hgn=>rw [hgn] at hgi;cases hgi
  | row _ _ blk cap hgi'=>
   rw [hgi] at hgi'
   cases hgi'
   subst hL;subst hn;obtain ⟨Z,hZ1,hZ2⟩:=raws (cur:=cur) (hraw w (zZ ctx gh s.objs)) hk l 0 fun i y j d hi hd=>by
    rw [Nat.zero_add];exact hr' i (encD y) j d (by simp [hi]) hd
   have hZl:(Z.map (·.2)).length = l.length:=by rw [<- hZ1];simp
   have hcells:∀ (i:Nat) (y:α) (j:Nat) (u:Value),(Z.map (·.2))[i]? = some y -> (enc y)[j]? = some u -> cur[i * k + j]? = some u:=by
    intro i y j u hi hu;rw [List.getElem?_map] at hi
    cases hz:Z[i]? with
    | none=>rw [hz] at hi;cases hi
    | some z=>
     rw [hz] at hi;simp only [Option.map_some,Option.some.injEq] at hi;subst hi;have:=(hZ2 i z hz).2.1 j u hu
     rwa [Nat.zero_add] at this
   have hrow:=hS.row w blk' cap' (Z.map (·.2)) e cur hh (by rw [hZl];simpa using hlc) hcs (by rw [hZl];exact hlen) hcells;rw [hZl] at hrow;refine hrow.mono fun en w' ⟨hen,l2,cur',hperm,hsort,hh',hcl,hc',hos,htape,hout,hsz,hother⟩=>?_
   subst hen;obtain ⟨Z',hP,hZ'⟩:=zXa (·.2) hperm Z rfl;have hmem:∀ z ∈ Z',R z.1 z.2 /\ ∀ (j:Nat) (d:DV) (u:Value),(encD z.1)[j]? = some d -> (enc z.2)[j]? = some u -> DRd w (zZ ctx gh s.objs) d u:=fun z hz=>by
    obtain ⟨i,hi⟩:=List.mem_iff_getElem?.1 (hP.subset hz);exact ⟨(hZ2 i z hi).1,(hZ2 i z hi).2.2⟩
   let l':=Z'.map (·.1)
   have hl'p:l'.Perm l:=by rw [<- hZ1];exact hP.map _
   have hl's:l'.Pairwise (fun x y=>lt y x = false):=by
    rw [<- hZ'] at hsort;rw [List.pairwise_map] at hsort ⊢;refine List.Pairwise.imp_of_mem (fun {p q} hp hq hpq=>?_) hsort;rw [<- hlt _ _ _ _ (hmem q hq).1 (hmem p hp).1];exact hpq
   have hown:=hg.own id _ blk' cap' hl hgi;have hst:yH w w' (zZ ctx gh s.objs):=⟨hsz,fun b ⟨_,h2⟩ hlt=>hother b hlt fun eb=>by subst eb;exact h2 id _ cap' hl hgi⟩
   have hpl:l'.length = l.length:=hl'p.length_eq;have hsetF:∀ b,zZ ctx gh s.objs b -> zZ ctx gh s.objs b:=fun _ h=>h
   have hwr:=hg.wrote hl hgi (w':=w') hos htape hout hsz hother hown.2 (ob:=.row e k (l'.map encD)) (.row e k _ blk' cap' cur' hgi hh' (by simpa [hpl] using hlc) hcap (by rw [hcl];exact hcs)
    (fun i cs hi=>by
     rw [List.getElem?_map] at hi
     cases hy:l'[i]? with
     | none=>simp [hy] at hi
     | some y=>simp [hy] at hi;subst hi;exact hk y)
    (fun i cs j d hi hd=>by
     rw [List.getElem?_map] at hi
     cases hy:l'[i]? with
     | none=>simp [hy] at hi
     | some y=>
      simp [hy] at hi;subst hi;simp only [l',List.getElem?_map] at hy
      cases hz:Z'[i]? with
      | none=>rw [hz] at hy;cases hy
      | some z=>
       rw [hz] at hy;simp only [Option.map_some,Option.some.injEq] at hy;subst hy;have hj:j < (enc z.2).length:=by rw [hk2,<- hk z.1];exact (List.getElem?_eq_some_iff.1 hd).1
       have hu:(enc z.2)[j]? = some (enc z.2)[j]:=List.getElem?_eq_getElem hj;refine ⟨_,hc' i z.2 j _ (by rw [<- hZ',List.getElem?_map,hz];rfl) hu,?_⟩;exact ((hmem z (List.mem_of_getElem? hz)).2 j d _ hd hu).keep hst (fun b hb _=>yo hl b hb)))
   exact hK _ _ (h l' hl'p hl's _ _ ⟨gh,hwr.put dst (.tup [] [] rfl (by simp))⟩)
end
end Go.Ep

namespace Go.Ep
open Go.RowKit

def OwnB (g:zQ) (os:List (Nat × Ob)) (b:Nat):Prop:=∃ id o n,look os id = some o /\ g id = some (b,n)
structure ObsRd (w:World) (g:zQ) (S:Nat -> Prop) (os:List (Nat × Ob)):Prop where
 rd:∀ id o,look os id = some o -> ObRd w g S id o
 inj:∀ i j oi oj b n m,look os i = some oi -> look os j = some oj -> g i = some (b,n) -> g j = some (b,m) -> i = j
 lt:∀ id o b n,look os id = some o -> g id = some (b,n) -> b < w.heap.size

def YE (w:World) (g:zQ) (S:Nat -> Prop) (os:List (Nat × Ob)) (g':zQ) (os':List (Nat × Ob)) (b:Nat):Prop:=(S b \/ OwnB g os b \/ w.heap.size <= b) /\ ¬ OwnB g' os' b
structure zYa (w:World) (g:zQ) (S:Nat -> Prop) (os:List (Nat × Ob)) (pins:List Nat) (r:PV) (os':List (Nat × Ob)) (w':World) (g':zQ) (u:Value):Prop where
 eos:w'.os = w.os
 tape:w'.tape = w.tape
 output:w'.output = w.output
 grows:w.heap.size <= w'.heap.size
 keep:∀ k,k < w.heap.size -> ¬ OwnB g os k -> w'.heap[k]? = w.heap[k]?
 own:∀ b,OwnB g' os' b -> OwnB g os b \/ w.heap.size <= b
 pin:∀ id ∈ pins,g' id = g id
 res:Rd w' g' (YE w g S os g' os') r u
 obs:ObsRd w' g' (YE w g S os g' os') os'
def PObj {G:Type} (P:Program) (f:FuncId) (ps:List PV) (os:List (Nat × Ob)) (pins:List Nat) (r:PV) (os':G -> List (Nat × Ob)):Prop:=
 ∀ (w:World) (g:zQ) (S:Nat -> Prop) (vs:List Value),ps.length = vs.length -> (∀ (i:Nat) (p:PV) (v:Value),ps[i]? = some p -> vs[i]? = some v -> Rd w g S p v) -> ObsRd w g S os -> (∀ b,S b -> ¬ OwnB g os b) ->
  Calls P f vs.toArray w (fun e w'=>∃ u g' gh,e = .returned u /\ zYa w g S os pins r (os' gh) w' g' u)

section
variable {ctx:Ctx}
inductive ResO (P:Program) (s:PState):ResultVar -> PV -> Prop
 | tmp {t:Nat} {p:PV} (h:s.at t = some p):ResO P s (.tmp t) p
 | agg {t T k id:Nat} {T0:TypeId} {cs:List PV} (ha:∀ w,(isAgg T).run P w = .ok true w) (hs:∀ w,(sizeOf T).run P w = .ok k w) (h:s.at t = some (.ref id 0)) (hl:look s.objs id = some (.cells T0 cs)) (hk:cs.length = k):ResO P s (.cell t T) (.agg cs)
 | cell {t T id:Nat} {T0:TypeId} {p:PV} (ha:∀ w,(isAgg T).run P w = .ok false w) (h:s.at t = some (.ref id 0)) (hl:look s.objs id = some (.cells T0 [p])):ResO P s (.cell t T) p
inductive JG (P:Program) (s:PState):List ResultVar -> List PV -> Prop
 | nil:JG P s [] []
 | cons {r:ResultVar} {p:PV} {rs:List ResultVar} {ps:List PV} (h:ResO P s r p) (t:JG P s rs ps):JG P s (r :: rs) (p :: ps)
def EndsO {G:Type} (P:Program) (ctx:Ctx) (fn:Func) (pl:List (Nat × Ob)) (r:PV) (os':G -> List (Nat × Ob)):PQ:=fun e s=>(e = .normal \/ e = .ret) /\ ∃ gh ps t,Sub ctx s t /\ JG P t fn.results.toList ps /\ Qn ps = r /\
 (∀ id o,look (os' gh) id = some o -> look t.objs id = some o) /\ ∀ id o,look pl id = some o -> look t.objs id = some o

variable {P:Program} {s:PState}
theorem zZa {g:zQ} {a:Act} {w:World} (hg:RelG ctx g s a w) {rv:ResultVar} {p:PV} (h:ResO P s rv p) :
  ∃ v,(jD a.tmps rv).run P w = .ok v w /\ Rd w g (zZ ctx g s.objs) p v:=by
 cases h with
 | @tmp t _ h=>exact ⟨_,rfl,hg.slots t _ h⟩
 | @agg t T k id T0 cs ha hs h hl hk=>
  have hr:=hg.slots t _ h
  generalize hv:a.tmps.getD t undef = v at hr
  cases hr with
  | ref _ _ blk n hgi=>
   cases hg.objs id _ hl with
   | cells _ _ blk' n' us h' hh hlen hr' h1=>
    rw [hgi] at h'
    cases h'
    refine ⟨.agg us.toArray,?_,.agg cs us hlen hr' h1⟩;have:=xd (P:=P) (us:=us) ha (by rw [<- hlen,hk];exact hs) (w:=w) (b:=blk) (o:=0) (fun j u hu=>by rw [Nat.zero_add,zT hh];exact hu);show (do loadVar T (<- asAddr (a.tmps.getD t undef)):Sem Value).run P w = _;rw [hv];simp only [asAddr,Sem.run_bind,Sem.run_pure,Result.andThen_ok];exact this
 | @cell t T id T0 p ha h hl=>
  have hr:=hg.slots t _ h
  generalize hv:a.tmps.getD t undef = v at hr
  cases hr with
  | ref _ _ blk n hgi=>
   cases hg.objs id _ hl with
   | cells _ _ blk' n' us h' hh hlen hr' h1=>
    rw [hgi] at h'
    cases h'
    have hlt:0 < us.length:=by rw [<- hlen];simp
    have hu:us[0]? = some us[0]:=List.getElem?_eq_getElem hlt;refine ⟨us[0],?_,hr' 0 p _ rfl hu⟩;have:=vI (P:=P) ha (w:=w) (ad:=⟨blk,0,none⟩) (u:=us[0]) (by rw [zT hh];exact hu);show (do loadVar T (<- asAddr (a.tmps.getD t undef)):Sem Value).run P w = _;rw [hv];simp only [asAddr,Sem.run_bind,Sem.run_pure,Result.andThen_ok];exact this
theorem QL {g:zQ} {a:Act} {w:World} (hg:RelG ctx g s a w) {rs:List ResultVar} {ps:List PV} (h:JG P s rs ps) :
  ∃ vs:List Value,(rs.mapM (jD a.tmps)).run P w = .ok vs w /\ ps.length = vs.length /\
   ∀ (i:Nat) (p:PV) (v:Value),ps[i]? = some p -> vs[i]? = some v -> Rd w g (zZ ctx g s.objs) p v:=by
 induction h with
 | nil=>exact ⟨[],by simp,rfl,by simp⟩
 | cons h _ ih=>
  obtain ⟨vs,h1,h2,h3⟩:=ih;obtain ⟨v,hv1,hv2⟩:=zZa hg h;refine ⟨v :: vs,?_,by simp [h2],?_⟩
  ·simp only [List.mapM_cons,Sem.run_bind,hv1,h1,Result.andThen_ok,Sem.run_pure]
  ·intro i p u hp hu
   cases i with
   | zero=>simp at hp hu;subst hp;subst hu;exact hv2
   | succ i=>simp at hp hu;exact h3 i p u hp hu

def zaa (pv:Nat -> Option (Nat × Nat)):List Nat -> List (Nat × Ob)
 | []=>[]
 | id :: r=>(id + 1000,.pin id (pv id)) :: zaa pv r
theorem pinL_mem {pv:Nat -> Option (Nat × Nat)} {pins:List Nat} {id:Nat} {o:Ob} (h:look (zaa pv pins) id = some o):∃ t ∈ pins,id = t + 1000 /\ o = .pin t (pv t):=by
 induction pins with
 | nil=>simp [zaa,look] at h
 | cons t r ih=>
  simp only [zaa,look] at h
  split at h
  ·rename_i e;exact ⟨t,by simp,e,by simpa using h.symm⟩
  ·obtain ⟨t',h1,h2,h3⟩:=ih h;exact ⟨t',by simp [h1],h2,h3⟩
theorem zba {pv:Nat -> Option (Nat × Nat)} {pins:List Nat} {t:Nat} (h:t ∈ pins):look (zaa pv pins) (t + 1000) = some (.pin t (pv t)):=by
 induction pins with
 | nil=>cases h
 | cons q r ih=>
  simp only [zaa,look]
  by_cases e:t = q
  ·subst e;simp
  ·rw [if_neg (by omega)];exact ih ((List.mem_cons.1 h).resolve_left e)
theorem yj (l l':List (Nat × Ob)) (id:Nat):look (l ++ l') id = (look l id).or (look l' id):=by
 induction l with
 | nil=>simp [look]
 | cons x r ih=>
  obtain ⟨k,o⟩:=x;simp only [List.cons_append,look]
  split
  ·rfl
  ·exact ih
def pinOK (ps:List PV) (os:List (Nat × Ob)) (pins:List Nat):Bool:=
 pins.all fun t=>ps.all (fun p=>!p.has (t + 1000)) && os.all (fun x=>x.1 != t + 1000 && !x.2.has (t + 1000)) && pins.all (fun t'=>t' + 1000 != t)

theorem PObj.intro {G:Type} {f:FuncId} {fn:Func} {c:Code} {ps:List PV} {os:List (Nat × Ob)} {pins:List Nat} {r:PV} {os':G -> List (Nat × Ob)} {n:Nat} {sl:List (Nat × PV)} (hf:P.funcs[f]? = some fn) (hb:fn.body = some c) (hn:fn.ntmps = n) (hsl:args 0 ps = sl) (hpn:Nat.ble ps.length n = true) (hpin:pinOK ps os pins = true)
  (body:∀ ctx:Ctx,(∀ b,ctx.K b -> ctx.S b) -> ∀ pv:Nat -> Option (Nat × Nat),PWc P ctx c (EndsO P ctx fn (zaa pv pins) r os') ⟨n,sl,os ++ zaa pv pins⟩):PObj P f ps os pins r os':=by
 intro w g S vs hlen hreal hobs hdis
 let ctx:Ctx:=⟨w,fun b=>S b \/ OwnB g os b,OwnB g os⟩
 let pv:Nat -> Option (Nat × Nat):=g
 let g1:zQ:=fun j=>if pins.any (fun t=>j == t + 1000) then none else g j
 simp only [pinOK,List.all_eq_true,Bool.and_eq_true,Bool.not_eq_true',bne_iff_ne,ne_eq] at hpin;have g1pin:∀ t ∈ pins,g1 (t + 1000) = none:=fun t ht=>by
  have:(pins.any fun t'=>t + 1000 == t' + 1000) = true:=List.any_eq_true.2 ⟨t,ht,by simp⟩;simp only [g1,this,if_true]
 have g1ne:∀ j,(∀ t ∈ pins,j ≠ t + 1000) -> g1 j = g j:=fun j hj=>by
  have:(pins.any fun t'=>j == t' + 1000) = false:=by
   rw [List.any_eq_false];intro t ht;simpa using hj t ht
  simp only [g1,this,Bool.false_eq_true,if_false]
 have g1p:∀ p ∈ ps,∀ j,p.has j = true -> g1 j = g j:=fun p hp j hj=>g1ne j fun t ht e=>by
  have:=(hpin t ht).1.1 p hp;rw [<- e,hj] at this
  cases this
 have hosk:∀ id o,look os id = some o -> ∀ t ∈ pins,id ≠ t + 1000:=fun id o ho t ht=>((hpin t ht).1.2 _ (ym ho)).1
 have g1k:∀ id o,look os id = some o -> g1 id = g id:=fun id o ho=>g1ne id (hosk id o ho)
 have g1o:∀ id o,look os id = some o -> ∀ j,o.has j = true -> g1 j = g j:=fun id o ho j hj=>g1ne j fun t ht e=>by
  have:=((hpin t ht).1.2 _ (ym ho)).2;simp only at this;rw [<- e,hj] at this
  cases this
 have hgp:∀ t ∈ pins,g t = pv t:=fun t _=>rfl
 have hlook:∀ id o,look (os ++ zaa pv pins) id = some o -> look os id = some o \/ ∃ t ∈ pins,id = t + 1000 /\ o = .pin t (pv t):=fun id o h=>by
  rw [yj] at h
  cases hl:look os id with
  | none=>rw [hl,Option.none_or] at h;exact .inr (pinL_mem h)
  | some q=>rw [hl,Option.some_or] at h;exact .inl h
 have hfree:∀ b,S b -> zZ ctx g1 (os ++ zaa pv pins) b:=fun b hb=>⟨.inl (.inl hb),fun id o n ho hg=>by
  rcases hlook id o ho with h | ⟨t,ht,h,_⟩
  ·rw [g1k id o h] at hg;exact hdis b hb ⟨id,o,n,h,hg⟩
  ·rw [h,g1pin t ht] at hg;cases hg⟩
 have hst:yH w w S:=⟨Nat.le_refl _,fun _ _ _=>rfl⟩
 have hpl:vs.length <= n:=by rw [<- hlen];exact Nat.le_of_ble_eq_true hpn
 refine calls_of_wp hf hb ?_;subst hsl;have hrel:RelG ctx g1 ⟨n,args 0 ps,os ++ zaa pv pins⟩ { tmps:=vs.toArray ++ Array.replicate (fn.ntmps - vs.toArray.size) undef,defers:=[] } w:=by
  rw [hn];refine ⟨rfl,by simp;omega,?_,?_,?_,?_,rfl,rfl,rfl,Nat.le_refl _,fun _ _ _=>rfl⟩
  ·intro i p hp;obtain ⟨j,h1,h2⟩:=Vx (xI hp);have e:i = j:=by omega
   subst e;have hi':i < vs.length:=by rw [<- hlen];exact (List.getElem?_eq_some_iff.1 h2).1
   have hv:vs[i]? = some vs[i]:=List.getElem?_eq_getElem hi';have e:(vs.toArray ++ Array.replicate (n - vs.toArray.size) undef).getD i undef = vs[i]:=by
    simp [Array.getD_eq_getD_getElem?,Array.getElem?_append,hi']
   rw [e];exact (hreal i p _ h2 hv).keep (w':=w) (g':=g1) hst (fun b hb _=>hfree b hb) (fun j hj=>g1p p (List.mem_of_getElem? h2) j hj)
  ·intro id o ho;rcases hlook id o ho with h | ⟨t,ht,rfl,rfl⟩
   ·exact (hobs.rd id o h).keep hst (fun b hb _=>hfree b hb) (fun _ _ _=>rfl) (g1k id o h) (g1o id o h)
   ·refine .pin t _ (g1pin t ht) ?_;rw [g1ne t fun t' ht' e=>(hpin t ht).2 t' ht' e.symm]
  ·intro i j oi oj b n m hi hj hgi hgj;rcases hlook i oi hi with h | ⟨t,ht,rfl,_⟩
   ·rcases hlook j oj hj with h2 | ⟨t,ht,rfl,_⟩
    ·rw [g1k i oi h] at hgi;rw [g1k j oj h2] at hgj;exact hobs.inj i j oi oj b n m h h2 hgi hgj
    ·rw [g1pin t ht] at hgj;cases hgj
   ·rw [g1pin t ht] at hgi;cases hgi
  ·intro id o b n ho hg;rcases hlook id o ho with h | ⟨t,ht,rfl,_⟩
   ·rw [g1k id o h] at hg;exact ⟨hobs.lt id o b n h hg,.inr ⟨id,o,n,h,hg⟩⟩
   ·rw [g1pin t ht] at hg;cases hg
 refine wp_mono (body ctx (fun b h=>.inr h) pv _ w ⟨g1,hrel⟩) fun e a' w' ⟨s1,⟨he,gh,qs,t,hsub,hres,hq,hos,hpl'⟩,hr1⟩=>?_
 have main:a'.defers = [] /\ ∃ v,(results fn a'.tmps).run P w' = .ok v w' /\ (∃ u g' gh,Ending.returned v = .returned u /\ zYa w g S os pins r (os' gh) w' g' u):=by
  obtain ⟨g2,hg⟩:=hsub a' w' hr1;obtain ⟨us,h1,h2,h3⟩:=QL hg hres;have hrun:(results fn a'.tmps).run P w' = .ok (if h:us.toArray.size = 1 then us.toArray[0] else .tuple us.toArray) w':=by
   rw [VV,Array.mapM_eq_mapM_toList];simp only [Sem.run_bind,Sem.run_map,h1,Result.andThen_ok,Sem.run_pure]
  have hFA:∀ b,zZ ctx g2 t.objs b -> YE w g S os g2 (os' gh) b:=fun b ⟨f1,f2⟩=>⟨by
   rcases f1 with (f1 | f1) | f1
   ·exact .inl f1
   ·exact .inr (.inl f1)
   ·exact .inr (.inr f1),fun ⟨id,o,n,h4,h5⟩=>f2 id o n (hos id o h4) h5⟩
  have hst':yH w' w' (zZ ctx g2 t.objs):=⟨Nat.le_refl _,fun _ _ _=>rfl⟩
  refine ⟨hg.defers,_,hrun,_,g2,gh,rfl,hg.os,hg.tape,hg.output,hg.grows,hg.keep,fun b ⟨id,o,n,h4,h5⟩=>?_,fun id hid=>?_,?_,⟨fun id o h4=>(hg.objs id o (hos id o h4)).keep hst' (fun b hb _=>hFA b hb) (fun _ _ _=>rfl) rfl (fun _ _=>rfl),fun i j oi oj b n m hi hj=>hg.inj i j oi oj b n m (hos i oi hi) (hos j oj hj),fun id o b n h4 h5=>(hg.own id o b n (hos id o h4) h5).1⟩⟩
  ·rcases (hg.own id o b n (hos id o h4) h5).2 with h6 | h6
   ·exact .inr h6
   ·exact .inl h6
  ·have h6:=hg.objs _ _ (hpl' _ _ (zba (pv:=pv) hid))
   cases h6 with
   | pin _ _ _ ht=>rw [ht,hgp id hid]
  ·have hk:∀ {p:PV} {v:Value},Rd w' g2 (zZ ctx g2 t.objs) p v -> Rd w' g2 (YE w g S os g2 (os' gh)) p v:=fun h=>h.keep hst' (fun b hb _=>hFA b hb) (fun _ _=>rfl)
   subst hq
   match qs,us,h2,h3 with
   | [p],[u],_,h3=>exact hk (h3 0 p u rfl rfl)
   | [],[],_,h3=>exact .tup [] [] rfl (by simp)
   | p :: q :: ps,u :: v :: us,h2,h3=>
    have hne:¬ (u :: v :: us).toArray.size = 1:=by simp
    rw [dif_neg hne];exact .tup _ _ h2 fun i p u hp hu=>hk (h3 i p u hp hu)
 rcases he with rfl | rfl
 ·exact main
 ·exact main
end
end Go.Ep
namespace Go.Ep
open Go.RowKit
def rn (ρ:List (Nat × Nat)) (i:Nat):Nat:=match ρ with
 | []=>i
 | (a,b) :: r=>bif Nat.beq a i then b else rn r i
mutual
def PV.ren (ρ:List (Nat × Nat)):PV -> PV
 | .ref i o=>.ref (rn ρ i) o
 | .row i n=>.row (rn ρ i) n
 | .rp i a b c=>.rp (rn ρ i) a b c
 | .pc i a b c=>.pc (rn ρ i) a b c
 | .mp i=>.mp (rn ρ i)
 | .pa i o n=>.pa (rn ρ i) o n
 | .agg cs=>.agg (PV.renL ρ cs)
 | .tup cs=>.tup (PV.renL ρ cs)
 | p=>p
def PV.renL (ρ:List (Nat × Nat)):List PV -> List PV
 | []=>[]
 | c :: r=>c.ren ρ :: PV.renL ρ r
end
def Ob.ren (ρ:List (Nat × Nat)):Ob -> Ob
 | .cells T cs=>.cells T (PV.renL ρ cs)
 | .iterO mid bs ck L=>.iterO (rn ρ mid) bs ck L
 | .pin t x=>.pin (rn ρ t) x
 | .mapP ks m ov bs ck=>.mapP ks m (ov.map fun x=>(x.1,x.2.ren ρ)) bs ck
 | o=>o
theorem uU (ρ:List (Nat × Nat)):∀ cs:List PV,PV.renL ρ cs = cs.map (PV.ren ρ)
 | []=>by simp [PV.renL]
 | c :: r=>by simp [PV.renL,uU ρ r]
section
variable {w:World} {g:zQ} {S:Nat -> Prop} {ρ:List (Nat × Nat)}
theorem Rd.ren {p:PV} {v:Value} (h:Rd w (fun i=>g (rn ρ i)) S p v):Rd w g S (p.ren ρ) v:=by
 induction h with
 | junk u=>exact .junk u
 | und=>exact .und
 | d h=>exact .d h
 | agg cs us hl h h1 ih=>
  rw [PV.ren,uU];refine .agg _ us (by simpa using hl) (fun i p u hp hu=>?_) h1;rw [List.getElem?_map] at hp
  cases hc:cs[i]? with
  | none=>rw [hc] at hp;cases hp
  | some q=>rw [hc] at hp;simp only [Option.map_some,Option.some.injEq] at hp;subst hp;exact ih i q u hc hu
 | tup cs us hl h ih=>
  rw [PV.ren,uU];refine .tup _ us (by simpa using hl) (fun i p u hp hu=>?_);rw [List.getElem?_map] at hp
  cases hc:cs[i]? with
  | none=>rw [hc] at hp;cases hp
  | some q=>rw [hc] at hp;simp only [Option.map_some,Option.some.injEq] at hp;subst hp;exact ih i q u hc hu
 | ref id off blk n h=>exact .ref _ off blk n h
 | row id n blk cap h=>exact .row _ n blk cap h
 | rowNil id h=>exact .rowNil _ h
 | rp id i off k blk cap h=>exact .rp _ i off k blk cap h
 | pc id i n k blk cap h hi=>exact .pc _ i n k blk cap h hi
 | pc0 id i k a c=>exact .pc0 _ i k a c
 | ep cs b off o c hS hb hc hr=>exact .ep cs b off o c hS hb hc hr
 | mp id blk n h=>exact .mp _ blk n h
 | pa id off n blk c h=>exact .pa _ off n blk c h
 | mpNil id h=>exact .mpNil _ h
 | md ks ag m bs ck b es hS hb hh hm=>exact .md ks ag m bs ck b es hS hb hh hm
 | mdNil ks ag=>exact .mdNil ks ag
 | clo f cs us hl h=>exact .clo f cs us hl h
theorem Rd.unren {q:PV} {v:Value} (h:Rd w g S q v):∀ {p:PV},q = p.ren ρ -> Rd w (fun i=>g (rn ρ i)) S p v:=by
 induction h with
 | junk u=>intro p hp;cases p <;> simp only [PV.ren,reduceCtorEq] at hp;exact .junk u
 | und=>intro p hp;cases p <;> simp only [PV.ren,reduceCtorEq] at hp;exact .und
 | d h=>intro p hp;cases p <;> simp only [PV.ren,reduceCtorEq,PV.d.injEq] at hp;subst hp;exact .d h
 | agg cs us hl h h1 ih=>
  intro p hp
  cases p <;> simp only [PV.ren,reduceCtorEq,PV.agg.injEq] at hp
  rename_i cs'
  rw [uU] at hp;subst hp;exact .agg cs' us (by simpa using hl) (fun i p u hp hu=>ih i (p.ren ρ) u (by simp [hp]) hu rfl) h1
 | tup cs us hl h ih=>
  intro p hp
  cases p <;> simp only [PV.ren,reduceCtorEq,PV.tup.injEq] at hp
  rename_i cs'
  rw [uU] at hp;subst hp;exact .tup cs' us (by simpa using hl) (fun i p u hp hu=>ih i (p.ren ρ) u (by simp [hp]) hu rfl)
 | ref id off blk n h=>
  intro p hp
  cases p <;> simp only [PV.ren,reduceCtorEq,PV.ref.injEq] at hp
  obtain ⟨rfl,rfl⟩:=hp;exact .ref _ _ blk n h
 | row id n blk cap h=>
  intro p hp
  cases p <;> simp only [PV.ren,reduceCtorEq,PV.row.injEq] at hp
  obtain ⟨rfl,rfl⟩:=hp;exact .row _ _ blk cap h
 | rowNil id h=>
  intro p hp
  cases p <;> simp only [PV.ren,reduceCtorEq,PV.row.injEq] at hp
  obtain ⟨rfl,rfl⟩:=hp;exact .rowNil _ h
 | rp id i off k blk cap h=>
  intro p hp
  cases p <;> simp only [PV.ren,reduceCtorEq,PV.rp.injEq] at hp
  obtain ⟨rfl,rfl,rfl,rfl⟩:=hp;exact .rp _ _ _ _ blk cap h
 | pc id i n k blk cap h hi=>
  intro p hp
  cases p <;> simp only [PV.ren,reduceCtorEq,PV.pc.injEq] at hp
  obtain ⟨rfl,rfl,rfl,rfl⟩:=hp;exact .pc _ _ _ _ blk cap h hi
 | pc0 id i k a c=>
  intro p hp
  cases p <;> simp only [PV.ren,reduceCtorEq,PV.pc.injEq] at hp
  obtain ⟨rfl,rfl,rfl,rfl⟩:=hp;exact .pc0 _ _ _ a c
 | ep cs b off o c hS hb hc hr=>
  intro p hp
  cases p <;> simp only [PV.ren,reduceCtorEq,PV.ep.injEq] at hp
  obtain ⟨rfl,rfl⟩:=hp;exact .ep _ b off _ c hS hb hc hr
 | mp id blk n h=>
  intro p hp
  cases p <;> simp only [PV.ren,reduceCtorEq,PV.mp.injEq] at hp
  subst hp;exact .mp _ blk n h
 | pa id off n blk c h=>
  intro p hp
  cases p <;> simp only [PV.ren,reduceCtorEq,PV.pa.injEq] at hp
  obtain ⟨rfl,rfl,rfl⟩:=hp;exact .pa _ _ _ blk c h
 | mpNil id h=>
  intro p hp
  cases p <;> simp only [PV.ren,reduceCtorEq,PV.mp.injEq] at hp
  subst hp;exact .mpNil _ h
 | md ks ag m bs ck b es hS hb hh hm=>
  intro p hp
  cases p <;> simp only [PV.ren,reduceCtorEq,PV.md.injEq] at hp
  obtain ⟨rfl,rfl,rfl⟩:=hp;exact .md _ _ _ bs ck b es hS hb hh hm
 | mdNil ks ag=>
  intro p hp
  cases p <;> simp only [PV.ren,reduceCtorEq,PV.md.injEq] at hp
  obtain ⟨rfl,rfl,rfl⟩:=hp;exact .mdNil _ _
 | clo f cs us hl h=>
  intro p hp
  cases p <;> simp only [PV.ren,reduceCtorEq,PV.clo.injEq] at hp
  obtain ⟨rfl,rfl⟩:=hp;exact .clo _ _ us hl h
theorem ObRd.ren {id:Nat} {o:Ob} (h:ObRd w (fun i=>g (rn ρ i)) S id o):ObRd w g S (rn ρ id) (o.ren ρ):=by
 cases h with
 | cells T cs blk n us h hh hl hr h1=>
  rw [Ob.ren,uU];refine .cells T _ blk n us h hh (by simpa using hl) (fun i p u hp hu=>?_) h1;rw [List.getElem?_map] at hp
  cases hc:cs[i]? with
  | none=>rw [hc] at hp;cases hp
  | some q=>rw [hc] at hp;simp only [Option.map_some,Option.some.injEq] at hp;subst hp;exact (hr i q u hc hu).ren
 | rowNil T k h=>exact .rowNil T k h
 | row T k l blk cap cur h hh hlc hcap hcs hkk hr=>exact .row T k l blk cap cur h hh hlc hcap hcs hkk hr
 | map ks ag m bs ck blk n es h hh hm=>exact .map ks ag m bs ck blk n es h hh hm
 | mapNil ks ag ck h=>exact .mapNil ks ag ck h
 | mapN ks ag m bs ck blk n es h hh hm=>exact .mapN ks ag m bs ck blk n es h hh hm
 | mapHNil ks ag h=>exact .mapHNil ks ag h
 | mapH ks ag m bs ck blk n es h hh hm=>exact .mapH ks ag m bs ck blk n es h hh hm
 | iterO mid bs ck L blk n b n' h hh hm=>exact .iterO _ bs ck L blk n b n' h hh hm
 | iterON mid ck blk n h hh hm=>exact .iterON _ ck blk n h hh hm
 | iterD ks ag m bs ck L blk n b es h hh hs hb hb2 hm=>exact .iterD ks ag m bs ck L blk n b es h hh hs hb hb2 hm
 | iterN ks ag blk n h hh=>exact .iterN ks ag blk n h hh
 | pin tgt x h ht=>exact .pin _ x h ht
 | mapP ks m ov bs ck blk n es h hh hsz hst hbl hnd hent hov=>
  rw [Ob.ren];refine .mapP ks m _ bs ck blk n es h hh hsz hst hbl hnd (fun i ns u hi=>?_) fun j p hj=>?_
  ·obtain ⟨e,h1,h2,h3,h4,h5⟩:=hent i ns u hi;refine ⟨e,h1,h2,h3,h4,fun hne=>h5 fun p hp=>?_⟩;exact hne (p.ren ρ) (by rw [hp];rfl)
  ·cases ov with
   | none=>cases hj
   | some x=>
    obtain ⟨j',p'⟩:=x;simp only [Option.map_some,Option.some.injEq,Prod.mk.injEq] at hj;obtain ⟨rfl,rfl⟩:=hj;obtain ⟨e,h1,h2⟩:=hov _ _ rfl;exact ⟨e,h1,h2.ren⟩
theorem ObRd.unren {j:Nat} {q:Ob} (h:ObRd w g S j q):∀ {id:Nat} {o:Ob},j = rn ρ id -> q = o.ren ρ -> ObRd w (fun i=>g (rn ρ i)) S id o:=by
 intro id o hj hq;subst hj
 cases h with
 | cells T cs blk n us h hh hl hr h1=>
  cases o <;> simp only [Ob.ren,reduceCtorEq,Ob.cells.injEq] at hq
  obtain ⟨rfl,rfl⟩:=hq;rw [uU] at hl hr;exact .cells _ _ blk n us h hh (by simpa using hl) (fun i p u hp hu=>(hr i (p.ren ρ) u (by simp [hp]) hu).unren rfl) h1
 | rowNil T k h=>
  cases o <;> simp only [Ob.ren,reduceCtorEq,Ob.row.injEq] at hq
  obtain ⟨rfl,rfl,rfl⟩:=hq;exact .rowNil _ _ h
 | row T k l blk cap cur h hh hlc hcap hcs hkk hr=>
  cases o <;> simp only [Ob.ren,reduceCtorEq,Ob.row.injEq] at hq
  obtain ⟨rfl,rfl,rfl⟩:=hq;exact .row _ _ _ blk cap cur h hh hlc hcap hcs hkk hr
 | map ks ag m bs ck blk n es h hh hm=>
  cases o <;> simp only [Ob.ren,reduceCtorEq,Ob.map.injEq] at hq
  obtain ⟨rfl,rfl,rfl,rfl,rfl⟩:=hq;exact .map _ _ _ _ _ blk n es h hh hm
 | mapNil ks ag ck h=>
  cases o <;> simp only [Ob.ren,reduceCtorEq,Ob.mapN.injEq] at hq
  obtain ⟨rfl,rfl,rfl,rfl,rfl,rfl⟩:=hq;exact .mapNil _ _ _ h
 | mapN ks ag m bs ck blk n es h hh hm=>
  cases o <;> simp only [Ob.ren,reduceCtorEq,Ob.mapN.injEq] at hq
  obtain ⟨rfl,rfl,rfl,rfl,rfl,rfl⟩:=hq;exact .mapN _ _ _ _ _ blk n es h hh hm
 | mapHNil ks ag h=>
  cases o <;> simp only [Ob.ren,reduceCtorEq,Ob.mapH.injEq] at hq
  obtain ⟨rfl,rfl,rfl,rfl⟩:=hq;exact .mapHNil _ _ h
 | mapH ks ag m bs ck blk n es h hh hm=>
  cases o <;> simp only [Ob.ren,reduceCtorEq,Ob.mapH.injEq] at hq
  obtain ⟨rfl,rfl,rfl,rfl⟩:=hq;exact .mapH _ _ _ _ _ blk n es h hh hm
 | iterO mid bs ck L blk n b n' h hh hm=>
  cases o <;> simp only [Ob.ren,reduceCtorEq,Ob.iterO.injEq] at hq
  obtain ⟨rfl,rfl,rfl,rfl⟩:=hq;exact .iterO _ _ _ _ blk n b n' h hh hm
 | iterON mid ck blk n h hh hm=>
  cases o <;> simp only [Ob.ren,reduceCtorEq,Ob.iterO.injEq] at hq
  obtain ⟨rfl,rfl,rfl,rfl⟩:=hq;exact .iterON _ _ blk n h hh hm
 | iterD ks ag m bs ck L blk n b es h hh hs hb hb2 hm=>
  cases o <;> simp only [Ob.ren,reduceCtorEq,Ob.iterD.injEq] at hq
  obtain ⟨rfl,rfl,rfl,rfl,rfl,rfl⟩:=hq;exact .iterD _ _ _ _ _ _ blk n b es h hh hs hb hb2 hm
 | iterN ks ag blk n h hh=>
  cases o <;> simp only [Ob.ren,reduceCtorEq,Ob.iterD.injEq] at hq
  obtain ⟨rfl,rfl,rfl,rfl,rfl,rfl⟩:=hq;exact .iterN _ _ blk n h hh
 | pin tgt x h ht=>
  cases o <;> simp only [Ob.ren,reduceCtorEq,Ob.pin.injEq] at hq
  obtain ⟨rfl,rfl⟩:=hq;exact .pin _ _ h ht
 | mapP ks m ov bs ck blk n es h hh hsz hst hbl hnd hent hov=>
  cases o <;> simp only [Ob.ren,reduceCtorEq,Ob.mapP.injEq] at hq
  rename_i ov' _ _
  obtain ⟨rfl,rfl,rfl,rfl,rfl⟩:=hq;refine .mapP _ _ _ _ _ blk n es h hh hsz hst hbl hnd (fun i ns u hi=>?_) fun j p hj=>?_
  ·obtain ⟨e,h1,h2,h3,h4,h5⟩:=hent i ns u hi;refine ⟨e,h1,h2,h3,h4,fun hne=>h5 fun p hp=>?_⟩
   cases ov' with
   | none=>cases hp
   | some x=>
    simp only [Option.map_some,Option.some.injEq,Prod.mk.injEq] at hp;exact hne x.2 (by rw [<- hp.1])
  ·subst hj;obtain ⟨e,h1,h2⟩:=hov j (p.ren ρ) rfl;exact ⟨e,h1,h2.unren rfl⟩
end
end Go.Ep
namespace Go.Ep
open Go.RowKit
def PState.callO (s:PState) (ρ:List (Nat × Nat)) (js:List Nat) (os os':List (Nat × Ob)):PState:=
 { n:=s.n,sl:=(s.junks js).sl,objs:=os'.foldr (fun x l=>zd (rn ρ x.1) (x.2.ren ρ) l) (os.foldr (fun x l=>wg (rn ρ x.1) l) s.objs) }
inductive AllOb (s:PState) (ρ:List (Nat × Nat)):List (Nat × Ob) -> Prop
 | nil:AllOb s ρ []
 | cons {id:Nat} {o:Ob} {r:List (Nat × Ob)} (h:look s.objs (rn ρ id) = some (o.ren ρ)) (t:AllOb s ρ r):AllOb s ρ ((id,o) :: r)
theorem AllOb.get {s:PState} {ρ:List (Nat × Nat)} {os:List (Nat × Ob)} (h:AllOb s ρ os):∀ id o,look os id = some o -> look s.objs (rn ρ id) = some (o.ren ρ):=by
 induction h with
 | nil=>intro id o h;simp [look] at h
 | cons h _ ih=>
  intro id o hl;simp only [look] at hl
  split at hl
  ·rename_i e;subst e;cases hl;exact h
  ·exact ih id o hl
def uq (s:PState) (ρ:List (Nat × Nat)) (js okeys pins ks:List Nat):Bool:=
 ((okeys ++ ks).all fun i=>(okeys ++ ks).all fun j=>Nat.beq i j || !Nat.beq (rn ρ i) (rn ρ j)) && ks.all (fun i=>inL okeys i || s.fresh (rn ρ i)) &&
 ks.all fun i=>inL pins i || (Ql (rn ρ i) (s.junks js).sl (s.junks js).sl && s.objs.all fun x=>!x.2.has (rn ρ i) || inL (okeys.map (rn ρ)) x.1)
theorem ur {ρ:List (Nat × Nat)} {acc:List (Nat × Ob)} {j:Nat} {o:Ob}:∀ {l:List (Nat × Ob)},look (l.foldr (fun x acc=>zd (rn ρ x.1) (x.2.ren ρ) acc) acc) j = some o -> (∃ i o1,look l i = some o1 /\ j = rn ρ i /\ o = o1.ren ρ) \/ ((∀ i ∈ l.map (·.1),rn ρ i ≠ j) /\ look acc j = some o)
 | [],h=>.inr ⟨by simp,h⟩
 | (k,q) :: r,h=>by
  rw [List.foldr_cons,zC] at h
  by_cases e:j = rn ρ k
  ·rw [if_pos e] at h;exact .inl ⟨k,q,by simp [look],e,by simpa using h.symm⟩
  ·rw [if_neg e] at h;rcases ur h with ⟨i,o1,h1,h2,h3⟩ | ⟨h1,h2⟩
   ·refine .inl ⟨i,o1,?_,h2,h3⟩;simp only [look];rw [if_neg (fun e2=>e (by rw [h2,e2]))];exact h1
   ·refine .inr ⟨fun i hi=>?_,h2⟩;simp only [List.map_cons,List.mem_cons] at hi;rcases hi with rfl | hi
    ·exact fun e2=>e e2.symm
    ·exact h1 i hi
theorem lookD {ρ:List (Nat × Nat)} {acc:List (Nat × Ob)} {j:Nat} {o:Ob}:∀ {l:List (Nat × Ob)},look (l.foldr (fun x acc=>wg (rn ρ x.1) acc) acc) j = some o -> (∀ i ∈ l.map (·.1),rn ρ i ≠ j) /\ look acc j = some o
 | [],h=>⟨by simp,h⟩
 | (k,q) :: r,h=>by
  rw [List.foldr_cons,zg] at h
  by_cases e:j = rn ρ k
  ·rw [if_pos e] at h;cases h
  ·rw [if_neg e] at h;obtain ⟨h1,h2⟩:=lookD h;refine ⟨fun i hi=>?_,h2⟩;simp only [List.map_cons,List.mem_cons] at hi;rcases hi with rfl | hi
   ·exact fun e2=>e e2.symm
   ·exact h1 i hi
theorem ze {l:List (Nat × Ob)} {i:Nat} {o:Ob} (h:look l i = some o):i ∈ l.map (·.1):=List.mem_map.2 ⟨(i,o),ym h,rfl⟩
section
variable {P:Program} {ctx:Ctx} {s:PState}
theorem jT {G:Type} {f:FuncId} {ps qs:List PV} {os:List (Nat × Ob)} {pins:List Nat} {r:PV} {os':G -> List (Nat × Ob)} (ρ:List (Nat × Nat)) (js ks:List Nat) (hc:PObj P f ps os pins r os') (hK:∀ b,ctx.K b -> ctx.S b) (hq:qs.map PV.nilD = ps.map (PV.ren ρ)) (hos:AllOb s ρ os)
  (hks:∀ gh,(os' gh).map (·.1) = ks) (hcl:∀ gh,(os' gh).all (fun x=>x.2.named ks) = true) (hr:r.named ks = true) (hok:uq s ρ js (os.map (·.1)) pins ks = true) {g:zQ} {a:Act} {w:World} (hg:RelG ctx g s a w) {vs:List Value} (hlen:qs.length = vs.length)
  (hreal:∀ (i:Nat) (q:PV) (v:Value),qs[i]? = some q -> vs[i]? = some v -> Rd w g (zZ ctx g s.objs) q v) (dst:Option Nat) :
  Calls P f vs.toArray w (fun e w'=>∃ u gh,e = .returned u /\ Rel ctx ((s.callO ρ js os (os' gh)).putD dst (r.ren ρ)) (a.put dst u) w'):=by
 let g0:zQ:=fun i=>g (rn ρ i)
 have hlo:=hos.get;simp only [uq,Bool.and_eq_true,List.all_eq_true,Bool.or_eq_true,Bool.not_eq_true'] at hok;obtain ⟨⟨hinj0,hfresh⟩,hnm⟩:=hok;have hinj:∀ i j,i ∈ os.map (·.1) ++ ks -> j ∈ os.map (·.1) ++ ks -> rn ρ i = rn ρ j -> i = j:=fun i j hi hj e=>by
  rcases hinj0 i hi j hj with h | h
  ·exact Nat.eq_of_beq_eq_true h
  ·rw [e,Nat.beq_refl] at h;cases h
 have hdis:∀ b,zZ ctx g s.objs b -> ¬ OwnB g0 os b:=fun b hb ⟨id,o,n,h1,h2⟩=>hb.2 _ _ n (hlo id o h1) h2
 have hobs:ObsRd w g0 (zZ ctx g s.objs) os:=⟨fun id o h=>(hg.objs _ _ (hlo id o h)).unren rfl rfl,
  fun i j oi oj b n m hi hj hgi hgj=>hinj i j (List.mem_append_left _ (ze hi)) (List.mem_append_left _ (ze hj)) (hg.inj _ _ _ _ b n m (hlo i oi hi) (hlo j oj hj) hgi hgj),
  fun id o b n h h2=>(hg.own _ _ b n (hlo id o h) h2).1⟩
 have hpl:ps.length = qs.length:=by have:=congrArg List.length hq;simpa using this.symm
 refine (hc w g0 (zZ ctx g s.objs) vs (by omega) (fun i p v hp hv=>?_) hobs hdis).mono fun e w' ⟨u,g',gh,he,hpost⟩=>⟨u,gh,he,?_⟩
 ·cases hqi:qs[i]? with
  | none=>have:=List.getElem?_eq_none_iff.1 hqi;have:=(List.getElem?_eq_some_iff.1 hp).1;omega
  | some q=>
   have h1:(qs.map PV.nilD)[i]? = (ps.map (PV.ren ρ))[i]?:=by rw [hq]
   rw [List.getElem?_map,List.getElem?_map,hqi,hp] at h1;simp only [Option.map_some,Option.some.injEq] at h1;exact (hreal i q v hqi hv).nilD.unren h1
 have hks':=hks gh;have hcl':=hcl gh
 generalize os' gh = os1 at hpost hks' hcl' ⊢
 let G':zQ:=fun j=>match ks.find? (fun i=>Nat.beq (rn ρ i) j) with | some i=>g' i | none=>g j
 have hG1:∀ i ∈ ks,G' (rn ρ i) = g' i:=fun i hi=>by
  show (match ks.find? (fun k=>Nat.beq (rn ρ k) (rn ρ i)) with | some i=>g' i | none=>g (rn ρ i)) = g' i
  cases hf:ks.find? (fun k=>Nat.beq (rn ρ k) (rn ρ i)) with
  | none=>have:=List.find?_eq_none.1 hf i hi;simp at this
  | some k=>
   have h1:=List.find?_some hf;have h2:=List.mem_of_find?_eq_some hf;rw [hinj k i (List.mem_append_right _ h2) (List.mem_append_right _ hi) (Nat.eq_of_beq_eq_true h1)]
 have hG2:∀ j,(∀ i ∈ ks,rn ρ i ≠ j) -> G' j = g j:=fun j hj=>by
  show (match ks.find? (fun k=>Nat.beq (rn ρ k) j) with | some i=>g' i | none=>g j) = g j
  cases hf:ks.find? (fun k=>Nat.beq (rn ρ k) j) with
  | none=>rfl
  | some k=>exact absurd (Nat.eq_of_beq_eq_true (by simpa using List.find?_some hf)) (hj k (List.mem_of_find?_eq_some hf))
 have hlookN:∀ j o,look (s.callO ρ js os os1).objs j = some o -> (∃ i o1,look os1 i = some o1 /\ j = rn ρ i /\ o = o1.ren ρ /\ i ∈ ks) \/ ((∀ i ∈ ks,rn ρ i ≠ j) /\ (∀ i ∈ os.map (·.1),rn ρ i ≠ j) /\ look s.objs j = some o):=fun j o h=>by
  rcases ur h with ⟨i,o1,h1,h2,h3⟩ | ⟨h1,h2⟩
  ·exact .inl ⟨i,o1,h1,h2,h3,hks' ▸ ze h1⟩
  ·obtain ⟨h3,h4⟩:=lookD h2;exact .inr ⟨fun i hi=>h1 i (hks' ▸ hi),h3,h4⟩
 have freeS:∀ b,zZ ctx g s.objs b -> b < w.heap.size -> zZ ctx G' (s.callO ρ js os os1).objs b:=fun b hb hlt=>⟨hb.1,fun j o n hj hgj=>by
  rcases hlookN j o hj with ⟨i,o1,h1,h2,_,hik⟩ | ⟨h1,_,h3⟩
  ·rw [h2,hG1 i hik] at hgj;rcases hpost.own b ⟨i,o1,n,h1,hgj⟩ with h | h
   ·exact hdis b hb h
   ·omega
  ·rw [hG2 j h1] at hgj;exact hb.2 j o n h3 hgj⟩
 have freeA:∀ b,YE w g0 (zZ ctx g s.objs) os g' os1 b -> zZ ctx G' (s.callO ρ js os os1).objs b:=fun b ⟨h1,h2⟩=>⟨by
  rcases h1 with h1 | ⟨id,o,n,h1,h3⟩ | h1
  ·exact h1.1
  ·rcases (hg.own _ _ b n (hlo id o h1) h3).2 with h4 | h4
   ·exact .inr h4
   ·exact .inl (hK b h4)
  ·exact .inr (Nat.le_trans hg.grows h1),fun j o n hj hgj=>by
  rcases hlookN j o hj with ⟨i,o1,h3,h4,_,hik⟩ | ⟨h3,h4,h5⟩
  ·rw [h4,hG1 i hik] at hgj;exact h2 ⟨i,o1,n,h3,hgj⟩
  ·rw [hG2 j h3] at hgj;rcases h1 with h1 | ⟨id,o',n',h1,h6⟩ | h1
   ·exact h1.2 j o n h5 hgj
   ·exact h4 id (ze h1) (hg.inj j (rn ρ id) o _ b n n' h5 (hlo id o' h1) hgj h6).symm
   ·have:=(hg.own j o b n h5 hgj).1;omega⟩
 have hst:yH w w' (zZ ctx g s.objs):=⟨hpost.grows,fun b hb hlt=>hpost.keep b hlt (hdis b hb)⟩
 -- what is named elsewhere keeps its ghost
 have hslot:∀ i p,(s.junks js).at i = some p -> ∀ j,p.has j = true -> G' j = g j:=fun i p hp j hj=>by
  by_cases hex:∃ k ∈ ks,rn ρ k = j
  ·obtain ⟨k,hk,rfl⟩:=hex;rw [hG1 k hk];rcases hnm k hk with h | ⟨h,_⟩
   ·exact hpost.pin k (zM.1 h)
   ·rw [jt (s:=s.junks js) h hp] at hj;cases hj
  ·exact hG2 j fun k hk e=>hex ⟨k,hk,e⟩
 have hother:∀ j o,look s.objs j = some o -> (∀ i ∈ os.map (·.1),rn ρ i ≠ j) -> ∀ jj,o.has jj = true -> G' jj = g jj:=fun j o hj hno jj hjj=>by
  by_cases hex:∃ k ∈ ks,rn ρ k = jj
  ·obtain ⟨k,hk,rfl⟩:=hex;rw [hG1 k hk];rcases hnm k hk with h | ⟨_,h⟩
   ·exact hpost.pin k (zM.1 h)
   ·rcases h _ (ym hj) with h2 | h2
    ·rw [hjj] at h2;cases h2
    ·obtain ⟨i,hi,he⟩:=List.mem_map.1 (zM.1 h2);exact absurd he (hno i hi)
  ·exact hG2 jj fun k hk e=>hex ⟨k,hk,e⟩
 have hnown:∀ j o b n,look s.objs j = some o -> (∀ i ∈ os.map (·.1),rn ρ i ≠ j) -> g j = some (b,n) -> ¬ OwnB g0 os b:=fun j o b n hj hno hgj ⟨id,o',n',h1,h2⟩=>
  hno id (ze h1) (hg.inj j (rn ρ id) o _ b n n' hj (hlo id o' h1) hgj h2).symm
 have main:RelG ctx G' (s.callO ρ js os os1) a w':=by
  refine ⟨hg.defers,hg.size,fun i p hp=>?_,fun j o hj=>?_,fun i j oi oj b n m hi hj hgi hgj=>?_,fun j o b n hj hgj=>?_,hpost.eos.trans hg.os,hpost.tape.trans hg.tape,hpost.output.trans hg.output,Nat.le_trans hg.grows hpost.grows,fun k hk hkK=>?_⟩
  ·have hp':(s.junks js).at i = some p:=by
    rw [uj,yi];rw [uj] at hp;exact hp
   have h:=(hg.junks js).slots i p hp';rw [zp] at h;exact h.keep hst freeS (hslot i p hp')
  ·rcases hlookN j o hj with ⟨i,o1,h1,rfl,rfl,hik⟩ | ⟨h1,h2,h3⟩
   ·refine ObRd.ren ?_;have hst':yH w' w' (YE w g0 (zZ ctx g s.objs) os g' os1):=⟨Nat.le_refl _,fun _ _ _=>rfl⟩
    have hn:=(List.all_eq_true.1 hcl') _ (ym h1);exact (hpost.obs.rd i o1 h1).keep hst' (fun b hb _=>freeA b hb) (fun _ _ _=>rfl) (hG1 i hik) (fun jj hjj=>hG1 jj (Ob.named_has hn hjj))
   ·exact (hg.objs j o h3).keep hst freeS (fun b n hgj=>hpost.keep b (hg.own j o b n h3 hgj).1 (hnown j o b n h3 h2 hgj)) (hG2 j h1) (hother j o h3 h2)
  ·rcases hlookN i oi hi with ⟨k,o1,h1,rfl,_,hik⟩ | ⟨h1,h2,h3⟩
   ·rw [hG1 k hik] at hgi;rcases hlookN j oj hj with ⟨k2,o2,h4,rfl,_,hik2⟩ | ⟨h4,h5,h6⟩
    ·rw [hG1 k2 hik2] at hgj;rw [hpost.obs.inj k k2 o1 o2 b n m h1 h4 hgi hgj]
    ·rw [hG2 j h4] at hgj;exfalso;rcases hpost.own b ⟨k,o1,n,h1,hgi⟩ with h | h
     ·exact hnown j oj b m h6 h5 hgj h
     ·have:=(hg.own j oj b m h6 hgj).1;omega
   ·rw [hG2 i h1] at hgi;rcases hlookN j oj hj with ⟨k2,o2,h4,rfl,_,hik2⟩ | ⟨h4,h5,h6⟩
    ·rw [hG1 k2 hik2] at hgj;exfalso;rcases hpost.own b ⟨k2,o2,m,h4,hgj⟩ with h | h
     ·exact hnown i oi b n h3 h2 hgi h
     ·have:=(hg.own i oi b n h3 hgi).1;omega
    ·rw [hG2 j h4] at hgj;exact hg.inj i j oi oj b n m h3 h6 hgi hgj
  ·rcases hlookN j o hj with ⟨k,o1,h1,rfl,_,hik⟩ | ⟨h1,h2,h3⟩
   ·rw [hG1 k hik] at hgj;refine ⟨hpost.obs.lt k o1 b n h1 hgj,?_⟩;rcases hpost.own b ⟨k,o1,n,h1,hgj⟩ with ⟨id,o',n',h4,h5⟩ | h
    ·exact (hg.own _ _ b n' (hlo id o' h4) h5).2
    ·exact .inl (Nat.le_trans hg.grows h)
   ·rw [hG2 j h1] at hgj;obtain ⟨h4,h5⟩:=hg.own j o b n h3 hgj;exact ⟨Nat.lt_of_lt_of_le h4 hpost.grows,h5⟩
  ·refine (hpost.keep k (Nat.lt_of_lt_of_le hk hg.grows) fun ⟨id,o,n,h1,h2⟩=>?_).trans (hg.keep k hk hkK);rcases (hg.own _ _ k n (hlo id o h1) h2).2 with h | h
   ·omega
   ·exact hkK h
 refine ⟨G',main.put dst ?_⟩;have hst':yH w' w' (YE w g0 (zZ ctx g s.objs) os g' os1):=⟨Nat.le_refl _,fun _ _ _=>rfl⟩
 exact (hpost.res.keep (w':=w') (g':=fun i=>G' (rn ρ i)) hst' (fun b hb _=>freeA b hb) (fun jj hjj=>hG1 jj (PV.named_has hr hjj))).ren
end
end Go.Ep
namespace Go.Ep
open Go.RowKit
section
variable {P:Program} {ctx:Ctx} {Q:PQ} {s:PState}
variable {dst:Option Tmp} {ty:TypeId} {pos:String} {after:Array Edge} {gd:Option (Nat × Bool)}
theorem zca {xs:List Operand} {ps:List PV} (hps:s.evs xs = some ps) {a:Act} {w:World} {g:zQ} (hg:RelG ctx g s a w) :
  ps.length = (xs.map a.eval).length /\ ∀ (i:Nat) (p:PV) (v:Value),ps[i]? = some p -> (xs.map a.eval)[i]? = some v -> Rd w g (zZ ctx g s.objs) p v:=by
 refine ⟨by simpa using ju hps,fun i p v hp hv=>?_⟩;rw [List.getElem?_map] at hv
 cases hx:xs[i]? with
 | none=>simp [hx] at hv
 | some x=>
  simp [hx] at hv;subst hv;exact hg.ev (Vs hps hp hx)
theorem LR.callObj {x:Operand} {xs:List Operand} {ats:Array TypeId} {f:FuncId} {ps qs:List PV} {os os':List (Nat × Ob)} {pins:List Nat} {r:PV} (ρ:List (Nat × Nat)) (js ks:List Nat)
  (hc:PObj P f ps os pins r (fun _:Unit=>os')) (hK:∀ b,ctx.K b -> ctx.S b) (hx:s.ev x = some (.d (.v (.func (.func f) #[] #[])))) (he:∀ args w,(callFunc f args).run P w = .ok (.enter f args) w) (hps:s.evs xs = some qs) (hq:qs.map PV.nilD = ps.map (PV.ren ρ)) (hos:AllOb s ρ os)
  (hks:os'.map (·.1) = ks) (hcl:os'.all (fun x=>x.2.named ks) = true) (hr:r.named ks = true) (hok:uq s ρ js (os.map (·.1)) pins ks = true) :
  Local P ctx ⟨dst,.call ⟨.value x,xs.toArray,ats⟩,ty,pos,after,gd⟩ s ((s.callO ρ js os os').putD dst (r.ren ρ)):=
 uJ (o:=⟨dst,.call ⟨.value x,xs.toArray,ats⟩,ty,pos,after,gd⟩) fun a w g hg=>by
  obtain ⟨hlen,hreal⟩:=zca hps hg;refine ⟨f,_,vt (o:=⟨dst,.call ⟨.value x,xs.toArray,ats⟩,ty,pos,after,gd⟩) rfl (VS hg hx) he w,?_⟩;rw [List.map_toArray];exact (jT ρ js ks hc hK hq hos (fun _=>hks) (fun _=>hcl) hr hok hg hlen hreal dst).mono fun en w' ⟨u,_,he,hrel⟩=>⟨u,he,hrel⟩
end
end Go.Ep
namespace Go.Ep
theorem yG {a b:List (Nat × Ob)} {id:Nat} {o:Ob} (h:look a id = some o):look (a ++ b) id = some o:=by rw [yj,h];rfl
theorem EndsO.mk {G:Type} {P:Program} {ctx:Ctx} {fn:Func} {pl:List (Nat × Ob)} {r:PV} {os':G -> List (Nat × Ob)} {e:Exit} {s:PState} (gh:G) {n:Nat} {sl:List (Nat × PV)} {ps:List PV} (he:e = .normal \/ e = .ret) (hsub:Sub ctx s ⟨n,sl,os' gh ++ pl⟩)
  (hres:JG P ⟨n,sl,os' gh ++ pl⟩ fn.results.toList ps) (hq:Qn ps = r) (hd:(pl.all fun x=>!inL ((os' gh).map (·.1)) x.1) = true):EndsO P ctx fn pl r os' e s:=by
 refine ⟨he,gh,ps,_,hsub,hres,hq,fun id o h=>yG h,fun id o h=>?_⟩;show look (os' gh ++ pl) id = some o;rw [yj]
 cases hl:look (os' gh) id with
 | none=>rw [Option.none_or];exact h
 | some q=>
  have h1:=List.all_eq_true.1 hd _ (ym h);have h2:=zM.2 (ze hl);simp only at h1;rw [h2] at h1
  cases h1
end Go.Ep
namespace Go.Ep
open Go.RowKit
section
variable {P:Program} {ctx:Ctx} {Q:PQ} {s:PState}
variable {dst:Option Tmp} {ty:TypeId} {pos:String} {after:Array Edge} {gd:Option (Nat × Bool)}
theorem Vc {t e:TypeId} (hu:P.underlying t = some (.pointer e)):P.underlying t = some (.pointer (P.pointee t)):=by
 rw [hu];simp [Program.pointee,hu]
theorem qJ {x:Operand} {id off:Nat} (hx:s.ev x = some (.ref id off)) {a:Act} {w:World} {g:zQ} (hg:RelG ctx g s a w):∃ b,a.eval x = .pointer (some b):=by
 have h:=hg.ev hx
 generalize a.eval x = v at h
 cases h with
 | ref _ _ blk n hgi=>exact ⟨_,rfl⟩
theorem LR.eqlPtr {x:Operand} {id off:Nat} {t t' e:TypeId} (hu:P.underlying t = some (.pointer e)) (hx:s.ev x = some (.ref id off)) :
  Local P ctx ⟨dst,.binOp .eql t x (.const (.pointer none)) t',ty,pos,after,gd⟩ s (s.putD dst (.d (.v (.bool false)))):=
 zD (o:=⟨dst,.binOp .eql t x (.const (.pointer none)) t',ty,pos,after,gd⟩) fun a w g hg=>by
  obtain ⟨b,hb⟩:=qJ hx hg;have hc:a.eval (.const (.pointer none)) = .pointer none:=rfl;exact ⟨.bool false,by simp [execOp,hb,hc,eqGuard_at_pointer,run_eql_pointer_nil (P:=P) w t _ (Vc hu)],.d (.v _ rfl)⟩
theorem LR.neqPtr {x:Operand} {id off:Nat} {t t' e:TypeId} (hu:P.underlying t = some (.pointer e)) (hx:s.ev x = some (.ref id off)) :
  Local P ctx ⟨dst,.binOp .neq t x (.const (.pointer none)) t',ty,pos,after,gd⟩ s (s.putD dst (.d (.v (.bool true)))):=
 zD (o:=⟨dst,.binOp .neq t x (.const (.pointer none)) t',ty,pos,after,gd⟩) fun a w g hg=>by
  obtain ⟨b,hb⟩:=qJ hx hg;have hc:a.eval (.const (.pointer none)) = .pointer none:=rfl;exact ⟨.bool true,by simp [execOp,hb,hc,eqGuard_at_pointer,run_neq_pointer_nil (P:=P) w t _ (Vc hu)],.d (.v _ rfl)⟩
end
end Go.Ep
namespace Go.Ep
open Go.RowKit
section
variable {ctx:Ctx} {s:PState}
end
end Go.Ep
namespace Go.Ep
open Go.RowKit
section
variable {P:Program} {ctx:Ctx} {Q:PQ} {s:PState}
variable {dst:Option Tmp} {ty:TypeId} {pos:String} {after:Array Edge} {gd:Option (Nat × Bool)}
end
end Go.Ep
namespace Go.Ep
open Go.RowKit
section
variable {ctx:Ctx} {s:PState}
end
end Go.Ep
namespace Go.Ep
theorem xO {P:Program} {ctx:Ctx} {Q:PQ} {s:PState} {ops:Array Oper} {rest:List Oper} {dst:Option Tmp} {ty:TypeId} {pos:String} {after:Array Edge} {gd:Option (Nat × Bool)} {x:Operand} {xs:List Operand} {ats:Array TypeId} {f:FuncId} {ps qs:List PV} {os os':List (Nat × Ob)} {pins:List Nat} {r:PV} (ρ:List (Nat × Nat)) (js ks:List Nat) (hc:PObj P f ps os pins r (fun _:Unit=>os')) (he:∀ args w,(callFunc f args).run P w = .ok (.enter f args) w) (h:PWl P ctx ops Q rest ((s.callO ρ js os os').putD dst (r.ren ρ))) (hK:∀ b,ctx.K b -> ctx.S b:=by assumption) (hx:s.ev x = some (.d (.v (.func (.func f) #[] #[]))):=by exact rfl) (hps:s.evs xs = some qs:=by exact rfl) (hq:qs.map PV.nilD = ps.map (PV.ren ρ):=by first | rfl | (simp;done) | (simp [PV.nilD,PV.ren,rn] <;> omega)) (hos:AllOb s ρ os:=by repeat' first | constructor | (congr 1;first | (simp;done) | (simp;omega) | omega)) (hks:os'.map (·.1) = ks:=by exact rfl) (hcl:os'.all (fun x=>x.2.named ks) = true:=by exact rfl) (hr:r.named ks = true:=by exact rfl) (hok:uq s ρ js (os.map (·.1)) pins ks = true:=by exact rfl) (hg:gd = none:=by exact rfl):PWl P ctx ops Q (⟨dst,.call ⟨.value x,xs.toArray,ats⟩,ty,pos,after,gd⟩ :: rest) s:=PWl.step (LR.callObj ρ js ks hc hK hx he hps hq hos hks hcl hr hok) hg h
end Go.Ep
namespace Go.Ep
open Go.RowKit
def VO (ρ:List (Nat × Nat)) (js:List Nat) (dst:Option Nat) (r:PV) (os':List (Nat × Ob)):Ef:=⟨XJ dst (r.ren ρ) ++ (js.map fun t=>(t,PV.junk)).reverse,os'.map fun x=>(rn ρ x.1,x.2.ren ρ)⟩
def calO (ρ:List (Nat × Nat)) (js okeys pins ks:List Nat) (f:Ft):Bool:=
 ((okeys ++ ks).all fun i=>(okeys ++ ks).all fun j=>Nat.beq i j || !Nat.beq (rn ρ i) (rn ρ j)) && ks.all (fun i=>inL okeys i || inL f.fr (rn ρ i)) && okeys.all (inL ks) && f.ao.all (inL (okeys.map (rn ρ))) &&
 (ks.all fun i=>inL pins i || inL f.fr (rn ρ i) || f.al.any fun a=>Nat.beq a.1 (rn ρ i) && a.2 == js) && okeys.all fun i=>inL f.ro (rn ρ i)
section
variable {P:Program} {ctx:Ctx} {Q:PState -> Prop} {s:PState} {ops:Array Oper} {rest:List Oper} {fs:List Ft} {f:Ft}
variable {dst:Option Tmp} {ty:TypeId} {pos:String} {after:Array Edge} {gd:Option (Nat × Bool)}
theorem AllOb.keep {ρ:List (Nat × Nat)} {os:List (Nat × Ob)} {s':PState} (h:AllOb s ρ os) (hk:∀ {id ob},inL f.ro id = true -> look s.objs id = some ob -> look s'.objs id = some ob) (hr:((os.map (·.1)).all fun i=>inL f.ro (rn ρ i)) = true):AllOb s' ρ os:=by
 induction h with
 | nil=>exact .nil
 | cons h _ ih=>
  simp only [List.map_cons,List.all_cons,Bool.and_eq_true] at hr;exact .cons (hk hr.1 h) (ih hr.2)
theorem jU {s:PState} {id:Nat} (js:List Nat) (h:s.fresh id = true):Ql id (s.junks js).sl (s.junks js).sl = true:=by
 simp only [PState.fresh,Bool.and_eq_true] at h;refine Wg fun x hx hh q hq=>?_
 rcases jP js s x hx with h2 | h2
 ·rw [h2] at hh;simp [PV.has] at hh
 ·rw [xC,Yf] at hq
  cases hg:xY (js.map fun t=>(t,PV.junk)).reverse x.1 with
  | none=>rw [hg,Option.none_or] at hq;exact ZJ h.1 h2 hq hh
  | some q2=>
   rw [hg,Option.some_or] at hq
   cases hq
   have:=Xk hg;rw [List.mem_reverse,List.mem_map] at this;obtain ⟨t,_,h3⟩:=this
   cases h3
   rfl
theorem PQe.callObj {x:Operand} {xs:List Operand} {ats:Array TypeId} {fn:FuncId} {ps qs:List PV} {os os':List (Nat × Ob)} {pins:List Nat} {r:PV} (ρ:List (Nat × Nat)) (js ks:List Nat)
  (hc:PObj P fn ps os pins r (fun _:Unit=>os')) (hK:∀ b,ctx.K b -> ctx.S b)
  (hev:∀ s':PState,(∀ {y q},yy (⟨dst,.call ⟨.value x,xs.toArray,ats⟩,ty,pos,after,gd⟩:Oper) y = true -> s.ev y = some q -> s'.ev y = some q) -> s'.ev x = some (.d (.v (.func (.func fn) #[] #[]))) /\ s'.evs xs = some qs)
  (he:∀ args w,(callFunc fn args).run P w = .ok (.enter fn args) w) (hq:qs.map PV.nilD = ps.map (PV.ren ρ)) (hos:AllOb s ρ os)
  (hks:os'.map (·.1) = ks) (hcl:os'.all (fun x=>x.2.named ks) = true) (hr:r.named ks = true) (hok:calO ρ js (os.map (·.1)) pins ks f = true)
  (hg:Wd ops (⟨dst,.call ⟨.value x,xs.toArray,ats⟩,ty,pos,after,gd⟩:Oper) s) (hk:okE f (VO ρ js dst r os') = true) (h:PQe P ctx ops Q rest fs (s.app (VO ρ js dst r os'))) :
  PQe P ctx ops Q (⟨dst,.call ⟨.value x,xs.toArray,ats⟩,ty,pos,after,gd⟩ :: rest) (f :: fs) s:=by
 simp only [calO,Bool.and_eq_true] at hok;obtain ⟨⟨⟨⟨⟨c1,c2⟩,c3⟩,c4⟩,c5⟩,c6⟩:=hok;refine .step (e:=VO ρ js dst r os') (fun s' hn hee ho hfr hal=>?_) hg hk h;obtain ⟨h1,h2⟩:=hev s' (fun hx hq=>hee hx hq);have hok':uq s' ρ js (os.map (·.1)) pins ks = true:=by
  unfold uq;rw [Bool.and_eq_true,Bool.and_eq_true];refine ⟨⟨c1,?_⟩,?_⟩
  ·rw [List.all_eq_true] at c2 ⊢;intro i hi;have:=c2 i hi;rw [Bool.or_eq_true] at this ⊢;exact this.imp (fun h=>h) fun h=>hfr _ (zM.1 h)
  ·rw [List.all_eq_true] at c5 ⊢;intro i hi;have:=c5 i hi;rw [Bool.or_eq_true,Bool.or_eq_true] at this;rw [Bool.or_eq_true];rcases this with (h | h) | h
   ·exact .inl h
   ·refine .inr ?_;have hf:=hfr _ (zM.1 h);rw [Bool.and_eq_true];refine ⟨jU js hf,?_⟩;simp only [PState.fresh,Bool.and_eq_true,List.all_eq_true] at hf;rw [List.all_eq_true];intro y hy;rw [Bool.or_eq_true];exact .inl (hf.2 y hy).2
   ·refine .inr ?_;obtain ⟨a,ha1,ha2⟩:=List.any_eq_true.1 h;simp only [Bool.and_eq_true,beq_iff_eq] at ha2;have hx:=hal a ha1;rw [Nat.eq_of_beq_eq_true ha2.1,ha2.2] at hx;unfold PState.aloneX at hx;rw [Bool.and_eq_true,zp] at hx;rw [Bool.and_eq_true];refine ⟨hx.1,?_⟩;rw [List.all_eq_true] at c4;have hx2:=hx.2;rw [List.all_eq_true] at hx2 ⊢;intro y hy;have:=hx2 y hy;rw [Bool.or_eq_true] at this ⊢;rcases this with h | h
    ·exact .inr (c4 _ (zM.1 h))
    ·exact .inl h
 have hl:=LR.callObj (P:=P) (ctx:=ctx) (dst:=dst) (ty:=ty) (pos:=pos) (after:=after) (gd:=gd) (ats:=ats) ρ js ks hc hK h1 he h2 hq (hos.keep (fun hi hl=>ho (zM.1 hi) hl) c6) hks hcl hr hok'
 suffices hs:Sub ctx ((s'.callO ρ js os os').putD dst (r.ren ρ)) (s'.app (VO ρ js dst r os')) from fun a w hr K Qx hK=>hl a w hr K Qx fun a' w' h'=>hK a' w' (hs a' w' h')
 refine Sub.drop ?_ ?_ ?_
 ·cases dst <;> rfl
 ·intro i p hp;have hat:=xI hp;have hlt:i < s'.n:=YK (s:=s'.app (VO ρ js dst r os')) hp;refine XE (by cases dst <;> exact hlt) ?_;simp only [PState.app,VO] at hat
  cases dst with
  | none=>simpa [XJ,PState.putD,PState.callO,xC] using hat
  | some d=>simpa [XJ,PState.putD,PState.put,PState.callO,xC] using hat
 ·intro id o hlo;have e1:(s'.app (VO ρ js dst r os')).objs = os'.foldr (fun x l=>zd (rn ρ x.1) (x.2.ren ρ) l) s'.objs:=by
   simp only [PState.app,VO,List.foldr_map]
  have e2:((s'.callO ρ js os os').putD dst (r.ren ρ)).objs = os'.foldr (fun x l=>zd (rn ρ x.1) (x.2.ren ρ) l) (os.foldr (fun x l=>wg (rn ρ x.1) l) s'.objs):=by cases dst <;> rfl
  rw [e1] at hlo;rw [e2];have hF:∀ (l:List (Nat × Ob)) (A B:List (Nat × Ob)),(∀ j,(∀ y ∈ l,rn ρ y.1 ≠ j) -> look A j = look B j) -> ∀ j,look (l.foldr (fun x l=>zd (rn ρ x.1) (x.2.ren ρ) l) A) j = look (l.foldr (fun x l=>zd (rn ρ x.1) (x.2.ren ρ) l) B) j:=by
   intro l
   induction l with
   | nil=>intro A B h j;exact h j (by simp)
   | cons y r ih=>
    intro A B h j;rw [List.foldr_cons,List.foldr_cons,zC,zC]
    by_cases hj:j = rn ρ y.1
    ·rw [if_pos hj,if_pos hj]
    ·rw [if_neg hj,if_neg hj];have gen:∀ (q:List (Nat × Ob)) (A B:List (Nat × Ob)) (j:Nat),(∀ y ∈ q,rn ρ y.1 ≠ j) -> look (q.foldr (fun x l=>zd (rn ρ x.1) (x.2.ren ρ) l) A) j = look A j:=by
      intro q A B j hq
      induction q with
      | nil=>rfl
      | cons z t iht=>
       rw [List.foldr_cons,zC,if_neg (fun e=>hq z (by simp) e.symm)];exact iht fun y hy=>hq y (by simp [hy])
     by_cases hr:∀ z ∈ r,rn ρ z.1 ≠ j
     ·rw [gen r A B j hr,gen r B A j hr];exact h j fun z hz=>by
       rcases List.mem_cons.1 hz with rfl | hz
       ·exact fun e=>hj e.symm
       ·exact hr z hz
     ·obtain ⟨z,hz,hzj⟩:∃ z ∈ r,rn ρ z.1 = j:=by
       refine Classical.byContradiction fun hc=>hr fun z hz e=>hc ⟨z,hz,e⟩
      have hin:∀ (q:List (Nat × Ob)) (A B:List (Nat × Ob)),z ∈ q -> look (q.foldr (fun x l=>zd (rn ρ x.1) (x.2.ren ρ) l) A) j = look (q.foldr (fun x l=>zd (rn ρ x.1) (x.2.ren ρ) l) B) j:=by
       intro q A B hq
       induction q with
       | nil=>cases hq
       | cons y t iht=>
        rw [List.foldr_cons,List.foldr_cons,zC,zC]
        by_cases hy:j = rn ρ y.1
        ·rw [if_pos hy,if_pos hy]
        ·rw [if_neg hy,if_neg hy];refine iht ?_;rcases List.mem_cons.1 hq with rfl | h
         ·exact absurd hzj.symm hy
         ·exact h
      exact hin r A B hz
  rw [hF os' _ s'.objs (fun j hj=>?_) id]
  ·exact hlo
  ·have hdel:∀ (q:List (Nat × Ob)),(∀ y ∈ q,rn ρ y.1 ≠ j) -> look (q.foldr (fun x l=>wg (rn ρ x.1) l) s'.objs) j = look s'.objs j:=by
    intro q hq
    induction q with
    | nil=>rfl
    | cons z t iht=>
     rw [List.foldr_cons,zg,if_neg (fun e=>hq z (by simp) e.symm)];exact iht fun y hy=>hq y (by simp [hy])
   refine hdel os fun y hy e=>?_
   rw [List.all_eq_true] at c3;have:=zM.1 (c3 y.1 (List.mem_map.2 ⟨y,hy,rfl⟩));rw [<- hks] at this;obtain ⟨z,hz,hze⟩:=List.mem_map.1 this;exact hj z hz (by rw [hze];exact e)
end
section
variable {ctx:Ctx} {s:PState}
theorem Sub.nilCell {id j:Nat} {T:TypeId} {cs:List PV} (hl:look s.objs id = some (.cells T cs)) (hj:cs[j]? = some (.d (.v (.slice none 0 0)))):Sub ctx s { s with objs:=zd id (.cells T (cs.set j (.d (.sl [])))) s.objs }:=by
 rintro a w ⟨g,h1⟩;refine ⟨g,?_⟩;have hF:∀ b,zZ ctx g s.objs b -> zZ ctx g (zd id (.cells T (cs.set j (.d (.sl [])))) s.objs) b:=fun b hb=>⟨hb.1,fun i o n ho hgi=>by
  rw [zC] at ho
  by_cases ei:i = id
  ·subst ei;exact hb.2 i _ n hl hgi
  ·rw [if_neg ei] at ho;exact hb.2 i o n ho hgi⟩
 have hst:yH w w (zZ ctx g s.objs):=⟨Nat.le_refl _,fun _ _ _=>rfl⟩
 refine ⟨h1.defers,h1.size,fun i p hp=>(h1.slots i p hp).keep hst (fun b hb _=>hF b hb) (fun _ _=>rfl),fun i o ho=>?_,fun i i2 o o2 b n m ho ho2 hgi hgi2=>?_,fun i o b n ho hgi=>?_,h1.os,h1.tape,h1.output,h1.grows,h1.keep⟩
 ·rw [zC] at ho
  by_cases ei:i = id
  ·subst ei;rw [if_pos rfl] at ho
   cases ho
   cases h1.objs i _ hl with
   | cells _ _ blk n us hgi hh hlen hr h1'=>
    refine .cells T _ blk n us hgi hh (by simpa using hlen) (fun q p u hp hu=>?_) h1';rw [List.getElem?_set] at hp
    split at hp
    ·rename_i e
     subst e
     split at hp
     ·simp only [Option.some.injEq] at hp;subst hp;have:=(hr j _ u hj hu).of_v;subst this;exact .d (.nil none 0 (Nat.zero_le _) (fun _=>rfl))
     ·cases hp
    ·exact (hr q p u hp hu).keep hst (fun b hb _=>hF b hb) (fun _ _=>rfl)
  ·rw [if_neg ei] at ho;exact (h1.objs i o ho).keep hst (fun b hb _=>hF b hb) (fun _ _ _=>rfl) rfl (fun _ _=>rfl)
 ·have lk:∀ {i:Nat} {o:Ob},look (zd id (.cells T (cs.set j (.d (.sl [])))) s.objs) i = some o -> ∃ o',look s.objs i = some o':=fun {i o} h=>by
   rw [zC] at h
   by_cases ei:i = id
   ·subst ei;exact ⟨_,hl⟩
   ·rw [if_neg ei] at h;exact ⟨_,h⟩
  obtain ⟨_,h5⟩:=lk ho;obtain ⟨_,h6⟩:=lk ho2;exact h1.inj i i2 _ _ b n m h5 h6 hgi hgi2
 ·rw [zC] at ho
  by_cases ei:i = id
  ·subst ei;exact h1.own i _ b n hl hgi
  ·rw [if_neg ei] at ho;exact h1.own i o b n ho hgi
end
end Go.Ep

namespace Go.Ep
open Go.RowKit
section
variable {P:Program} {ctx:Ctx} {s:PState}
variable {dst:Option Tmp} {ty:TypeId} {pos:String} {after:Array Edge} {gd:Option (Nat × Bool)}
theorem LR.buildR {t:TypeId} {places:List (Nat × Nat)} {zs:List Value} {parts:Array (Nat × Operand)} {ps:List (Nat × PV)} {ns:List PV} (hB:YA P t places zs) (hz1:(zs.all Value.oneCell') = true) (hps:s.evp parts.toList = some ps) (hns:QA places (zs.map fun z=>PV.d (.v z)) ps = some ns) :
  Local P ctx ⟨dst,.build t parts,ty,pos,after,gd⟩ s (s.putD dst (.agg ns)):=
 zD (o:=⟨dst,.build t parts,ty,pos,after,gd⟩) fun a w g hg=>by
  have hz1':∀ u ∈ zs,u.oneCell' = true:=by simpa using hz1
  obtain ⟨vs,h1,h2,h3,h4⟩:=jv (w:=w) (g:=g) (S:=zZ ctx g s.objs) ps (parts.toList.map fun x=>(x.1,a.eval x.2)) (zs.map fun z=>PV.d (.v z)) zs ns (by simpa using jw hps) (by
   intro j p r hp hr;rw [List.getElem?_map] at hr
   cases hx:parts.toList[j]? with
   | none=>simp [hx] at hr
   | some x=>
    simp [hx] at hr;subst hr;obtain ⟨e1,e2⟩:=jx hps hp hx;exact ⟨e1,hg.ev e2⟩) (by simp) (by
   intro i p u hp hu;simp [hu] at hp;subst hp;exact .d (.v u (hz1' u (List.mem_of_getElem? hu)))) hz1' hns
  refine ⟨.agg vs.toArray,?_,.agg ns vs h2 h3 h4⟩;have hb:P.built t (parts.map fun (i,x)=>(i,a.eval x)).toList = some vs.toArray:=by
   rw [hB];simpa using h1
  have hrun:=run_build w t (parts.map fun (i,x)=>(i,a.eval x)) vs.toArray hb;simp only [execOp,Sem.run_bind,hrun,Result.andThen_ok,Sem.run_pure]
theorem LR.loadRpPart {x:Operand} {id i o m k:Nat} {T T0:TypeId} {l:List (List DV)} {cs ys:List DV} (ha:∀ w,(isAgg T).run P w = .ok true w) (hs:∀ w,(sizeOf T).run P w = .ok m w) (hx:s.ev x = some (.rp id i o k)) (hl:look s.objs id = some (.row T0 k l)) (hi:l[i]? = some cs) (hm:o + m <= k) (hy:(cs.drop o).take m = ys) :
  Local P ctx ⟨dst,.load T x,ty,pos,after,gd⟩ s (s.putD dst (.agg (ys.map .d))):=
 zD (o:=⟨dst,.load T x,ty,pos,after,gd⟩) fun a w g hg=>by
  subst hy;have h:=hg.ev hx
  generalize hv:a.eval x = v at h
  cases h with
  | rp _ _ _ _ blk cap hgi=>
   obtain ⟨hlen,c,hc⟩:=Vr (hg.objs id _ hl) hgi hi
   let us:List Value:=(List.range m).map fun j=>c (o + j)
   have hul:us.length = m:=by simp [us]
   have hcj:∀ j,j < m -> ∃ x,cs[o + j]? = some x /\ w.cell? ⟨blk,i * k + (o + j),none⟩ = some (c (o + j)) /\ DRd w (zZ ctx g s.objs) x (c (o + j)):=fun j hj=>by
    have:o + j < cs.length:=by omega
    exact ⟨cs[o + j],List.getElem?_eq_getElem this,hc _ _ (List.getElem?_eq_getElem this)⟩
   refine ⟨.agg us.toArray,?_,.agg _ _ (by rw [List.length_map,hul,List.length_take,List.length_drop];omega) ?_ ?_⟩
   ·have:=xd (P:=P) (us:=us) ha (by rw [hul];exact hs) (w:=w) (b:=blk) (o:=i * k + o) (fun j u hu=>by
     have hj:j < m:=by rw [<- hul];exact (List.getElem?_eq_some_iff.1 hu).1
     have:u = c (o + j):=by simp [us,hj] at hu;exact hu.symm
     rw [this,Nat.add_assoc];exact (hcj j hj).choose_spec.2.1)
    simp [execOp,hv,Instr.loadAt,Instr.sureAddr,this,Result.andThen]
   ·intro j p u hp hu;have hj:j < m:=by rw [<- hul];exact (List.getElem?_eq_some_iff.1 hu).1
    have hu':u = c (o + j):=by simp [us,hj] at hu;exact hu.symm
    obtain ⟨x,hx,_,hd⟩:=hcj j hj;rw [List.getElem?_map,List.getElem?_take,if_pos hj,List.getElem?_drop,hx] at hp;simp only [Option.map_some,Option.some.injEq] at hp;subst hp;rw [hu'];exact .d hd
   ·intro u hu;simp only [us,List.mem_map,List.mem_range] at hu;obtain ⟨j,hj,rfl⟩:=hu;obtain ⟨x,hx,_,hd⟩:=hcj j hj;exact hd.one
theorem LR.loadRpPartT {α:Type} {enc:α -> List DV} {L:List α} {x:Operand} {id n o m k:Nat} {T T0:TypeId} {y:α} {ys:List DV} (ha:∀ w,(isAgg T).run P w = .ok true w) (hs:∀ w,(sizeOf T).run P w = .ok m w) (hx:s.ev x = some (.rp id n o k)) (hl:look s.objs id = some (.row T0 k (L.map enc))) (hy:L[n]? = some y) (hm:Nat.ble (o + m) k = true) (hys:((enc y).drop o).take m = ys) :
  Local P ctx ⟨dst,.load T x,ty,pos,after,gd⟩ s (s.putD dst (.agg (ys.map .d))):=LR.loadRpPart ha hs hx hl (by simp [hy]) (Nat.le_of_ble_eq_true hm) hys

end
section
variable {P:Program} {ctx:Ctx} {ops:Array Oper} {Q:PState -> Prop} {s:PState}
variable {dst:Option Tmp} {ty:TypeId} {pos:String} {after:Array Edge} {gd:Option (Nat × Bool)}
variable {α:Type} {enc:α -> List DV} {L R:List α} {x y:Operand} {id oid m k bs' j:Nat} {t t' e e' T:TypeId} {cs:List PV}
end
end Go.Ep
namespace Go.Ep
theorem EndsO.mkX {G:Type} {P:Program} {ctx:Ctx} {fn:Func} {pl ex:List (Nat × Ob)} {r:PV} {os':G -> List (Nat × Ob)} {e:Exit} {s:PState} (gh:G) {n:Nat} {sl:List (Nat × PV)} {ps:List PV} (he:e = .normal \/ e = .ret) (hsub:Sub ctx s ⟨n,sl,(os' gh ++ pl) ++ ex⟩)
  (hres:JG P ⟨n,sl,(os' gh ++ pl) ++ ex⟩ fn.results.toList ps) (hq:Qn ps = r) (hd:(pl.all fun x=>!inL ((os' gh).map (·.1)) x.1) = true):EndsO P ctx fn pl r os' e s:=by
 refine ⟨he,gh,ps,_,hsub,hres,hq,fun id o h=>yG (yG h),fun id o h=>yG ?_⟩;rw [yj]
 cases hl:look (os' gh) id with
 | none=>rw [Option.none_or];exact h
 | some q=>
  have h1:=List.all_eq_true.1 hd _ (ym h);have h2:=zM.2 (ze hl);rw [h2] at h1;cases h1
end Go.Ep

namespace Go.Ep
open Go.RowKit
section
variable {P:Program} {ctx:Ctx} {Q:PQ} {s:PState}
variable {dst:Option Tmp} {ty:TypeId} {pos:String} {after:Array Edge} {gd:Option (Nat × Bool)}
theorem LR.strIdx {x i:Operand} {t:TypeId} {b:ByteArray} {k:IntKind} {n y:Int} (hu:P.underlying t = some .string) (hx:s.ev x = some (.d (.v (.string b)))) (hi:s.ev i = some (.d (.v (.int k n)))) (hy:0 <= n /\ (wc b)[n.toNat]? = some y) :
  Local P ctx ⟨dst,.index t x i,ty,pos,after,gd⟩ s (s.putD dst (.d (.v (.int .u8 y)))):=
 zD (o:=⟨dst,.index t x i,ty,pos,after,gd⟩) fun a w g hg=>by
  obtain ⟨h0,h1⟩:=hy;have hlt:n.toNat < b.size:=by
   have:=(List.getElem?_eq_some_iff.1 h1).1;simpa [wc] using this
  have hb:0 <= n /\ n < b.size:=⟨h0,by omega⟩
  have hv:((b[n.toNat]'hlt).toNat:Int) = y:=by
   have:=(List.getElem?_eq_some_iff.1 h1).2;simp only [wc,List.getElem_map,Array.getElem_toList] at this;exact this
  refine ⟨.int .u8 y,?_,.d (.v _ rfl)⟩;simp only [execOp,VS hg hx,VS hg hi,Sem.run_bind,run_index_string w t b k n hu,dif_pos hb,hv,Result.andThen_ok,Sem.run_pure]
end
end Go.Ep
namespace Go.Ep
open Go.RowKit
section
variable {P:Program} {ctx:Ctx} {s:PState}
variable {dst:Option Tmp} {ty:TypeId} {pos:String} {after:Array Edge} {gd:Option (Nat × Bool)}
end
end Go.Ep

namespace Go.Ep
open Go Go.RowKit
section
variable {P:Program} {ctx:Ctx} {Q:PQ} {s:PState}
variable {dst:Option Tmp} {ty:TypeId} {pos:String} {after:Array Edge} {gd:Option (Nat × Bool)}

theorem LR.pieceRow {x lo:Operand} {id n k:Nat} {t e:TypeId} {kx:IntKind} {i:Int} {l:List (List DV)} (hu:P.underlying t = some (.slice e)) (hs:∀ w,(sizeOf e).run P w = .ok k w)
  (hx:s.ev x = some (.row id n)) (hl:look s.objs id = some (.row e k l)) (hn:n <= l.length) (hlo:s.ev lo = some (.d (.v (.int kx i)))) (hi:(0:Int) <= i /\ i <= (n:Int)) :
  Local P ctx ⟨dst,.slice t x (some lo) none none,ty,pos,after,gd⟩ s (s.putD dst (.pc id i.toNat (n - i.toNat) k)):=
 zD (o:=⟨dst,.slice t x (some lo) none none,ty,pos,after,gd⟩) fun a w g hg=>by
  have h:=hg.ev hx;have hob:=hg.objs id _ hl;have hit:i = (i.toNat:Int):=by omega
  have hle:i.toNat <= n:=by omega
  generalize hv:a.eval x = v at h
  cases h with
  | row _ _ blk cap hgi=>
   cases hob with
   | rowNil _ _ hgn=>rw [hgn] at hgi;cases hgi
   | row _ _ _ blk' cap' cur h' hh hlc hcap hcs hkk hr=>
    rw [hgi] at h'
    cases h'
    refine ⟨.slice (if cap = i.toNat then some ⟨blk,0,none⟩ else some ⟨blk,0 + i.toNat * k,none⟩) (n - i.toNat) (cap - i.toNat),?_,?_⟩
    ·by_cases hc:cap = i.toNat <;>
     simp [execOp,hv,wb hg hlo,Instr.sliceAt,Instr.slice,Instr.sliceBounds,run_underlying hu,hs,yh (P:=P) hit hle,Addr.add_lit,Result.andThen,hc]
    ·by_cases h0:n - i.toNat = 0
     ·rw [h0];exact .pc0 _ _ _ _ _
     ·rw [if_neg (by omega),Nat.zero_add];exact .pc id _ _ k blk cap hgi (by omega)
  | rowNil _ hgn=>
   have h0:i.toNat = 0:=by omega
   refine ⟨.slice none 0 0,?_,?_⟩
   ·rw [h0] at hit;simp [execOp,hv,wb hg hlo,Instr.sliceAt,Instr.slice,Instr.sliceBounds,run_underlying hu,hs,yh (P:=P) hit (show 0 <= 0 from Nat.le_refl _),Result.andThen]
   ·rw [Nat.zero_sub];exact .pc0 _ _ _ _ _

theorem LR.lenPc {x:Operand} {id i n k:Nat} {t e:TypeId} (hu:P.underlying t = some (.slice e)) (hx:s.ev x = some (.pc id i n k)) :
  Local P ctx ⟨dst,.call ⟨.builtin .len,#[x],#[t]⟩,ty,pos,after,gd⟩ s (s.putD dst (.d (.v (.int .i64 n)))):=
 zD (o:=⟨dst,.call ⟨.builtin .len,#[x],#[t]⟩,ty,pos,after,gd⟩) fun a w g hg=>by
  have h:=hg.ev hx;have hE:P.underlying t = some (.slice (P.elem t)):=by simp [Program.elem,hu]
  refine ⟨.int .i64 n,?_,.d (.v _ rfl)⟩
  generalize hv:a.eval x = v at h
  cases h <;> simp [execOp,resolve,invoke,builtin,hv,run_len_slice,hE,Result.andThen,goInt]

theorem LR.idxPc {x ix:Operand} {id i m:Nat} {ki:IntKind} {j:Int} {k:Nat} {t e:TypeId} (hu:P.underlying t = some (.slice e)) (hs:∀ w,(sizeOf e).run P w = .ok k w)
  (hx:s.ev x = some (.pc id i m k)) (hix:s.ev ix = some (.d (.v (.int ki j)))) (hj:(0:Int) <= j /\ j < (m:Int)) :
  Local P ctx ⟨dst,.indexAddr t x ix,ty,pos,after,gd⟩ s (s.putD dst (.rp id (i + j.toNat) 0 k)):=
 zD (o:=⟨dst,.indexAddr t x ix,ty,pos,after,gd⟩) fun a w g hg=>by
  have h:=hg.ev hx
  generalize hv:a.eval x = v at h
  cases h with
  | pc _ _ _ _ blk cap hgi hi=>
   refine ⟨.pointer (some ⟨blk,(i + j.toNat) * k + 0,none⟩),?_,.rp id _ 0 k blk cap hgi⟩;have:=uH (P:=P) hu hs blk (i * k) m (cap - i) ki j j.toNat (by omega) (by omega) w;rw [show i * k + j.toNat * k = (i + j.toNat) * k + 0 by rw [Nat.add_mul,Nat.add_zero]] at this;simp [execOp,hv,wb hg hix,this,Result.andThen]
  | pc0=>omega

theorem LR.clearPc {x:Operand} {id i n k:Nat} {t e:TypeId} {l:List (List DV)} {z:Value} {zs:List Value} (hu:P.underlying t = some (.slice e)) (hx:s.ev x = some (.pc id i n k)) (hl:look s.objs id = some (.row e k l))
  (hz:∀ w,(zeroValue e).run P w = .ok z w) (hzs:z.cells = zs.toArray) (h1:(zs.all Value.oneCell') = true) (hk:zs.length = k) (hin:i + n <= l.length) (hd:dst = none) :
  Local P ctx ⟨dst,.call ⟨.builtin .clear,#[x],#[t]⟩,ty,pos,after,gd⟩ s (s.setO id (.row e k (l.take i ++ List.replicate n (zs.map zdv) ++ l.drop (i + n)))):=by
 subst hd;refine zo (o:=⟨none,.call ⟨.builtin .clear,#[x],#[t]⟩,ty,pos,after,gd⟩) fun a w g hg=>?_
 have h:=hg.ev hx;have hob:=hg.objs id _ hl;have hE:P.underlying t = some (.slice e):=hu
 generalize hv:a.eval x = v at h
 have hnil:n = 0 -> ∀ g',Rel ctx (s.setO id (.row e k (l.take i ++ List.replicate n (zs.map zdv) ++ l.drop (i + n)))) a w \/ g' = g:=by
  intro h0;subst h0;intro g'
  left
  simp only [List.replicate_zero,List.append_nil,Nat.add_zero,List.take_append_drop];refine ⟨g,?_⟩;have hlk:∀ j o,look (s.setO id (.row e k l)).objs j = some o ↔ look s.objs j = some o:=by
   intro j o;simp only [PState.setO];rw [zC]
   by_cases hj:j = id
   ·subst hj;rw [if_pos rfl,hl]
   ·rw [if_neg hj]
  have hF:∀ b,zZ ctx g s.objs b -> zZ ctx g (s.setO id (.row e k l)).objs b:=fun b ⟨h1,h2⟩=>⟨h1,fun j o m hj=>h2 j o m ((hlk j o).1 hj)⟩
  have hst:yH w w (zZ ctx g s.objs):=⟨Nat.le_refl _,fun _ _ _=>rfl⟩
  exact ⟨hg.defers,hg.size,fun q p hp=>(hg.slots q p hp).keep hst (fun b hb _=>hF b hb) (fun _ _=>rfl),fun j o hj=>(hg.objs j o ((hlk j o).1 hj)).keep hst (fun b hb _=>hF b hb) (fun _ _ _=>rfl) rfl (fun _ _=>rfl),
   fun p q op oq b n m hp hq=>hg.inj p q op oq b n m ((hlk p op).1 hp) ((hlk q oq).1 hq),fun j o b n hj=>hg.own j o b n ((hlk j o).1 hj),hg.os,hg.tape,hg.output,hg.grows,hg.keep⟩
 cases h with
 | pc0 _ _ _ ao c=>
  rcases hnil rfl (fun _=>none) with hr | hr
  ·refine ⟨.tuple #[],w,?_,hr⟩
   cases ao <;> simp [execOp,resolve,invoke,builtin,hv,Builtin.clear_,run_underlying hE,Result.andThen]
  ·rcases hnil rfl (fun _=>some (0,0)) with hr2 | hr2
   ·refine ⟨.tuple #[],w,?_,hr2⟩
    cases ao <;> simp [execOp,resolve,invoke,builtin,hv,Builtin.clear_,run_underlying hE,Result.andThen]
   ·have:=congrFun (hr.trans hr2.symm) 0;cases this
 | pc _ _ _ _ blk cap hgi hi=>
  by_cases hn0:n = 0
  ·have hr:Rel ctx (s.setO id (.row e k (l.take i ++ List.replicate n (zs.map zdv) ++ l.drop (i + n)))) a w:=by
    rcases hnil hn0 (fun _=>none) with hr | hr
    ·exact hr
    ·have:=congrFun hr id;rw [hgi] at this;cases this
   subst hn0;refine ⟨.tuple #[],w,?_,hr⟩;simp [execOp,resolve,invoke,builtin,hv,Builtin.clear_,run_underlying hE,Result.andThen]
  cases hob with
  | rowNil _ _ hgn=>rw [hgn] at hgi;cases hgi
  | row _ _ _ blk' cap' cur h' hh hlc hcap hcs hkk hr=>
   rw [hgi] at h'
   cases h'
   have hlen:((Builtin.zeroCells z.cells n).toList).length = n * k:=by rw [VU,hzs];simp [hk]
   have hroom:i * k + n * k <= cur.length:=by
    rw [hcs,<- Nat.add_mul];exact Nat.mul_le_mul_right k hi
   have hz1:∀ u ∈ (Builtin.zeroCells z.cells n).toList,u.oneCell' = true:=by
    intro u hu;obtain ⟨j,hj⟩:=List.getElem?_of_mem hu;have hjl:=(List.getElem?_eq_some_iff.1 hj).1;rw [hlen] at hjl;have hk0:0 < k:=by
     rcases Nat.eq_zero_or_pos k with h | h
     ·subst h;omega
     ·exact h
    rw [hzs] at hj;simp [Builtin.zeroCells,hk,hjl] at hj;have ht:j % k < zs.length:=by rw [hk];exact Nat.mod_lt _ hk0
    rw [List.getElem?_eq_getElem ht] at hj;simp at hj;subst hj;simp at h1;exact h1 _ (List.getElem_mem ht)
   have hrun:=run_storeCells_at P blk (i * k) e (Builtin.zeroCells z.cells n).toList 0 cur.toArray w hh (by simpa [hlen] using hroom) hz1
   let new:List Value:=cur.take (i * k) ++ (Builtin.zeroCells z.cells n).toList ++ cur.drop (i * k + n * k)
   have hrun':(storeCells ⟨blk,i * k,none⟩ (Builtin.zeroCells z.cells n).toList).run P w = .ok () (w.setRow blk new.toArray):=by
    simpa [hlen,new] using hrun
   refine ⟨.tuple #[],w.setRow blk new.toArray,?_,g,?_⟩
   ·have hn':∃ n',n = n' + 1:=⟨n - 1,by omega⟩
    obtain ⟨n',rfl⟩:=hn';simp [execOp,resolve,invoke,builtin,hv,Builtin.clear_,run_underlying hE,hz,hrun',Result.andThen]
   ·have hown:=hg.own id _ blk cap hl hgi;have hother:∀ k,k < w.heap.size -> k ≠ blk -> (w.setRow blk new.toArray).heap[k]? = w.heap[k]?:=fun k _ hne=>setRow_other w blk k _ hne
    have hst:yH w (w.setRow blk new.toArray) (zZ ctx g s.objs):=⟨by simp,fun b ⟨_,h2⟩ hlt=>hother b hlt fun e=>by subst e;exact h2 id _ cap hl hgi⟩
    refine hg.wrote hl hgi rfl rfl rfl (by simp) hother hown.2 ?_;have hll:(l.take i ++ List.replicate n (zs.map zdv) ++ l.drop (i + n)).length = l.length:=by simp;omega
    have hget:∀ t,new[t]? = if t < i * k then cur[t]? else if t < i * k + n * k then (Builtin.zeroCells z.cells n).toList[t - i * k]? else cur[t]?:=by
     intro t;show (cur.take (i * k) ++ (Builtin.zeroCells z.cells n).toList ++ cur.drop (i * k + n * k))[t]? = _;rw [List.append_assoc,List.getElem?_append];have l1:(cur.take (i * k)).length = i * k:=by simp;omega
     rw [l1]
     by_cases h3:t < i * k
     ·rw [if_pos h3,if_pos h3];simp [h3]
     ·rw [if_neg h3,if_neg h3,List.getElem?_append,hlen]
      by_cases h4:t - i * k < n * k
      ·rw [if_pos h4,if_pos (by omega)]
      ·rw [if_neg h4,if_neg (by omega),List.getElem?_drop]
       congr 1;omega
    have hlget:∀ q,(l.take i ++ List.replicate n (zs.map zdv) ++ l.drop (i + n))[q]? = if q < i then l[q]? else if q < i + n then some (zs.map zdv) else l[q]?:=by
     intro q;rw [List.append_assoc,List.getElem?_append];have l1:(l.take i).length = i:=by simp;omega
     rw [l1]
     by_cases h3:q < i
     ·rw [if_pos h3,if_pos h3];simp [h3]
     ·rw [if_neg h3,if_neg h3,List.getElem?_append];simp only [List.length_replicate]
      by_cases h4:q - i < n
      ·rw [if_pos h4,if_pos (by omega),List.getElem?_replicate,if_pos h4]
      ·rw [if_neg h4,if_neg (by omega),List.getElem?_drop]
       congr 1;omega
    refine .row e k _ blk cap new hgi (wG hh) (by rw [hll];exact hlc) hcap (by show (cur.take (i * k) ++ (Builtin.zeroCells z.cells n).toList ++ cur.drop (i * k + n * k)).length = _;rw [List.length_append,List.length_append,hlen,List.length_take,List.length_drop,Nat.min_eq_left (by omega),<- hcs];omega) (fun q cs hq=>?_) (fun q cs t x hq hx=>?_)
    ·rw [hlget] at hq
     split at hq
     ·exact hkk q cs hq
     ·split at hq
      ·simp only [Option.some.injEq] at hq;subst hq;simpa using hk
      ·exact hkk q cs hq
    ·have hcsk:cs.length = k:=by
      rw [hlget] at hq
      split at hq
      ·exact hkk q cs hq
      ·split at hq
       ·simp only [Option.some.injEq] at hq;subst hq;simpa using hk
       ·exact hkk q cs hq
     have htk:t < k:=by rw [<- hcsk];exact (List.getElem?_eq_some_iff.1 hx).1
     rw [hlget] at hq;rw [hget]
     by_cases h3:q < i
     ·rw [if_pos h3] at hq;have:q * k + t < i * k:=by
       have:=Nat.mul_le_mul_right k (show q + 1 <= i by omega);rw [Nat.add_mul,Nat.one_mul] at this;omega
      rw [if_pos this];obtain ⟨u,h5,h6⟩:=hr q cs t x hq hx;exact ⟨u,h5,h6.keep hst (fun b hb _=>yo hl b hb)⟩
     ·rw [if_neg h3] at hq;have h3':¬ q * k + t < i * k:=by
       have:=Nat.mul_le_mul_right k (show i <= q by omega);omega
      rw [if_neg h3']
      by_cases h4:q < i + n
      ·rw [if_pos h4] at hq;have:q * k + t < i * k + n * k:=by
        have:=Nat.mul_le_mul_right k (show q + 1 <= i + n by omega);rw [Nat.add_mul,Nat.one_mul,Nat.add_mul] at this;omega
       rw [if_pos this];simp only [Option.some.injEq] at hq;subst hq;have htz:t < zs.length:=by rw [hk];exact htk
       rw [List.getElem?_map,List.getElem?_eq_getElem htz] at hx;simp only [Option.map_some,Option.some.injEq] at hx;subst hx;refine ⟨zs[t],?_,Jq _ _ _ (by simp at h1;exact h1 _ (List.getElem_mem htz))⟩;have e1:q * k + t - i * k = (q - i) * k + t:=by rw [Nat.sub_mul];have:=Nat.mul_le_mul_right k (show i <= q by omega);omega
       have hlt:(q - i) * k + t < n * k:=by rw [<- e1];omega
       have e2:((q - i) * k + t) % k = t:=by rw [Nat.mul_comm,Nat.mul_add_mod,Nat.mod_eq_of_lt htk]
       rw [e1,hzs];simp [Builtin.zeroCells,hlt,hk,e2];rw [List.getElem?_eq_getElem htz];rfl
      ·rw [if_neg h4] at hq;have:¬ q * k + t < i * k + n * k:=by
        have:=Nat.mul_le_mul_right k (show i + n <= q by omega);rw [Nat.add_mul] at this;omega
       rw [if_neg this];obtain ⟨u,h5,h6⟩:=hr q cs t x hq hx;exact ⟨u,h5,h6.keep hst (fun b hb _=>yo hl b hb)⟩

variable {α:Type} {enc:α -> List DV} {L:List α}
theorem LR.pieceRowT {x lo:Operand} {id n k:Nat} {t e:TypeId} {kx:IntKind} {i:Int} (hu:P.underlying t = some (.slice e)) (hs:∀ w,(sizeOf e).run P w = .ok k w)
  (hx:s.ev x = some (.row id n)) (hm:n = L.length) (hl:look s.objs id = some (.row e k (L.map enc))) (hlo:s.ev lo = some (.d (.v (.int kx i)))) (hi:(0:Int) <= i /\ i <= (L.length:Int)) :
  Local P ctx ⟨dst,.slice t x (some lo) none none,ty,pos,after,gd⟩ s (s.putD dst (.pc id i.toNat (L.length - i.toNat) k)):=by
 subst hm;exact LR.pieceRow hu hs hx hl (by simp) hlo hi
theorem LR.clearPcT {x:Operand} {id i n k:Nat} {t e:TypeId} {z:α} {zv:Value} {zs:List Value} (hu:P.underlying t = some (.slice e)) (hx:s.ev x = some (.pc id i n k)) (hl:look s.objs id = some (.row e k (L.map enc)))
  (hz:∀ w,(zeroValue e).run P w = .ok zv w) (hzs:zv.cells = zs.toArray) (h1:(zs.all Value.oneCell') = true) (hk:zs.length = k) (he:zs.map zdv = enc z) (hin:i + n <= L.length) (hd:dst = none) :
  Local P ctx ⟨dst,.call ⟨.builtin .clear,#[x],#[t]⟩,ty,pos,after,gd⟩ s (s.setO id (.row e k ((L.take i ++ List.replicate n z ++ L.drop (i + n)).map enc))):=by
 have:=LR.clearPc (P:=P) (ctx:=ctx) (dst:=dst) (ty:=ty) (pos:=pos) (after:=after) (gd:=gd) hu hx hl hz hzs h1 hk (by simpa using hin) hd;rw [he,<- List.map_take,<- List.map_drop,<- List.map_replicate,<- List.map_append,<- List.map_append] at this;exact this
end
end Go.Ep

