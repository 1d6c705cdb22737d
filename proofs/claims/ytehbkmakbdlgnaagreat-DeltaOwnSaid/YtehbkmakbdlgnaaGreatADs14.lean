/- Side texts. -/
import Derived.ProofKit
import Derived.Deep.Slices
import Derived.Test.YtehbkmakbdlgnaaGreatProg
import Derived.KernelRfl
import Derived.Test.YtehbkmakbdlgnaaGreatADs2
import Derived.Test.YtehbkmakbdlgnaaGreatADs5
import Derived.Test.YtehbkmakbdlgnaaGreatADs11
import Derived.Test.YtehbkmakbdlgnaaGreatADs13
set_option linter.unusedVariables false
set_option linter.unusedSimpArgs false
namespace Go.Ep.M.G
open Go
open E (OkE xJ uV)
open F (Zc yc yg)
theorem Yr : ∀ {l l':List EV},uV l->uV l'->(∀ d,d∈l↔d∈l')->l=l'
 | [],[],_,_,_=>rfl
 | [],y::r,_,_,h=>by have:=(h y).2 (by simp);simp at this
 | x::r,[],_,_,h=>by have:=(h x).1 (by simp);simp at this
 | x::r,y::t,h1,h2,h=>by
  have hx:=(h x).1 (by simp);have hy:=(h y).2 (by simp);have e:x=y:=by
   rcases List.mem_cons.1 hx with e | hx
   ·exact e
   ·rcases List.mem_cons.1 hy with e | hy
    ·exact e.symm
    ·have a1:=(List.pairwise_cons.1 h2).1 x hx;have a2:=(List.pairwise_cons.1 h1).1 y hy;rw[D.Yp a1] at a2;cases a2
  subst e
  congr 1
  refine Yr (List.pairwise_cons.1 h1).2 (List.pairwise_cons.1 h2).2 fun d=>?_
  have h3:=h d;simp only[List.mem_cons] at h3
  constructor
  ·intro hd;rcases h3.1 (.inr hd) with e | h4
   ·have:=(List.pairwise_cons.1 h1).1 d hd;rw[e,D.Wa] at this;cases this
   ·exact h4
  ·intro hd;rcases h3.2 (.inr hd) with e | h4
   ·have:=(List.pairwise_cons.1 h2).1 d hd;rw[e,D.Wa] at this;cases this
   ·exact h4
theorem JQ{l:List EV}(h:uV l):(l.map (·.dot)).Nodup:=by
 unfold List.Nodup;rw[List.pairwise_map];exact h.imp fun {a b} h e=>by rw[e,D.Wa] at h;cases h
theorem srtE_one{l:List EV}(h:uV l){a b:EV}(ha:a∈l)(hb:b∈l)(e:a.dot=b.dot):a=b:=by
 induction l with
 | nil=>cases ha
 | cons x r ih=>
  obtain⟨h1,h2⟩:=List.pairwise_cons.1 h;rcases List.mem_cons.1 ha with ea | ea <;> rcases List.mem_cons.1 hb with eb | eb
  ·rw[ea,eb]
  ·have:=h1 b eb;rw[<- ea,e,D.Wa] at this;cases this
  ·have:=h1 a ea;rw[<- eb,e,D.Wa] at this;cases this
  ·exact ih h2 ea eb
theorem zf{l:List EV}(h:uV l)(p:EV->Bool):uV (l.filter p):=h.sublist List.filter_sublist
theorem uia{s:List EV}(hn:(s.map (·.dot)).Nodup)(h:s.Pairwise fun x y=>Zq y x=false):uV s:=by
 unfold List.Nodup at hn;rw[List.pairwise_map] at hn;refine(hn.and h).imp fun {a b} ⟨h1,h2⟩=>?_
 cases h3:zY a.dot b.dot with
 | true=>rfl
 | false=>exact absurd (D.qX h3 h2) h1
theorem uja{l:List EV}{Q:List EV->Prop}(h:∀ s,s.Perm l->(s.Pairwise fun x y=>Zq y x=false)->Q s):(srt Zq l).wp Q:=by
 refine⟨⟨l.mergeSort (fun x y=>!zY y.dot x.dot),List.mergeSort_perm _ _,?_⟩,fun s ⟨h1,h2⟩=>h s h1 h2⟩;refine(List.pairwise_mergeSort (fun a b c h1 h2=>?_) (fun a b=>?_) l).imp fun {x y} h=>by show zY y.dot x.dot=false;simpa using h
 ·simp only[Bool.not_eq_true'] at h1 h2 ⊢
  cases h3:zY c.dot a.dot with
  | false=>rfl
  | true=>
   rw[D.Uf] at h3;have h4:¬ (zY b.dot a.dot=true):=by simp[h1]
   have h5:¬ (zY c.dot b.dot=true):=by simp[h2]
   rw[D.Uf] at h4 h5;omega
 ·cases h1:zY b.dot a.dot with
  | false=>rfl
  | true=>rw[D.Yp h1];rfl
def ent(e:EV):DT×EV:=(e.dot,e)
theorem ent_inj{a b:EV}(h:ent a=ent b):a=b:=(Prod.mk.inj h).2
theorem uka{l:List EV}{k:DT×EV}:k∈l.map ent↔k.2∈l/\k.1=k.2.dot:=by
 rw[List.mem_map]
 constructor
 ·rintro⟨e,h,rfl⟩;exact⟨h,rfl⟩
 ·rintro⟨h1,h2⟩;exact⟨k.2,h1,by unfold ent;rw[<- h2]⟩
def Holds(m:List (DT×EV))(l:List EV):Prop:=m.Perm (l.map ent)
theorem Holds.keys{m:List (DT×EV)}{l:List EV}(h:Holds m l)(hs:uV l):(m.map (·.1)).Nodup:=by
 have h1:=h.map (·.1);rw[List.map_map] at h1;exact h1.nodup_iff.2 (JQ hs)
theorem Holds.mem{m:List (DT×EV)}{l:List EV}(h:Holds m l){k:DT×EV}:k∈m↔k.2∈l/\k.1=k.2.dot:=by rw[h.mem_iff,uka]
theorem Holds.len{m:List (DT×EV)}{l:List EV}(h:Holds m l):m.length=l.length:=by rw[h.length_eq,List.length_map]
theorem ula{l:List EV}(h:uV l):(l.map ent).Nodup:=by
 unfold List.Nodup;rw[List.pairwise_map];exact h.imp fun {a b} h e=>by rw[ent_inj e,D.Wa] at h;cases h
theorem Qy{m:List (DT×EV)}{l:List EV}(hn:(m.map (·.1)).Nodup)(hs:uV l)(h:∀ k,k∈m↔k.2∈l/\k.1=k.2.dot):Holds m l:=by
 have hm:m.Nodup:=by
  unfold List.Nodup at hn ⊢;rw[List.pairwise_map] at hn;exact hn.imp fun {a b} h e=>h (by rw[e])
 exact(List.perm_ext_iff_of_nodup hm (ula hs)).2 fun k=>by rw[h,uka]
theorem y7a(e:EV)(h:e.kills.length<=1000000000000):yq e=pure e:=by
 unfold yq;rw[D.Qr e.kills h,zB,zA]
theorem JR{body:List Nat×List EV->M (Step (List Nat×List EV) (List EV))}(m:List (DT×EV))(hb:body=fun⟨seen,out⟩=>yt (∀ i∈seen,i < m.length)<|M.bind (nxt m.length seen) fun o=>match o with
  | none=>pure (.done out)
  | some j=>M.bind (idx m (Int.ofNat j)) fun kv=>M.bind (det (yq kv.2)) fun v=>yt ((out.length+List.length [v])*80<=140737488355328)<|pure (.next (seen++[j],out++[v])))
  (hl:m.length<=500000000000) (hk:∀ k∈m,k.2.kills.length<=1000000000000) (t0:List EV) (h0:t0.length<=500000000000) {Q:List EV->Prop} (hQ:∀ l:List (DT×EV),l.Perm m->Q (t0++l.map (·.2))):(loop body ([],t0)).wp Q:=by
 refine M.loopM (body:=body) m (fun L (t:List EV)=>(L,t)) (fun t e=>(yq e.2).det.bind fun v=>yt ((t.length+1)*80<=140737488355328) (pure (t++[v]))) (fun t=>pure t)
  (fun l t=>t=t0++l.map (·.2)) Q (fun L t hL=>?_) (fun l t y ht hlen hy=>?_) (fun l t hp ht=>?_) t0 (by simp)
 ·subst hb;show yt _ ((nxt _ _).bind _)=yt _ ((nxt _ _).bind _);refine congrArg (fun k=>yt _ ((nxt _ _).bind k)) (funext fun o=>?_)
  cases o with
  | none=>rfl
  | some i=>rfl
 ·rw[y7a y.2 (hk y hy),zB,zA];subst ht;exact⟨_,zI (by simp;omega) _,by simp⟩
 ·subst ht;exact hQ l hp
theorem x4a{nl:Bool}{m:List (DT×EV)}{l:List EV}(hm:Holds m l)(hs:uV l)(hl:l.length<=500000000000)(hk:∀ e∈l,e.kills.length<=1000000000000):uN nl m=pure l:=by
 unfold uN;refine ux (JR (body:=XK m) m rfl (by rw[hm.len];exact hl) (fun k h=>hk _ (hm.mem.1 h).1) [] (by simp) fun q hq=>?_);show(yt _ _).wp _;have hp:(q.map (·.2)).Perm l:=by
  have:=(hq.trans hm).map (·.2);rw[List.map_map] at this;simpa[Function.comp_def,ent] using this
 rw[List.nil_append,zI (by rw[hp.length_eq];omega)];refine uja fun s h1 h2=>?_
 show s=l;have h3:=h1.trans hp;exact Yr (uia ((h3.map (·.dot)).nodup_iff.2 (JQ hs)) h2) hs fun d=>h3.mem_iff
theorem list2_eq{nl1 nl2:Bool}{m1 m2:List (DT×EV)}{l l1 l2:List EV}(h1:Holds m1 l1)(h2:Holds m2 l2)(hp:(l1++l2).Perm l)(hs:uV l)(hl:l.length<=200000000000)(hk:∀ e∈l,e.kills.length<=1000000000000):uM nl1 m1 nl2 m2=pure l:=by
 have hll:=hp.length_eq;rw[List.length_append] at hll;have hk1:∀ k∈m1,k.2.kills.length<=1000000000000:=fun k h=>hk _ (hp.mem_iff.1 (List.mem_append_left _ (h1.mem.1 h).1))
 have hk2:∀ k∈m2,k.2.kills.length<=1000000000000:=fun k h=>hk _ (hp.mem_iff.1 (List.mem_append_right _ (h2.mem.1 h).1))
 unfold uM;refine ux (JR (body:=XI m1) m1 rfl (by rw[h1.len];omega) hk1 [] (by simp) fun q hq=>?_);have hq1:(q.map (·.2)).Perm l1:=by
  have:=(hq.trans h1).map (·.2);rw[List.map_map] at this;simpa[Function.comp_def,ent] using this
 refine JR (body:=XJ m2) m2 rfl (by rw[h2.len];omega) hk2 _ (by rw[List.nil_append,hq1.length_eq];omega) fun q2 hq2=>?_
 have hq3:(q2.map (·.2)).Perm l2:=by
  have:=(hq2.trans h2).map (·.2);rw[List.map_map] at this;simpa[Function.comp_def,ent] using this
 show(yt _ _).wp _;rw[List.nil_append];have hpp:(q.map (·.2)++q2.map (·.2)).Perm l:=(hq1.append hq3).trans hp;rw[zI (by rw[hpp.length_eq];omega)];refine uja fun s h3 h4=>?_
 show s=l;have h5:=h3.trans hpp;exact Yr (uia ((h5.map (·.dot)).nodup_iff.2 (JQ hs)) h4) hs fun d=>h5.mem_iff
open E (OkE xJ uV)
open F (Zc yc yg uZ)
section
variable{κ ν:Type}[DecidableEq κ]
theorem del_sub(m:List (κ×ν))(x:κ):(AL.del m x).Sublist m:=by
 induction m with
 | nil=>exact List.Sublist.slnil
 | cons k r ih=>
  obtain⟨k,v⟩:=k;unfold AL.del
  split
  ·exact List.sublist_cons_self _ _
  ·exact ih.cons_cons _
theorem mem_del{m:List (κ×ν)}(hn:(m.map (·.1)).Nodup)(x:κ)(k:κ×ν):k∈AL.del m x↔k∈m/\k.1≠x:=by
 induction m with
 | nil=>simp[AL.del]
 | cons y r ih=>
  obtain⟨q,v⟩:=y;rw[List.map_cons,List.nodup_cons] at hn;unfold AL.del
  split
  ·rename_i e
   subst e;rw[List.mem_cons]
   constructor
   ·intro h;exact⟨.inr h,fun e=>hn.1 (e▸List.mem_map.2 ⟨k,h,rfl⟩)⟩
   ·rintro⟨h | h,h2⟩
    ·subst h;exact absurd rfl h2
    ·exact h
  ·rename_i e
   rw[List.mem_cons,List.mem_cons,ih hn.2]
   constructor
   ·rintro(h | ⟨h,h2⟩)
    ·subst h;exact⟨.inl rfl,e⟩
    ·exact⟨.inr h,h2⟩
   ·rintro⟨h | h,h2⟩
    ·exact .inl h
    ·exact .inr ⟨h,h2⟩
theorem uma{m:List (κ×ν)}(hn:(m.map (·.1)).Nodup)(x:κ)(v:ν)(k:κ×ν):k∈AL.set m x v↔(k∈m/\k.1≠x)\/k=(x,v):=by
 induction m with
 | nil=>simp[AL.set]
 | cons y r ih=>
  obtain⟨q,u⟩:=y;rw[List.map_cons,List.nodup_cons] at hn;unfold AL.set
  split
  ·rename_i e
   subst e;rw[List.mem_cons,List.mem_cons]
   constructor
   ·rintro(h | h)
    ·exact .inr h
    ·exact .inl ⟨.inr h,fun e=>hn.1 (e▸List.mem_map.2 ⟨k,h,rfl⟩)⟩
   ·rintro(⟨h | h,h2⟩ | h)
    ·subst h;exact absurd rfl h2
    ·exact .inr h
    ·exact .inl h
  ·rename_i e
   rw[List.mem_cons,List.mem_cons,ih hn.2]
   constructor
   ·rintro(h | ⟨h,h2⟩ | h)
    ·subst h;exact .inl ⟨.inl rfl,e⟩
    ·exact .inl ⟨.inr h,h2⟩
    ·exact .inr h
   ·rintro(⟨h | h,h2⟩ | h)
    ·exact .inl h
    ·exact .inr (.inl ⟨h,h2⟩)
    ·exact .inr (.inr h)
end
theorem Holds.del{m:List (DT×EV)}{l:List EV}(h:Holds m l)(hs:uV l)(d:DT):Holds (AL.del m d) (l.filter fun e=>!decide (e.dot=d)):=
 Qy ((h.keys hs).sublist ((del_sub m d).map _)) (zf hs _) fun k=>by
  rw[mem_del (h.keys hs),h.mem,List.mem_filter]
  constructor
  ·rintro⟨⟨h1,h2⟩,h3⟩;exact⟨⟨h1,by rw[h2] at h3;simp[h3]⟩,h2⟩
  ·rintro⟨⟨h1,h3⟩,h2⟩;exact⟨⟨h1,h2⟩,by rw[h2];simpa using h3⟩
theorem Vx{l:List DT}{d:DT}:Zc l d=true↔d∈l:=by
 unfold Zc;rw[List.any_eq_true]
 constructor
 ·rintro⟨x,h1,h2⟩;rw[<- of_decide_eq_true h2];exact h1
 ·intro h;exact⟨d,h,by simp⟩
theorem una(x:DT)(r:List DT)(d:DT):Zc (x::r) d=(decide (x=d)||Zc r d):=rfl
theorem Holds.dels : ∀ (ks:List DT) {m:List (DT×EV)} {l:List EV},Holds m l->uV l->Holds (ks.foldl AL.del m) (l.filter fun e=>!Zc ks e.dot)
 | [],m,l,h,_=>by
  have:(l.filter fun e=>!Zc [] e.dot)=l:=List.filter_eq_self.2 fun _ _=>rfl
  rw[this];exact h
 | d::r,m,l,h,hs=>by
  have h1:=Holds.dels r (h.del hs d) (zf hs _);rw[List.filter_filter] at h1;rw[List.foldl_cons];have:(fun e:EV=>!Zc (d::r) e.dot)=fun e=>(!Zc r e.dot)&&!decide (e.dot=d):=funext fun e=>by
   rw[una,Bool.not_or,Bool.and_comm]
   congr 2
   exact decide_eq_decide.2 ⟨Eq.symm,Eq.symm⟩
  rw[this];exact h1
def Qz(l:List EV)(e:EV):List EV:=(l.filter fun x=>zY x.dot e.dot)++[e]++(l.filter fun x=>zY e.dot x.dot)
theorem jJ{l:List EV}(hs:uV l)(e:EV):uV (Qz l e):=by
 unfold Qz uV;rw[List.pairwise_append,List.pairwise_append];refine⟨⟨zf hs _,by simp,fun a ha b hb=>?_⟩,zf hs _,fun a ha b hb=>?_⟩
 ·rw[List.mem_singleton.1 hb];exact(List.mem_filter.1 ha).2
 ·have h2:=(List.mem_filter.1 hb).2;rcases List.mem_append.1 ha with h | h
  ·exact D.WL (List.mem_filter.1 h).2 h2
  ·rw[List.mem_singleton.1 h];exact h2
theorem jK{l:List EV}{e:EV}(hn:∀ x∈l,x.dot≠e.dot){x:EV}:x∈Qz l e↔x=e\/x∈l:=by
 unfold Qz;rw[List.mem_append,List.mem_append,List.mem_filter,List.mem_filter,List.mem_singleton]
 constructor
 ·rintro((⟨h,_⟩ | h) | ⟨h,_⟩)
  ·exact .inr h
  ·exact .inl h
  ·exact .inr h
 ·rintro(h | h)
  ·exact .inl (.inr h)
  ·cases h1:zY x.dot e.dot with
   | true=>exact .inl (.inl ⟨h,rfl⟩)
   | false=>
    cases h2:zY e.dot x.dot with
    | true=>exact .inr ⟨h,rfl⟩
    | false=>exact absurd (D.qX h1 h2) (hn x h)
theorem x5a(l:List EV)(e:EV)(hs:uV l):(Qz l e).length<=l.length+1:=by
 unfold Qz;have h:∀ q:List EV,(q.filter fun x=>zY x.dot e.dot).length+(q.filter fun x=>zY e.dot x.dot).length<=q.length:=by
  intro q
  induction q with
  | nil=>simp
  | cons x r ih=>
   rw[List.filter_cons,List.filter_cons]
   cases h1:zY x.dot e.dot with
   | true=>rw[D.Yp h1];simp;omega
   | false=>simp only[Bool.false_eq_true,if_false];split <;> simp <;> omega
 have:=h l;simp;omega
theorem Holds.add{m:List (DT×EV)}{l:List EV}(h:Holds m l)(hs:uV l){e:EV}(hn:∀ x∈l,x.dot≠e.dot):Holds (AL.set m e.dot e) (Qz l e):=
 Qy (AL.nodup_set (h.keys hs) _ _) (jJ hs e) fun k=>by
  rw[uma (h.keys hs),h.mem,jK hn]
  constructor
  ·rintro(⟨⟨h1,h2⟩,h3⟩ | h1)
   ·exact⟨.inr h1,h2⟩
   ·rw[h1];exact⟨.inl rfl,rfl⟩
  ·rintro⟨h1 | h1,h2⟩
   ·refine .inr ?_;obtain⟨k1,k2⟩:=k;simp only at h1 h2;rw[h2,h1]
   ·exact .inl ⟨⟨h1,h2⟩,by rw[h2];exact hn _ h1⟩
theorem uoa{ρ:Type}{body:Int×List EV->M (Step (Int×List EV) ρ)}(l:List EV)(p:EV->Bool)(g:List EV->M ρ)
  (h1:∀ (i:Nat) (x:EV) (t:List EV),l[i]?=some x->i < l.length->t.length<=i->body ((i:Int),t)=pure (.next (((i+1:Nat):Int),if p x then t++[x] else t)))
  (h2:∀ t,body ((l.length:Int),t)=(g t).bind fun r=>pure (.done r)):loop body (0,[])=g (l.filter p):=by
 have h:=Yj (body:=body) l (fun i (t:List EV)=>((i:Int),t)) (fun t x=>if p x then t++[x] else t) g (fun i t=>t.length<=i)
  (fun i x t hx hi hI=>⟨h1 i x t hx hi hI,by split <;> (try rw[List.length_append,List.length_singleton]) <;> omega⟩) (fun t _=>h2 t) [] (Nat.le_refl _)
 have hf:∀ (q t:List EV),q.foldl (fun t x=>if p x then t++[x] else t) t=t++q.filter p:=by
  intro q
  induction q with
  | nil=>intro t;simp
  | cons x r ih=>intro t;rw[List.foldl_cons,ih,List.filter_cons];split <;> simp
 rw[hf,List.nil_append] at h;exact h
theorem rPutI_eq(l:List EV)(e:EV)(hs:uV l)(hn:∀ x∈l,x.dot≠e.dot)(hl:l.length<=1000000000):QB l e=pure (Qz l e):=by
 unfold QB;have h:=Yj (body:=YG l e) l (fun i (t:Bool×List EV)=>(t.1,(i:Int),t.2)) (fun t x=>((t.1||!zY x.dot e.dot),(if (!zY x.dot e.dot&&!t.1)=true then t.2++[e] else t.2)++[x])) (fun t=>pure (Ex.brk (t.1,t.2)))
  (fun i t=>t.2.length<=i+1/\(t.1=false->t.2.length<=i)) (fun i x t hx hi hI=>by
   obtain⟨dn,out⟩:=t;have c0:x.dot≠e.dot:=hn x (List.mem_of_getElem? hx);have hz:V.zwa x.dot e.dot≠0:=by
    unfold V.zwa;rw[if_neg c0];split <;> decide
   have hpos:decide (0 < V.zwa x.dot e.dot)=!zY x.dot e.dot:=by
    by_cases c1:zY x.dot e.dot=true
    ·have:=V.Yl.2 c1;rw[c1];simp;omega
    ·have h2:¬ V.zwa x.dot e.dot < 0:=fun h=>c1 (V.Yl.1 h)
     simp only[Bool.not_eq_true] at c1;rw[c1];simp;omega
   have hc:decide ((i:Int) < (l.length:Int))=true:=by simpa using hi
   have hI1:=hI.1;have hI2:=hI.2;simp only at hI1 hI2;refine⟨?_,?_⟩
   ·unfold YG;simp only[hc,cond_true,zN hx,zA,V.WJ,zB,decide_eq_false hz,cond_false,hpos]
    cases zY x.dot e.dot <;> cases dn <;> simp only[Bool.not_true,Bool.not_false,cond_true,cond_false,zA,Bool.and_true,Bool.and_false,Bool.or_true,Bool.or_false,Bool.false_eq_true,if_true,if_false]
    ·rw[zI (by simp;omega),zA];simp only[];rw[zI (by simp;omega),yS (show i < 9223372036854775807 by omega)]
    ·rw[zI (by simp;omega),yS (show i < 9223372036854775807 by omega)]
    ·rw[zI (by simp;omega),yS (show i < 9223372036854775807 by omega)]
    ·rw[zI (by simp;omega),yS (show i < 9223372036854775807 by omega)]
   ·cases zY x.dot e.dot <;> cases dn <;> simp_all <;> omega) (fun t _=>by
   unfold YG;simp[zA]) (false,[]) (by simp)
 have hA:∀ (q acc:List EV),q.foldl (fun(t:Bool×List EV) x=>((t.1||!zY x.dot e.dot),(if (!zY x.dot e.dot&&!t.1)=true then t.2++[e] else t.2)++[x])) (true,acc)=(true,acc++q):=by
  intro q
  induction q with
  | nil=>intro acc;simp
  | cons x r ih=>intro acc;rw[List.foldl_cons];simp only[Bool.true_or,Bool.not_true,Bool.and_false,Bool.false_eq_true,if_false];rw[ih];simp
 have hB:∀ (q acc:List EV),uV q->(∀ x∈q,x.dot≠e.dot)->∃ r:Bool×List EV,q.foldl (fun(t:Bool×List EV) x=>((t.1||!zY x.dot e.dot),(if (!zY x.dot e.dot&&!t.1)=true then t.2++[e] else t.2)++[x])) (false,acc)=r/\(if r.1=true then r.2 else r.2++[e])=acc++Qz q e/\(r.1=false->r.2.length=acc.length+q.length):=by
  intro q
  induction q with
  | nil=>intro acc _ _;exact⟨(false,acc),rfl,by simp[Qz],fun _=>by simp⟩
  | cons x r ih=>
   intro acc hs hn;obtain⟨p1,p2⟩:=List.pairwise_cons.1 hs;rw[List.foldl_cons]
   cases c:zY x.dot e.dot with
   | true=>
    simp only[Bool.not_true,Bool.or_self,Bool.false_and,Bool.false_eq_true,if_false];obtain⟨y,h1,h2,h3⟩:=ih (acc++[x]) p2 fun z hz=>hn z (by simp[hz])
    refine⟨y,h1,?_,fun h=>by rw[h3 h];simp;omega⟩;rw[h2];unfold Qz;rw[List.filter_cons,List.filter_cons,if_pos c,if_neg (by rw[D.Yp c];simp)];simp
   | false=>
    have hgt:zY e.dot x.dot=true:=by
     cases hh:zY e.dot x.dot with
     | true=>rfl
     | false=>exact absurd (D.qX c hh) (hn x (by simp))
    simp only[Bool.not_false,Bool.or_true,Bool.and_self,if_true];rw[hA];refine⟨_,rfl,?_,fun h=>by cases h⟩;rw[if_pos rfl];unfold Qz;have e1:((x::r).filter fun y=>zY y.dot e.dot)=[]:=List.filter_eq_nil_iff.2 fun y hy=>by
     rcases List.mem_cons.1 hy with rfl | hy
     ·rw[c];simp
     ·rw[D.Yp (D.WL hgt (p1 y hy))];simp
    have e2:((x::r).filter fun y=>zY e.dot y.dot)=x::r:=List.filter_eq_self.2 fun y hy=>by
     rcases List.mem_cons.1 hy with rfl | hy
     ·exact hgt
     ·exact D.WL hgt (p1 y hy)
    rw[e1,e2];simp
 obtain⟨r,h1,h2,h3⟩:=hB l [] hs hn;rw[h1] at h;have h':loop (YG l e) (false,0,[])=pure (Ex.brk (r.1,r.2)):=h;rw[h',zA,YT];obtain⟨r1,r2⟩:=r
 cases r1 with
 | true=>
  simp only[Bool.not_true,cond_false,zA];rw[if_pos rfl,List.nil_append] at h2;have h2:r2=Qz l e:=h2;rw[h2]
 | false=>
  have:=h3 rfl;simp only[List.length_nil,Nat.zero_add] at this;simp only[Bool.not_false,cond_true];rw[zI (by simp;omega),zA];rw[if_neg (by simp),List.nil_append] at h2;have h2:r2++[e]=Qz l e:=h2;rw[h2]
theorem JS{e:EV}(h:xJ e=true):e.kind=1\/e.kind=2:=by
 simp only[xJ,E.goodK,Bool.and_eq_true,Bool.or_eq_true,decide_eq_true_eq] at h;rcases h.2.1 with h | h
 ·exact .inl h.1
 ·exact .inr h.1
theorem qY{e:EV}(h:xJ e=true):e.kills.length<=256/\D.Srt e.kills/\∀ d∈e.kills,V.yn d=true/\d≠e.dot:=by
 simp only[xJ,E.wpa,Bool.and_eq_true,decide_eq_true_eq,List.all_eq_true,Bool.not_eq_true',decide_eq_false_iff_not] at h;exact⟨h.2.2.1,D.x3a.1 h.2.2.2.1,fun d hd=>h.2.2.2.2 d hd⟩
theorem good_dot{e:EV}(h:xJ e=true):V.yn e.dot=true:=by
 simp only[xJ,Bool.and_eq_true] at h;exact h.1.2
open E (OkE xJ uV)
open F (Zc yc yg uZ)
def wP(L:List EV):List EV:=L.filter fun e=>decide (e.kind=1)
def vO(L:List EV):List EV:=L.filter fun e=>decide (e.kind=2)
theorem xq{L:List EV}{x:EV}:x∈wP L↔x∈L/\x.kind=1:=by simp[wP]
theorem vj{L:List EV}{x:EV}:x∈vO L↔x∈L/\x.kind=2:=by simp[vO]
theorem wV{l:List EV}{d:DT}:d∈yc l↔∃ e∈l,d=e.dot\/d∈e.kills:=by simp[yc]
theorem WM{l:List EV}{d:DT}:uZ l d=true↔∃ e∈l,d∈e.kills:=by
 unfold uZ;rw[List.any_eq_true];exact⟨fun⟨e,h1,h2⟩=>⟨e,h1,Vx.1 h2⟩,fun⟨e,h1,h2⟩=>⟨e,h1,Vx.2 h2⟩⟩
structure Rep(n:Nat)(W c xc:List PT)(nl1:Bool)(m1:List (DT×EV))(nl2:Bool)(m2:List (DT×EV))(L:List EV):Prop where
 ctx:c=C.zj W
 xctx:∀ k n,C.vA xc k n=C.vA W k n
 xok:C.Ok xc
 live:Holds m1 (wP L)
 tomb:Holds m2 (vO L)
 n1:nl1=true->m1=[]
 n2:nl2=true->m2=[]
 srt:uV L
 good:∀ e∈L,xJ e=true/\OkE e
 dots:∀ d∈yc L,C.vA W d.dev d.n=true
 alive:∀ e∈L,e.kind=1->uZ L e.dot=false
 wl:W.length<=n
 wt:C.vM W<=n
 ll:L.length<=n
theorem Ys{W:List PT}(h1:W.length<=400000000)(h2:C.vM W<=400000000):C.Ok (C.zj W):=
 ⟨fun p hp=>by have:=((C.yf W).nf p hp).1;omega,by have:=C.uR W;omega,by have:=C.uS W;omega⟩
section
variable{n:Nat}{W c xc:List PT}{nl1:Bool}{m1:List (DT×EV)}{nl2:Bool}{m2:List (DT×EV)}{L:List EV}
theorem Rep.mono(hR:Rep n W c xc nl1 m1 nl2 m2 L){k:Nat}(h:n<=k):Rep k W c xc nl1 m1 nl2 m2 L:=
 { hR with wl:=Nat.le_trans hR.wl h,wt:=Nat.le_trans hR.wt h,ll:=Nat.le_trans hR.ll h }
theorem Rep.okc(hR:Rep n W c xc nl1 m1 nl2 m2 L)(hn:n<=100000000):C.Ok c:=by
 rw[hR.ctx];exact Ys (by have:=hR.wl;omega) (by have:=hR.wt;omega)
theorem Rep.has(hR:Rep n W c xc nl1 m1 nl2 m2 L)(hn:n<=100000000)(d:DT):XH c d=pure (C.vA W d.dev d.n):=by
 rw[C.qQ c d (hR.okc hn).sm,hR.ctx,C.yz]
theorem Rep.rhas(hR:Rep n W c xc nl1 m1 nl2 m2 L)(d:DT):Zs xc d=pure (C.vA W d.dev d.n):=by
 rw[C.Wt xc d hR.xok,hR.xctx]
theorem Rep.new : Rep 0 [] [] [] true [] true [] [] where
 ctx:=rfl
 xctx _ _:=rfl
 xok:=C.ok_nil
 live:=List.Perm.refl _
 tomb:=List.Perm.refl _
 n1 _:=rfl
 n2 _:=rfl
 srt:=List.Pairwise.nil
 good _ h:=by cases h
 dots _ h:=by cases h
 alive _ h:=by cases h
 wl:=Nat.le_refl _
 wt:=Nat.le_refl _
 ll:=Nat.le_refl _
theorem x6a(ks:List DT):ks.foldl AL.del ([]:List (DT×EV))=[]:=by
 induction ks with
 | nil=>rfl
 | cons d r ih=>rw[List.foldl_cons];exact ih
theorem z9a{e:EV}(hk:e.kills.length<=1000000000000){nl:Bool}{m:List (DT×EV)}(h:nl=true->m=[]):xK e nl m=pure (false,AL.set m e.dot e):=by
 unfold xK;have h1:(cond nl (M.pure ([]:List (DT×EV))) (M.pure m))=M.pure m:=by
  cases nl with
  | true=>rw[h rfl];rfl
  | false=>rfl
 rw[h1,zA,y7a e hk,zB,zA]
def Jk(L:List EV)(e:EV):List EV:=Qz (L.filter fun x=>!decide (x.kind=1)||!Zc e.kills x.dot) e
theorem yAa(e:EV)(hk:e.kills.length<=1000000000)(m:List (DT×EV)):loop (xR e) (0,m)=pure (e.kills.foldl AL.del m):=
 Yj (body:=xR e) e.kills (fun i (t:List (DT×EV))=>((i:Int),t)) AL.del (fun t=>pure t) (fun _ _=>True) (fun i x t hx hi _=>by
  have hd:decide ((i:Int) < (e.kills.length:Int))=true:=by simpa using hi
  refine⟨?_,trivial⟩;unfold xR;simp only[hd,cond_true,zN hx,zA,yS (show i < 9223372036854775807 by omega)]) (fun t _=>by
  unfold xR;simp[zA]) m trivial
theorem upa(e:EV)(hk:e.kills.length<=1000000000)(xc:List PT)(L:List EV)(hl:L.length<=1000000000):loop (YH ⟨xc,L⟩ e) (0,[])=pure (L.filter fun x=>!decide (x.kind=1)||!Zc e.kills x.dot):=
 uoa (body:=YH ⟨xc,L⟩ e) L (fun x=>!decide (x.kind=1)||!Zc e.kills x.dot) (fun t=>pure t) (fun i x t hx hi hI=>by
  have hd:decide ((i:Int) < (L.length:Int))=true:=by simpa using hi
  unfold YH;have hh:UK e.kills x.dot=pure (Zc e.kills x.dot):=E.Wt e.kills x.dot (by omega);simp only[hd,cond_true,zN hx,zA,hh,zB,yS (show i < 9223372036854775807 by omega)]
  cases decide (x.kind=1) <;> cases Zc e.kills x.dot <;> simp only[Bool.not_true,Bool.not_false,cond_true,cond_false,zA,Bool.or_true,Bool.or_false,Bool.true_or,Bool.false_or,if_true,if_false,Bool.false_eq_true]
  all_goals (try rw[zI (by simp;omega)])
  all_goals rfl) (fun t=>by
  unfold YH;simp[zA])
theorem put_mem(hR:Rep n W c xc nl1 m1 nl2 m2 L){e:EV}(hc:C.vA W e.dot.dev e.dot.n=false){x:EV}:x∈Jk L e↔x=e\/(x∈L/\(x.kind≠1\/x.dot∉e.kills)):=by
 unfold Jk;rw[jK,List.mem_filter]
 ·simp only[Bool.or_eq_true,Bool.not_eq_true',decide_eq_false_iff_not,<- Bool.not_eq_true (b:=Zc _ _),Vx]
 ·intro x hx e1;have:=hR.dots x.dot (wV.2 ⟨x,(List.mem_filter.1 hx).1,.inl rfl⟩);rw[e1,hc] at this;cases this
theorem Rep.put(hR:Rep n W c xc nl1 m1 nl2 m2 L)(hn:n<=100000000){e:EV}(oe:OkE e)(g:xJ e=true)(hc:C.vA W e.dot.dev e.dot.n=false) :
  ∃ c' xc' nl1' m1' nl2' m2',yQ e c nl1 m1 nl2 m2=pure (0,c',nl1',m1',nl2',m2')/\Yb ⟨xc,L⟩ e=pure (⟨xc',Jk L e⟩,0)/\Rep (n+600) (W++C.yk (yg [e])) c' xc' nl1' m1' nl2' m2' (Jk L e):=by
 obtain⟨k1,k2,k3⟩:=qY g;have hdl:(yc [e]).length<=300:=by simp[yc];omega
 have hde:(yg [e]).length<=300:=Nat.le_trans (D.jH _) hdl;have hne:∀ x∈L,x.dot≠e.dot:=fun x hx e1=>by
  have:=hR.dots x.dot (wV.2 ⟨x,hx,.inl rfl⟩);rw[e1,hc] at this;cases this
 have hadd:UG c (yg [e])=pure (C.zj (W++C.yk (yg [e]))):=by
  have h:=hR.okc hn;rw[C.Add_eq c (yg [e]) (by omega) h.len h.tot,hR.ctx,C.Qp]
 have hxok:C.Ok (C.zj (C.yk (yg [e]))):=C.y1a (by omega);have hjoin:YZ xc (C.zj (C.yk (yg [e])))=pure (C.opC (·||·) xc (C.zj (C.yk (yg [e])))):=C.Qn _ _ hR.xok hxok;have hxe:C.opC (·||·) xc (C.zj (C.yk (yg [e])))=C.zj (W++C.yk (yg [e])):=(C.wi rfl _ _).ext (C.yf _) fun k n=>by
  rw[C.uE rfl,C.yz,C.yz,C.Yo,hR.xctx]
 have hW1:(W++C.yk (yg [e])).length<=n+600:=by have:=hR.wl;have:=C.uo (yg [e]);rw[List.length_append];omega
 have hW2:C.vM (W++C.yk (yg [e]))<=n+600:=by have:=hR.wt;have:=C.Vv (yg [e]);rw[C.WK];omega
 have hsP:uV (Jk L e):=jJ (zf hR.srt _) e;have hmem:=fun x=>put_mem (x:=x) hR hc
 -- the document
 have hr:Yb ⟨xc,L⟩ e=pure (⟨C.zj (W++C.yk (yg [e])),Jk L e⟩,0):=by
  unfold Yb;rw[E.jI oe,zB,zA,g,Bool.not_true,cond_false];rw[show(⟨xc,L⟩:RB).ctx=xc from rfl,hR.rhas,zB,zA,hc,cond_false,upa e (by omega) xc L (by have:=hR.ll;omega),zA];rw[F.Qv [e] (by simp) (fun x hx=>by rw[List.mem_singleton.1 hx];omega),zB,zA,C.rOf_eq _ (by omega),zB,zA,hjoin,zB,zA,hxe];rw[rPutI_eq _ e (zf hR.srt _) (fun x hx=>hne x (List.mem_filter.1 hx).1) (by have:=List.length_filter_le (fun x:EV=>!decide (x.kind=1)||!Zc e.kills x.dot) L;have:=hR.ll;omega),zB,zA]
  rfl
 have hdots:∀ d∈yc (Jk L e),C.vA (W++C.yk (yg [e])) d.dev d.n=true:=fun d hd=>by
  rw[C.Yo];obtain⟨x,hx,h⟩:=wV.1 hd;rcases(hmem x).1 hx with rfl | ⟨hx,_⟩
  ·rw[Bool.or_eq_true];refine .inr ((C.has_dots _ _ _).2 ⟨d,D.Yq.2 (wV.2 ⟨x,by simp,h⟩),?_,rfl,rfl⟩);rcases h with rfl | h
   ·exact good_dot g
   ·exact(k3 d h).1
  ·rw[hR.dots d (wV.2 ⟨x,hx,h⟩)];rfl
 have halive:∀ x∈Jk L e,x.kind=1->uZ (Jk L e) x.dot=false:=fun x hx h1=>by
  rw[<- Bool.not_eq_true,WM];rintro⟨y,hy,h2⟩;rcases(hmem x).1 hx with rfl | ⟨hx,h3⟩ <;> rcases(hmem y).1 hy with rfl | ⟨hy,_⟩
  ·exact(k3 _ h2).2 rfl
  ·have:=hR.dots _ (wV.2 ⟨y,hy,.inr h2⟩);rw[hc] at this;cases this
  ·exact h3.elim (fun h=>h h1) (fun h=>h h2)
  ·have:=hR.alive x hx h1;rw[<- Bool.not_eq_true,WM] at this;exact this ⟨y,hy,h2⟩
 have base:∀ {a b:Bool} {p q:List (DT×EV)},Holds p (wP (Jk L e))->Holds q (vO (Jk L e))->(a=true->p=[])->(b=true->q=[]) ->
   Rep (n+600) (W++C.yk (yg [e])) (C.zj (W++C.yk (yg [e]))) (C.zj (W++C.yk (yg [e]))) a p b q (Jk L e):=fun h1 h2 h3 h4=>
  ⟨rfl,fun k n=>C.yz _ _ _,Ys (by omega) (by omega),h1,h2,h3,h4,hsP,fun x hx=>by
   rcases(hmem x).1 hx with rfl | ⟨hx,_⟩
   ·exact⟨g,oe⟩
   ·exact hR.good x hx,hdots,halive,hW1,hW2,by
   have h5:=x5a (L.filter fun x=>!decide (x.kind=1)||!Zc e.kills x.dot) e (zf hR.srt _);have h6:=List.length_filter_le (fun x:EV=>!decide (x.kind=1)||!Zc e.kills x.dot) L;have:=hR.ll;unfold Jk;omega⟩
 have hL1:=Holds.dels e.kills hR.live (zf hR.srt _);have hst1:uV ((wP L).filter fun x=>!Zc e.kills x.dot):=zf (zf hR.srt _) _;rcases JS g with hk | hk
 ·have h1:wP (Jk L e)=Qz ((wP L).filter fun x=>!Zc e.kills x.dot) e:=Yr (zf hsP _) (jJ hst1 e) fun x=>by
   rw[xq,hmem,jK (fun x hx=>hne x (xq.1 (List.mem_filter.1 hx).1).1),List.mem_filter,xq,Bool.not_eq_true',<- Bool.not_eq_true,Vx]
   constructor
   ·rintro⟨rfl | ⟨h1,h2⟩,h3⟩
    ·exact .inl rfl
    ·exact .inr ⟨⟨h1,h3⟩,h2.resolve_left (fun h=>h h3)⟩
   ·rintro(rfl | ⟨⟨h1,h2⟩,h3⟩)
    ·exact⟨.inl rfl,hk⟩
    ·exact⟨.inr ⟨h1,.inr h3⟩,h2⟩
  have h2:vO (Jk L e)=vO L:=Yr (zf hsP _) (zf hR.srt _) fun x=>by
   rw[vj,hmem,vj]
   constructor
   ·rintro⟨rfl | ⟨h1,h2⟩,h3⟩
    ·omega
    ·exact⟨h1,h3⟩
   ·rintro⟨h1,h2⟩;exact⟨.inr ⟨h1,.inl (by omega)⟩,h2⟩
  refine⟨_,_,false,AL.set (e.kills.foldl AL.del m1) e.dot e,nl2,m2,?_,hr,base ?_ ?_ (fun h=>by cases h) hR.n2⟩
  ·unfold yQ;rw[E.Zt oe,zB,zA,g,Bool.not_true,cond_false,hR.has hn,zB,zA,hc,cond_false,F.Qu [e] (by simp) (by omega),zB,zA,hadd,zB,zA,yAa e (by omega),zA,decide_eq_true hk,cond_true];rw[z9a (by omega) (fun h=>by rw[hR.n1 h];exact x6a _),zB,zA]
   rfl
  ·rw[h1];exact hL1.add hst1 fun x hx=>hne x (xq.1 (List.mem_filter.1 hx).1).1
  ·rw[h2];exact hR.tomb
 ·have h1:wP (Jk L e)=(wP L).filter fun x=>!Zc e.kills x.dot:=Yr (zf hsP _) hst1 fun x=>by
   rw[xq,hmem,List.mem_filter,xq,Bool.not_eq_true',<- Bool.not_eq_true,Vx]
   constructor
   ·rintro⟨rfl | ⟨h1,h2⟩,h3⟩
    ·omega
    ·exact⟨⟨h1,h3⟩,h2.resolve_left (fun h=>h h3)⟩
   ·rintro⟨⟨h1,h2⟩,h3⟩;exact⟨.inr ⟨h1,.inr h3⟩,h2⟩
  have h2:vO (Jk L e)=Qz (vO L) e:=Yr (zf hsP _) (jJ (zf hR.srt _) e) fun x=>by
   rw[vj,hmem,jK (fun x hx=>hne x (vj.1 hx).1),vj]
   constructor
   ·rintro⟨rfl | ⟨h1,h2⟩,h3⟩
    ·exact .inl rfl
    ·exact .inr ⟨h1,h3⟩
   ·rintro(rfl | ⟨h1,h2⟩)
    ·exact⟨.inl rfl,hk⟩
    ·exact⟨.inr ⟨h1,.inl (by omega)⟩,h2⟩
  refine⟨_,_,nl1,e.kills.foldl AL.del m1,false,AL.set m2 e.dot e,?_,hr,base ?_ ?_ (fun h=>by rw[hR.n1 h];exact x6a _) (fun h=>by cases h)⟩
  ·unfold yQ;rw[E.Zt oe,zB,zA,g,Bool.not_true,cond_false,hR.has hn,zB,zA,hc,cond_false,F.Qu [e] (by simp) (by omega),zB,zA,hadd,zB,zA,yAa e (by omega),zA,decide_eq_false (show ¬ e.kind=1 by omega),cond_false];rw[z9a (by omega) hR.n2,zB,zA]
   rfl
  ·rw[h1];exact hL1
  ·rw[h2];exact hR.tomb.add (zf hR.srt _) fun x hx=>hne x (vj.1 hx).1
end
open E (OkE xJ uV)
open F (Zc yc yg uZ)
section
variable{n:Nat}{W c xc:List PT}{nl1:Bool}{m1:List (DT×EV)}{nl2:Bool}{m2:List (DT×EV)}{L:List EV}
theorem jL(L:List EV):(wP L).length<=L.length:=List.length_filter_le _ _
theorem zAa(L:List EV):(vO L).length<=L.length:=List.length_filter_le _ _
theorem Rep.kl(hR:Rep n W c xc nl1 m1 nl2 m2 L):∀ e∈L,e.kills.length<=256:=fun e he=>(qY (hR.good e he).1).1
theorem Rep.Live(hR:Rep n W c xc nl1 m1 nl2 m2 L)(hn:n<=100000000):xh c nl1 m1 nl2 m2=pure (wP L):=by
 unfold xh;rw[x4a hR.live (zf hR.srt _) (by have:=jL L;have:=hR.ll;omega) (fun e he=>by have:=hR.kl e (xq.1 he).1;omega),zB,zA]
theorem Rep.Tombs(hR:Rep n W c xc nl1 m1 nl2 m2 L)(hn:n<=100000000):we c nl1 m1 nl2 m2=pure (vO L):=by
 unfold we;rw[x4a hR.tomb (zf hR.srt _) (by have:=zAa L;have:=hR.ll;omega) (fun e he=>by have:=hR.kl e (vj.1 he).1;omega),zB,zA]
theorem wta(L:List EV)(h:∀ e∈L,e.kind=1\/e.kind=2):(wP L++vO L).Perm L:=by
 induction L with
 | nil=>exact List.Perm.refl _
 | cons x r ih=>
  have ih:=ih fun e he=>h e (by simp[he])
  rcases h x (by simp) with h1 | h1
  ·have e1:wP (x::r)=x::wP r:=by unfold wP;rw[List.filter_cons,if_pos (by simp[h1])]
   have e2:vO (x::r)=vO r:=by unfold vO;rw[List.filter_cons,if_neg (by simp[h1])]
   rw[e1,e2];exact ih.cons x
  ·have e1:wP (x::r)=wP r:=by unfold wP;rw[List.filter_cons,if_neg (by simp[h1])]
   have e2:vO (x::r)=x::vO r:=by unfold vO;rw[List.filter_cons,if_pos (by simp[h1])]
   rw[e1,e2];exact List.perm_middle.trans (ih.cons x)
theorem Rep.kinds(hR:Rep n W c xc nl1 m1 nl2 m2 L):∀ e∈L,e.kind=1\/e.kind=2:=fun e he=>JS (hR.good e he).1
theorem Rep.All(hR:Rep n W c xc nl1 m1 nl2 m2 L)(hn:n<=100000000):ym c nl1 m1 nl2 m2=pure L:=by
 unfold ym;rw[list2_eq hR.live hR.tomb (wta L hR.kinds) hR.srt (by have:=hR.ll;omega) (fun e he=>by have:=hR.kl e he;omega),zB,zA]
theorem Rep.Ctx(hR:Rep n W c xc nl1 m1 nl2 m2 L)(hn:n<=100000000):yY c nl1 m1 nl2 m2=pure (C.zj W):=by
 unfold yY;rw[C.Ws c (hR.okc hn).sm,zB,zA,hR.ctx,C.vT (C.yf W)]
theorem x7a(l:List EV)(k:Int)(hl:l.length<=1000000000):Va l k=pure (l.filter fun e=>decide (e.kind=k)):=by
 unfold Va;rw[uoa (body:=Yc l k) l (fun e=>decide (e.kind=k)) (fun t=>pure t) (fun i x t hx hi hI=>by
  have hd:decide ((i:Int) < (l.length:Int))=true:=by simpa using hi
  unfold Yc;simp only[hd,cond_true,zN hx,zA,yS (show i < 9223372036854775807 by omega)]
  cases decide (x.kind=k) <;> simp only[cond_true,cond_false,zA,if_true,if_false,Bool.false_eq_true]
  rw[zI (by simp;omega)]
  rfl) (fun t=>by unfold Yc;simp[zA]),zA]
theorem Rep.rLive(hR:Rep n W c xc nl1 m1 nl2 m2 L)(hn:n<=100000000)(y:List PT):WB ⟨y,L⟩=pure (wP L):=by
 unfold WB;rw[x7a L 1 (by have:=hR.ll;omega),zB,zA]
 rfl
theorem Rep.rTombs(hR:Rep n W c xc nl1 m1 nl2 m2 L)(hn:n<=100000000)(y:List PT):Vh ⟨y,L⟩=pure (vO L):=by
 unfold Vh;rw[x7a L 2 (by have:=hR.ll;omega),zB,zA]
 rfl
theorem Rep.Is(hR:Rep n W c xc nl1 m1 nl2 m2 L)(hn:n<=100000000):jA ⟨xc,L⟩ c nl1 m1 nl2 m2=pure 1:=by
 unfold jA;have hx:C.zj xc=C.zj W:=C.Vu hR.xctx;have hll:=hR.ll;have hk:=hR.kl;have hE:=C.rEq_sm (C.zj W) (C.zj W) ((hR.ctx▸hR.okc hn:C.Ok (C.zj W)).sm);have a1:=E.Qt (wP L) (wP L) (by have:=jL L;omega) (fun e he=>by have:=hk e (xq.1 he).1;omega);have a2:=E.Qt (vO L) (vO L) (by have:=zAa L;omega) (fun e he=>by have:=hk e (vj.1 he).1;omega);have a3:=E.Qt L L (by omega) (fun e he=>by have:=hk e he;omega);rw[hR.Ctx hn,zB,zA,show(⟨xc,L⟩:RB).ctx=xc from rfl,C.Vw xc hR.xok,zB,zA,hx,hE,zB,zA,decide_eq_true rfl,cond_true,hR.Live hn,zB,zA,hR.rLive hn,zB,zA,a1,zB,zA,decide_eq_true rfl,cond_true,
  hR.Tombs hn,zB,zA,hR.rTombs hn,zB,zA,a2,zB,zA,decide_eq_true rfl,cond_true,hR.All hn,zB,zA,show(⟨xc,L⟩:RB).l=L from rfl,a3,zB,zA,decide_eq_true rfl]
 rfl
theorem Rep.see(hR:Rep n W c xc nl1 m1 nl2 m2 L)(hn:n<=100000000){y:List PT}(hy:C.Ok y){k:Nat}(h1:y.length<=k)(h2:C.vM y<=k)(hk:k<=100000000) :
  ∃ c' xc',yy y c nl1 m1 nl2 m2=pure c'/\QC ⟨xc,L⟩ y=pure ⟨xc',L⟩/\Rep (n+k) (W++y) c' xc' nl1 m1 nl2 m2 L:=by
 have hc:=hR.okc hn;have hwl:=hR.wl;have hwt:=hR.wt;have hl:=C.uR W;have ht:=C.uS W;have e1:C.opC (·||·) xc y=C.zj (W++y):=(C.wi rfl _ _).ext (C.yf _) fun k n=>by rw[C.uE rfl,C.yz,C.Yo,hR.xctx]
 refine⟨C.zj (W++y),C.zj (W++y),?_,?_,?_⟩
 ·unfold yy;rw[C.uMa c y (C.sm_app (by rw[hR.ctx];omega) (by rw[hR.ctx];omega)),zB,zA,hR.ctx,C.Qp]
 ·unfold QC;rw[show(⟨xc,L⟩:RB).ctx=xc from rfl,C.Qn xc y hR.xok hy,zB,zA,e1]
 ·exact⟨rfl,fun k n=>C.yz _ _ _,Ys (by rw[List.length_append];omega) (by rw[C.WK];omega),hR.live,hR.tomb,hR.n1,hR.n2,hR.srt,hR.good,fun d hd=>by rw[C.Yo,hR.dots d hd];rfl,hR.alive,by rw[List.length_append];omega,by rw[C.WK];omega,by have:=hR.ll;omega⟩
def y9a(e:EV):EV:=⟨e.dot,e.kind,e.cid,e.field,e.text,[]⟩
def yBa(L:List EV)(e:EV):List DT:=yg ((wP L).filter fun x=>if e.kind=1 then decide (x.cid=e.cid)&&decide (x.field=e.field) else decide (x.cid=e.cid))
theorem rofE_eq(l:List EV)(cid f:Int)(hl:l.length<=1000000)(hk:∀ e∈l,e.kind=1/\e.kills.length<=300):Uv l cid f=pure (yg (l.filter fun x=>decide (x.cid=cid)&&decide (x.field=f))):=by
 unfold Uv;have hf:=List.length_filter_le (fun x:EV=>decide (x.cid=cid)&&decide (x.field=f)) l;rw[uoa (body:=Yd l cid f) l (fun x=>decide (x.cid=cid)&&decide (x.field=f)) (fun t=>pure t) (fun i x t hx hi hI=>by
  have hd:decide ((i:Int) < (l.length:Int))=true:=by simpa using hi
  unfold Yd;simp only[hd,cond_true,zN hx,zA,(hk x (List.mem_of_getElem? hx)).1,decide_true,yS (show i < 9223372036854775807 by omega)]
  cases decide (x.cid=cid) <;> cases decide (x.field=f) <;> simp only[cond_true,cond_false,zA,if_true,if_false,Bool.false_eq_true,Bool.and_true,Bool.and_false,Bool.true_and,Bool.false_and]
  rw[zI (by simp;omega)]
  rfl) (fun t=>by unfold Yd;simp[zA]),zA,F.Qv _ (by omega) (fun e he=>(hk e (List.mem_filter.1 he).1).2),zB,zA]
theorem rofD_eq(l:List EV)(cid:Int)(hl:l.length<=1000000)(hk:∀ e∈l,e.kind=1/\e.kills.length<=300):WC l cid=pure (yg (l.filter fun x=>decide (x.cid=cid))):=by
 unfold WC;have hf:=List.length_filter_le (fun x:EV=>decide (x.cid=cid)) l;rw[uoa (body:=ui l cid) l (fun x=>decide (x.cid=cid)) (fun t=>pure t) (fun i x t hx hi hI=>by
  have hd:decide ((i:Int) < (l.length:Int))=true:=by simpa using hi
  unfold ui;simp only[hd,cond_true,zN hx,zA,(hk x (List.mem_of_getElem? hx)).1,decide_true,yS (show i < 9223372036854775807 by omega)]
  cases decide (x.cid=cid) <;> simp only[cond_true,cond_false,zA,if_true,if_false,Bool.false_eq_true]
  rw[zI (by simp;omega)]
  rfl) (fun t=>by unfold ui;simp[zA]),zA,F.Qv _ (by omega) (fun e he=>(hk e (List.mem_filter.1 he).1).2),zB,zA]
def uqa(W:List PT)(L:List EV)(e:EV):EV×Int:=
 if xJ (y9a e)=false then (⟨⟨0,0⟩,0,0,0,⟨#[]⟩,[]⟩,1) else if C.vA W e.dot.dev e.dot.n=true then (⟨⟨0,0⟩,0,0,0,⟨#[]⟩,[]⟩,7)
 else if 256 < (yBa L e).length then (⟨⟨0,0⟩,0,0,0,⟨#[]⟩,[]⟩,3) else (⟨e.dot,e.kind,e.cid,e.field,e.text,yBa L e⟩,0)
theorem ura{e:EV}(h:OkE e):OkE (y9a e):=⟨h.dot,h.kind,h.cid,h.field,h.text,(fun d hd=>nomatch hd),by simp[y9a]⟩
end
open E (OkE xJ uV)
open F (Zc yc yg uZ)
theorem x8a{l:List EV}:uV l↔D.Srt (l.map (·.dot)):=by
 unfold uV D.Srt;rw[List.pairwise_map]
theorem usa{l l':List EV}(h:uV l)(e:l'.map (·.dot)=l.map (·.dot)):uV l':=by rw[x8a,e,<- x8a];exact h
def uT(y:List PT)(x:EV):EV:=if C.vA y x.dot.dev x.dot.n=true then y9a x else x
theorem JT(y:List PT)(x:EV):(uT y x).dot=x.dot:=by unfold uT;split <;> rfl
theorem wua(y:List PT)(x:EV):(uT y x).kind=x.kind:=by unfold uT;split <;> rfl
theorem JU(y:List PT)(x:EV):∀ d∈(uT y x).kills,d∈x.kills:=by
 unfold uT
 split
 ·intro d hd;cases hd
 ·intro d hd;exact hd
theorem wva{y:List PT}{x:EV}(h:xJ x=true/\OkE x):xJ (uT y x)=true/\OkE (uT y x):=by
 unfold uT
 split
 ·refine⟨?_,ura h.2⟩;have:=h.1;simp only[xJ,Bool.and_eq_true] at this ⊢;exact⟨this.1,this.2.1,rfl⟩
 ·exact h
theorem Jl(y:List PT)(l:List EV):(l.map (uT y)).map (·.dot)=l.map (·.dot):=by
 rw[List.map_map];exact List.map_congr_left fun x _=>JT y x
theorem uta(x:EV){y:List PT}(hy:C.Ok y):Vb x y=pure (uT y x):=by
 unfold Vb;rw[C.Wt y x.dot hy,zB,zA,zQa,zA];unfold uT y9a
 cases C.vA y x.dot.dev x.dot.n <;> rfl
def xr(y:List PT)(x:EV):Bool:=C.vA y x.dot.dev x.dot.n
def ZV(y:List PT)(L:List EV):List EV:=(L.filter fun x=>decide (x.kind=1)||!xr y x).map (uT y)
section
variable{n:Nat}{W c xc:List PT}{nl1:Bool}{m1:List (DT×EV)}{nl2:Bool}{m2:List (DT×EV)}{L:List EV}
theorem xAa{y:List PT}(hy:C.Ok y)(xc:List PT)(L:List EV)(hl:L.length<=1000000000):loop (uO ⟨xc,L⟩ y) (0,[])=pure (ZV y L):=by
 have h1:=Yj (body:=uO ⟨xc,L⟩ y) L (fun i (t:List EV)=>((i:Int),t)) (fun t x=>if (decide (x.kind=1)||!xr y x)=true then t++[uT y x] else t) (fun t=>pure t)
  (fun i t=>t.length<=i) (fun i x t hx hi hI=>by
   have hd:decide ((i:Int) < (L.length:Int))=true:=by simpa using hi
   refine⟨?_,by split <;> (try rw[List.length_append,List.length_singleton]) <;> omega⟩;unfold uO;have hh:Zs y x.dot=pure (xr y x):=C.Wt y x.dot hy;simp only[hd,cond_true,zN hx,zA,hh,zB,uta x hy,yS (show i < 9223372036854775807 by omega)]
   cases decide (x.kind=1) <;> cases xr y x <;> simp only[Bool.not_true,Bool.not_false,cond_true,cond_false,zA,Bool.or_true,Bool.or_false,Bool.true_or,Bool.false_or,if_true,if_false,Bool.false_eq_true]
   all_goals (try rw[zI (by simp;omega)])
   all_goals rfl) (fun t _=>by unfold uO;simp[zA]) [] (Nat.le_refl _)
 have hf:∀ (q t:List EV),q.foldl (fun t x=>if (decide (x.kind=1)||!xr y x)=true then t++[uT y x] else t) t=t++(q.filter fun x=>decide (x.kind=1)||!xr y x).map (uT y):=by
  intro q
  induction q with
  | nil=>intro t;simp
  | cons x r ih=>intro t;rw[List.foldl_cons,ih,List.filter_cons];split <;> simp
 rw[hf,List.nil_append] at h1;exact h1
theorem yCa{body:List Nat×Bool×List (DT×EV)->M (Step (List Nat×Bool×List (DT×EV)) (Bool×List (DT×EV)))}(m:List (DT×EV))(hb:body=fun⟨seen,nl,v⟩=>yt (∀ i∈seen,i < m.length)<|M.bind (nxt m.length seen) fun o=>match o with
  | none=>pure (.done (nl,v))
  | some j=>M.bind (idx m (Int.ofNat j)) fun kv=>M.bind (det (xK kv.2 nl v)) fun y=>pure (.next (seen++[j],y.1,y.2))) {l:List EV} (hm:Holds m l) (hs:uV l) (hk:∀ e∈l,e.kills.length<=1000000000000) {Q:Bool×List (DT×EV)->Prop}
  (hQ:∀ nl m',Holds m' l->(nl=true->m'=[])->Q (nl,m')):(loop body ([],true,[])).wp Q:=by
 refine M.loopM (body:=body) m (fun L (t:Bool×List (DT×EV))=>(L,t.1,t.2)) (fun t e=>(xK e.2 t.1 t.2).det) (fun t=>pure (t.1,t.2))
  (fun q t=>(t.2.map (·.1)).Nodup/\(∀ k,k∈t.2↔k∈q)/\(∀ k∈q,k∈m)/\(t.1=true->t.2=[])) Q (fun L t hL=>?_) (fun q t y ht hlen hy=>?_) (fun q t hp ht=>?_) (true,[]) ⟨List.nodup_nil,fun k=>Iff.rfl,(fun k h=>by cases h),fun _=>rfl⟩
 ·subst hb;show yt _ ((nxt _ _).bind _)=yt _ ((nxt _ _).bind _);refine congrArg (fun k=>yt _ ((nxt _ _).bind k)) (funext fun o=>?_)
  cases o with
  | none=>rfl
  | some i=>rfl
 ·obtain⟨h1,h2,h3,h4⟩:=ht;have hyl:=(hm.mem.1 hy).1;have hyd:=(hm.mem.1 hy).2;refine⟨_,by rw[z9a (hk _ hyl) h4,zB],AL.nodup_set h1 _ _,fun k=>?_,fun k hk'=>?_,fun h=>by cases h⟩
  ·rw[uma h1,h2,List.mem_append,List.mem_singleton];have ey:y=(y.2.dot,y.2):=by rw[<- hyd]
   constructor
   ·rintro(⟨h,_⟩ | h)
    ·exact .inl h
    ·rw[h];exact .inr ey.symm
   ·rintro(h | h)
    ·by_cases e:k.1=y.2.dot
     ·obtain⟨g1,g2⟩:=hm.mem.1 (h3 k h);have:k.2=y.2:=srtE_one hs g1 hyl (by rw[<- g2,e]);refine .inr ?_;obtain⟨k1,k2⟩:=k;simp only at e this;rw[e,this]
     ·exact .inl ⟨h,e⟩
    ·rw[h];exact .inr ey
  ·rcases List.mem_append.1 hk' with h | h
   ·exact h3 k h
   ·rw[List.mem_singleton.1 h];exact hy
 ·obtain⟨h1,h2,h3,h4⟩:=ht;refine hQ t.1 t.2 (Qy h1 hs fun k=>?_) h4;rw[h2,hp.mem_iff,hm.mem]
theorem Rep.copy(hR:Rep n W c xc nl1 m1 nl2 m2 L)(hn:n<=100000000){Q:List PT×Bool×List (DT×EV)×Bool×List (DT×EV)->Prop}
  (h:∀ a p b q,Rep n W (C.zj W) xc a p b q L->Q (C.zj W,a,p,b,q)):(vG c nl1 m1 nl2 m2).wp Q:=by
 unfold vG;rw[C.Ws c (hR.okc hn).sm,zB,zA];have hc:C.zj c=C.zj W:=by rw[hR.ctx,C.vT (C.yf W)]
 refine yCa (body:=ZH m1) m1 rfl hR.live (zf hR.srt _) (fun e he=>by have:=hR.kl e (xq.1 he).1;omega) fun a p ha1 ha2=>?_
 refine yCa (body:=ZI m2) m2 rfl hR.tomb (zf hR.srt _) (fun e he=>by have:=hR.kl e (vj.1 he).1;omega) fun b q hb1 hb2=>?_
 show Q (C.zj c,a,p,b,q);rw[hc];exact h a p b q { hR with ctx:=rfl,live:=ha1,tomb:=hb1,n1:=ha2,n2:=hb2 }
theorem Rep.Same(hR:Rep n W c xc nl1 m1 nl2 m2 L)(hn:n<=100000000){n':Nat}{W' c' xc':List PT}{a b:Bool}{p q:List (DT×EV)}{L':List EV}(hR':Rep n' W' c' xc' a p b q L')(hn':n'<=100000000) :
  vy c c' nl1 m1 nl2 m2 a p b q=pure (decide (C.zj W=C.zj W')&&decide (L=L')):=by
 unfold vy;have o1:C.Ok (C.zj W):=hR.ctx▸hR.okc hn;have o2:C.Ok (C.zj W'):=hR'.ctx▸hR'.okc hn';have hA:=F.eAll_eq L L' (by have:=hR.ll;omega) (fun e he=>by have:=hR.kl e he;omega);rw[hR.Ctx hn,zB,zA,hR'.Ctx hn',zB,zA,C.Same_eq _ _ o1.sm o2.sm,zB,zA,C.vT (C.yf W),C.vT (C.yf W'),hR.All hn,zB,zA,hR'.All hn',zB,zA,hA,zB,zA,zn,zA]
end
open E (OkE xJ uV)
open F (Zc yc yg uZ)
theorem delF{body:Int×Int×List EV->M (Step (Int×Int×List EV) (Int×List EV))}(p:EV->Bool)(l:List EV)(hl:l.length<=1000000000)
  (hb1:∀ (i j:Nat) (v:List EV) (x:EV),v[j]?=some x->j < v.length->i < j->v.length<=1000000000->body ((i:Int),(j:Int),v)=pure (.next (if p x=true then ((i:Int),((j+1:Nat):Int),v) else (((i+1:Nat):Int),((j+1:Nat):Int),v.set i x))))
  (hb2:∀ (i:Int) (v:List EV),body (i,(v.length:Int),v)=pure (.done (i,v))) :
  ∀ (k i j:Nat) (v:List EV),j+k=l.length->v.length=l.length->i < j->i=((l.take j).filter fun x=>!p x).length->v.take i=(l.take j).filter (fun x=>!p x)->v.drop j=l.drop j ->
   ∃ v',loop body ((i:Int),(j:Int),v)=pure (((l.filter fun x=>!p x).length:Int),v')/\v'.length=l.length/\v'.take (l.filter fun x=>!p x).length=l.filter fun x=>!p x:=by
 intro k
 induction k with
 | zero=>
  intro i j v hj hv hij hi ht hd;have e:j=v.length:=by omega
  subst e;rw[yP (hb2 _ _)];rw[hv,List.take_length] at hi ht;exact⟨v,by rw[hi],hv,by rw[<- hi];exact ht⟩
 | succ k ih=>
  intro i j v hj hv hij hi ht hd;have hlt:j < v.length:=by omega
  have hx:=List.getElem?_eq_getElem hlt;have hlx:l[j]?=some v[j]:=by
   have:=congrArg (fun q:List EV=>q[0]?) hd;simp only[List.getElem?_drop,Nat.add_zero] at this;rw[<- this];exact hx
  have htk:l.take (j+1)=l.take j++[v[j]]:=by rw[List.take_add_one,hlx];rfl
  rw[yT (hb1 i j v _ hx hlt hij (by omega))];have hd1:v.drop (j+1)=l.drop (j+1):=by
   have:=congrArg (fun q:List EV=>q.drop 1) hd;simpa[List.drop_drop,Nat.add_comm] using this
  by_cases c:p v[j]=true
  ·rw[if_pos c];refine ih i (j+1) v (by omega) hv (by omega) ?_ ?_ hd1
   ·rw[htk,List.filter_append,List.filter_cons,if_neg (by simp[c])];simpa using hi
   ·rw[htk,List.filter_append,List.filter_cons,if_neg (by simp[c])];simpa using ht
  ·rw[if_neg c];have hf:(l.take (j+1)).filter (fun x=>!p x)=(l.take j).filter (fun x=>!p x)++[v[j]]:=by
    rw[htk,List.filter_append,List.filter_cons,if_pos (by simp[c])];rfl
   refine ih (i+1) (j+1) (v.set i v[j]) (by omega) (by rw[List.length_set];exact hv) (by omega) ?_ ?_ ?_
   ·rw[hf,List.length_append,List.length_singleton,<- hi]
   ·have hls:i < (v.set i v[j]).length:=by rw[List.length_set];omega
    rw[hf,List.take_add_one,List.take_set,List.getElem?_set_self (by omega),ht];have:((l.take j).filter fun x=>!p x).set i v[j]=(l.take j).filter fun x=>!p x:=List.set_eq_of_length_le (by omega)
    rw[this];rfl
   ·rw[List.drop_set,if_pos (by omega)];exact hd1
theorem wwa(l:List EV)(p:EV->Bool):∀ b:Nat,match (l.zipIdx b).find? (fun y=>p y.1) with
  | some y=>b<=y.2/\y.2 - b < l.length/\(l.take (y.2 - b)).all (fun x=>!p x)=true/\∃ x,l[y.2 - b]?=some x/\p x=true
  | none=>l.filter (fun x=>!p x)=l:=by
 induction l with
 | nil=>intro b;simp
 | cons x r ih=>
  intro b;rw[List.zipIdx_cons,List.find?_cons]
  cases hp:p x with
  | true=>simp[hp]
  | false=>
   simp only[];have h:=ih (b+1)
   revert h
   cases (r.zipIdx (b+1)).find? (fun y=>p y.1) with
   | none=>intro h;rw[List.filter_cons,if_pos (by simp[hp]),h]
   | some y=>
    rintro⟨h1,h2,h3,z,h4,h5⟩;have e:y.2 - b=(y.2 - (b+1))+1:=by omega
    refine⟨by omega,by simp;omega,?_,z,?_,h5⟩
    ·rw[e,List.take_succ_cons,List.all_cons,hp];exact h3
    ·rw[e,List.getElem?_cons_succ];exact h4
theorem wxa{l:List EV}{p:EV->Bool}(h:l.all (fun x=>!p x)=true):l.filter (fun x=>!p x)=l:=List.filter_eq_self.2 fun x hx=>List.all_eq_true.1 h x hx
theorem wya(p:EV->Bool)(l:List EV)(hl:l.length<=1000000000)(ask:M Int)(body:Int×Int×List EV->M (Step (Int×Int×List EV) (Int×List EV)))(z:EV)
  (hask:ask=match l.zipIdx.find? (fun y=>p y.1) with | some y=>pure (y.2:Int) | none=>pure (-1))
  (hb1:∀ (i j:Nat) (v:List EV) (x:EV),v[j]?=some x->j < v.length->i < j->v.length<=1000000000->body ((i:Int),(j:Int),v)=pure (.next (if p x=true then ((i:Int),((j+1:Nat):Int),v) else (((i+1:Nat):Int),((j+1:Nat):Int),v.set i x))))
  (hb2:∀ (i:Int) (v:List EV),body (i,(v.length:Int),v)=pure (.done (i,v))) :
  (M.bind (M.det ask) fun v3=>cond (decide (v3=(-1))) (M.pure l) (M.bind (M.loop body (v3,(IntKind.i64.wrap (v3+1)),l)) (fun⟨i6,v7⟩=>
   M.yt ((0:Int)<=i6/\i6<=(v7.length:Int))<|M.yt ((Int.toNat i6)+(v7.length - Int.toNat i6)<=v7.length) <|
   M.yt ((0:Int)<=0/\(0:Int)<=i6/\i6<=(List.length ((List.take (Int.toNat i6) v7++List.replicate (v7.length - Int.toNat i6) z++List.drop ((Int.toNat i6)+(v7.length - Int.toNat i6)) v7)):Int)) <|
   M.pure ((List.take (Int.toNat i6) ((List.take (Int.toNat i6) v7++List.replicate (v7.length - Int.toNat i6) z++List.drop ((Int.toNat i6)+(v7.length - Int.toNat i6)) v7)))))):M (List EV))=pure (l.filter fun x=>!p x):=by
 have hf:=wwa l p 0
 revert hf
 rw[hask]
 cases l.zipIdx.find? (fun y=>p y.1) with
 | none=>intro hf;rw[hf];simp[zB,zA]
 | some y=>
  rintro⟨h1,h2,h3,x,h4,h5⟩;simp only[Nat.sub_zero] at h2 h3 h4;have hne:decide ((y.2:Int)=-1)=false:=decide_eq_false (by omega);have hall:=wxa h3;have hlen:(l.take y.2).length=y.2:=by rw[List.length_take];omega
  have htk:l.take (y.2+1)=l.take y.2++[x]:=by rw[List.take_add_one,h4];rfl
  have hft:(l.take (y.2+1)).filter (fun x=>!p x)=l.take y.2:=by rw[htk,List.filter_append,hall,List.filter_cons,if_neg (by simp[h5])];simp
  obtain⟨v',e1,e2,e3⟩:=delF (body:=body) p l hl hb1 hb2 (l.length - (y.2+1)) y.2 (y.2+1) l (by omega) rfl (by omega) (by rw[hft,hlen]) (by rw[hft]) rfl;have hle:=List.length_filter_le (fun x=>!p x) l;simp only[zB,zA,hne,cond_false,yS (show y.2 < 9223372036854775807 by omega),e1,Int.toNat_natCast];rw[zI (by omega),zI (by omega),zI (by simp;omega)];rw[List.append_assoc,List.take_append_of_le_length (by rw[List.length_take];omega),List.take_take,Nat.min_self,e3]
section
variable{n:Nat}{W c xc:List PT}{nl1:Bool}{m1:List (DT×EV)}{nl2:Bool}{m2:List (DT×EV)}{L:List EV}
theorem uua(hR:Rep n W c xc nl1 m1 nl2 m2 L){e:EV}(oe:OkE e):OkE (uqa W L e).1:=by
 have hz:OkE ⟨⟨0,0⟩,0,0,0,⟨#[]⟩,[]⟩:=⟨⟨by decide,by decide,by decide,by decide⟩,by decide,by decide,by decide,by decide,(fun d hd=>nomatch hd),by decide⟩
 unfold uqa
 split
 ·exact hz
 ·split
  ·exact hz
  ·split
   ·exact hz
   ·rename_i h
    refine⟨oe.dot,oe.kind,oe.cid,oe.field,oe.text,fun d hd=>?_,by show(yBa L e).length<=_;omega⟩;have hd':d∈yBa L e:=hd;unfold yBa at hd';obtain⟨x,hx,h2⟩:=wV.1 (D.Yq.1 hd');have hxL:=(xq.1 (List.mem_filter.1 hx).1).1;rcases h2 with rfl | h2
    ·exact(hR.good x hxL).2.dot
    ·exact(hR.good x hxL).2.kills d h2
end
structure InA(a:LA):Prop where
 ev:a.event.kills.length<=300/\a.event.text.size<=200->OkE a.event
 dev:∀ p∈a.ctx,0<=p.dev
def yDa(a:LA):Bool:=E.fewE [a.event] 1&&(decide (a.ctx.length<=30)&&a.ctx.all fun p=>decide (p.runs.length<=30))
def fewA(l:List LA)(most:Nat):Bool:=decide (l.length<=most)&&l.all yDa
theorem rFewA_eq(l:List LA)(most:Nat)(hm:most<=1000000):qz l (most:Int)=pure (if fewA l most=true then 1 else 0):=by
 unfold qz fewA
 by_cases h:l.length<=most
 ·have hd:decide ((most:Int) < (l.length:Int))=false:=by simp;omega
  have:=wH (body:=Xg l) l (fun i=>(i:Int)) (fun _ x=>yDa x) (Ex.brk ()) (Ex.ret (0:Int)) (fun i x hx hi=>by
   have hd:decide ((i:Int) < (l.length:Int))=true:=by simpa using hi
   unfold Xg;have h1:=E.Qo [x.event] 1 (by decide);have h1':je [x.event] 1=pure (E.fewE [x.event] 1):=h1;simp only[hd,cond_true,zN hx,zA,h1',zB,C.Qo,yS (show i < 9223372036854775807 by omega)];unfold yDa
   cases E.fewE [x.event] 1 with
   | false=>rfl
   | true=>
    simp only[Bool.not_true,cond_false,zA,Bool.true_and]
    cases (decide (x.ctx.length<=30)&&x.ctx.all fun p=>decide (p.runs.length<=30)) <;> rfl) (by
   unfold Xg;simp[zA])
  rw[hd,cond_false,show(0:Int)=((0:Nat):Int) from rfl,this,zA,decide_eq_true h,Bool.true_and];have hz:(l.zipIdx.all fun y=>yDa y.1)=l.all yDa:=E.XX l yDa;rw[hz]
  cases l.all yDa <;> rfl
 ·have hd:decide ((most:Int) < (l.length:Int))=true:=by simp;omega
  rw[hd,cond_true,decide_eq_false h,Bool.false_and]
  rfl
theorem fewA_mem{l:List LA}{most:Nat}(h:fewA l most=true)(hi:∀ a∈l,InA a):l.length<=most/\∀ a∈l,OkE a.event/\C.Ok a.ctx/\a.ctx.length<=30/\C.vM a.ctx<=900:=by
 unfold fewA at h;rw[Bool.and_eq_true,decide_eq_true_eq,List.all_eq_true] at h;refine⟨h.1,fun a ha=>?_⟩;have h2:=h.2 a ha;unfold yDa at h2;rw[Bool.and_eq_true] at h2;have h3:=(E.few_mem h2.1).2 a.event (by simp);have h4:=C.uPa h2.2;exact⟨(hi a ha).ev h3,C.ok_few (hi a ha).dev h4,h4⟩
open E (OkE xJ uV)
open F (Zc yc yg uZ)
def exA : EV:=⟨⟨1,1⟩,1,281474976710657,1,⟨#[97]⟩,[]⟩
def exB : EV:=⟨⟨1,2⟩,2,281474976710657,0,⟨#[]⟩,[]⟩
theorem okA : OkE exA:=⟨⟨by decide,by decide,by decide,by decide⟩,by decide,by decide,by decide,by decide,(fun d hd=>nomatch hd),by decide⟩
theorem okB : OkE exB:=⟨⟨by decide,by decide,by decide,by decide⟩,by decide,by decide,by decide,by decide,(fun d hd=>nomatch hd),by decide⟩
theorem putA : Jk [] exA=[exA]:=by decide
theorem gA : xJ exA=true:=by decide
def wA : List PT:=[]++C.yk (yg [exA])
open E (OkE xJ uV)
open F (Zc yc yg uZ ub Ww)
def badF(l:List EV)(i:Nat)(e:EV):Bool:=!xJ e||(ub l i e||(decide (e.kind=1)&&uZ l e.dot))
def fromB(c:List PT)(l:List EV):Bool:=(l.zipIdx.all fun y=>!badF l y.2 y.1)&&(decide (c=C.zj c)&&decide (Ww (yg l) c=[]))
theorem yEa{l:List EV}{e:EV}(h:∀ x∈l,zY x.dot e.dot=true):Qz l e=l++[e]:=by
 unfold Qz;rw[List.filter_eq_self.2 h,List.filter_eq_nil_iff.2 fun x hx=>by rw[D.Yp (h x hx)];simp];simp
theorem prev_srt{l:List EV}{i:Nat}{x:EV}(hx:l[i]?=some x)(hs:uV (l.take i))(hp:ub l i x=false):uV (l.take (i+1))/\∀ z∈l.take i,zY z.dot x.dot=true:=by
 have htk:l.take (i+1)=l.take i++[x]:=by rw[List.take_add_one,hx];rfl
 have hlt:i < l.length:=(List.getElem?_eq_some_iff.1 hx).1;have hall:∀ z∈l.take i,zY z.dot x.dot=true:=by
  intro z hz;obtain⟨j,hj⟩:=List.getElem?_of_mem hz;have hji:j < (l.take i).length:=(List.getElem?_eq_some_iff.1 hj).1;rw[List.length_take] at hji;obtain⟨y,hy⟩:∃ y,l[i - 1]?=some y:=⟨_,List.getElem?_eq_getElem (by omega)⟩
  unfold ub at hp;rw[decide_eq_true (show 0 < i by omega),Bool.true_and,hy] at hp;have hyx:zY y.dot x.dot=true:=V.Yl.1 (by simpa using hp)
  by_cases e:j=i - 1
  ·have:(l.take i)[j]?=l[j]?:=by rw[List.getElem?_take,if_pos (by omega)]
   rw[this,e,hy] at hj
   cases hj;exact hyx
  ·have h2:(l.take i)[i - 1]?=some y:=by rw[List.getElem?_take,if_pos (by omega)];exact hy
   have h3:=List.pairwise_iff_getElem.1 hs j (i - 1) (by rw[List.length_take];omega) (by rw[List.length_take];omega) (by omega);rw[(List.getElem?_eq_some_iff.1 hj).2,(List.getElem?_eq_some_iff.1 h2).2] at h3;exact D.WL h3 hyx
 refine⟨?_,hall⟩;rw[htk];unfold uV;rw[List.pairwise_append];exact⟨hs,by simp,fun a ha b hb=>by rw[List.mem_singleton.1 hb];exact hall a ha⟩
theorem yFa(l:List EV)(x:EV):wP (l++[x])=wP l++(if x.kind=1 then [x] else []):=by
 unfold wP;rw[List.filter_append,List.filter_cons];by_cases h:x.kind=1 <;> simp[h]
theorem yGa(l:List EV)(x:EV):vO (l++[x])=vO l++(if x.kind=2 then [x] else []):=by
 unfold vO;rw[List.filter_append,List.filter_cons];by_cases h:x.kind=2 <;> simp[h]
theorem from_bad{l:List EV}(hl:l.length<=1000000)(hk:∀ e∈l,OkE e/\e.kills.length<=300){i:Nat}{x:EV}(hx:l[i]?=some x) :
  (M.bind (M.det (vu x)) fun v84=>cond (!v84) (M.pure true) (cond (decide (0 < (i:Int)))
   (M.bind (M.idx l (IntKind.i64.wrap ((i:Int) - 1))) fun x88=>M.bind (M.det (Zr x88.dot x.dot)) fun v90=>cond (decide (0<=v90)) (M.pure true) (cond (decide (x.kind=1)) (M.bind (M.det (vR l x.dot)) fun v94=>M.pure v94) (M.pure false)))
   (cond (decide (x.kind=1)) (M.bind (M.det (vR l x.dot)) fun v97=>M.pure v97) (M.pure false))):M Bool)=pure (badF l i x):=by
 have hm:=List.mem_of_getElem? hx;have hi:i < l.length:=(List.getElem?_eq_some_iff.1 hx).1;rw[E.Zt (hk x hm).1,zB,zA,F.uga l x.dot (by omega) (fun e he=>by have:=(hk e he).2;omega),zB,zA];have hp:=F.y8a (x:=x) hi (by omega) Zr D.x0a (fun b=>(cond b (M.pure true) (cond (decide (x.kind=1)) (M.pure (uZ l x.dot)) (M.pure false)):M Bool));simp only[cond_false] at hp;rw[hp];unfold badF
 cases xJ x <;> cases ub l i x <;> cases decide (x.kind=1) <;> rfl
theorem uva{l:List EV}(hl:l.length<=1000000)(hk:∀ e∈l,OkE e/\e.kills.length<=300) :
  ∀ (k i:Nat) (nl2:Bool) (m2:List (DT×EV)) (nl1:Bool) (m1:List (DT×EV)),i+k=l.length->uV (l.take i)->(∀ e∈l.take i,xJ e=true)->Holds m1 (wP (l.take i))->Holds m2 (vO (l.take i))->(nl1=true->m1=[])->(nl2=true->m2=[]) ->
   if ((l.drop i).zipIdx i).all (fun y=>!badF l y.2 y.1)=true then ∃ b q a p,loop (yR l) ((i:Int),nl2,m2,nl1,m1)=pure (Ex.brk (b,q,a,p))/\uV l/\(∀ e∈l,xJ e=true)/\Holds p (wP l)/\Holds q (vO l)/\(a=true->p=[])/\(b=true->q=[])
   else loop (yR l) ((i:Int),nl2,m2,nl1,m1)=pure (Ex.ret (.inl ())):=by
 intro k
 induction k with
 | zero=>
  intro i nl2 m2 nl1 m1 hi hs hg h1 h2 h3 h4;have e:i=l.length:=by omega
  subst e;rw[List.drop_length,if_pos (by simp)];rw[List.take_length] at hs hg h1 h2;refine⟨nl2,m2,nl1,m1,?_,hs,hg,h1,h2,h3,h4⟩;refine yP ?_;unfold yR;simp
 | succ k ih=>
  intro i nl2 m2 nl1 m1 hi hs hg h1 h2 h3 h4;obtain⟨x,hx⟩:∃ x,l[i]?=some x:=⟨_,List.getElem?_eq_getElem (by omega)⟩
  have hm:=List.mem_of_getElem? hx;have hdr:l.drop i=x::l.drop (i+1):=by
   rw[List.drop_eq_getElem_cons (by omega)]
   congr 1
   rw[List.getElem?_eq_getElem (by omega)] at hx;exact Option.some.inj hx
  have htk:l.take (i+1)=l.take i++[x]:=by rw[List.take_add_one,hx];rfl
  have hd:decide ((i:Int) < (l.length:Int))=true:=by simp;omega
  have hb:=from_bad hl hk hx;rw[hdr,List.zipIdx_cons,List.all_cons]
  cases hbad:badF l i x with
  | true=>
   simp only[Bool.not_true,Bool.false_and,Bool.false_eq_true,if_false];refine yP ?_;unfold yR;simp only[hd,cond_true,zN hx,zA];rw[hb,zA,hbad]
   rfl
  | false=>
   simp only[Bool.not_false,Bool.true_and];have hgx:xJ x=true:=by
    unfold badF at hbad;simp only[Bool.or_eq_false_iff,Bool.not_eq_false'] at hbad;exact hbad.1
   have hpx:ub l i x=false:=by
    unfold badF at hbad;simp only[Bool.or_eq_false_iff] at hbad;exact hbad.2.1
   obtain⟨hs',hall⟩:=prev_srt hx hs hpx;have hg':∀ e∈l.take (i+1),xJ e=true:=fun e he=>by
    rw[htk] at he;rcases List.mem_append.1 he with h | h
    ·exact hg e h
    ·rw[List.mem_singleton.1 h];exact hgx
   have hxk:=(hk x hm).2;rcases JS hgx with hkd | hkd
   ·have hb2:yR l ((i:Int),nl2,m2,nl1,m1)=pure (.next (((i+1:Nat):Int),nl2,m2,false,AL.set m1 x.dot x)):=by
     unfold yR;simp only[hd,cond_true,zN hx,zA];rw[hb,zA,hbad,decide_eq_true hkd];simp only[cond_false,cond_true,z9a (show x.kills.length<=1000000000000 by omega) h3,zB,zA,YT,yS (show i < 9223372036854775807 by omega)]
    rw[yT hb2];refine ih (i+1) nl2 m2 false _ (by omega) hs' hg' ?_ ?_ (fun h=>by cases h) h4
    ·rw[htk,yFa,if_pos hkd,<- yEa (fun z hz=>hall z (xq.1 hz).1)];exact h1.add (zf hs _) fun z hz e=>by have:=hall z (xq.1 hz).1;rw[e,D.Wa] at this;cases this
    ·rw[htk,yGa,if_neg (by omega),List.append_nil];exact h2
   ·have hb2:yR l ((i:Int),nl2,m2,nl1,m1)=pure (.next (((i+1:Nat):Int),false,AL.set m2 x.dot x,nl1,m1)):=by
     unfold yR;simp only[hd,cond_true,zN hx,zA];rw[hb,zA,hbad,decide_eq_false (show ¬ x.kind=1 by omega)];simp only[cond_false,z9a (show x.kills.length<=1000000000000 by omega) h4,zB,zA,YT,yS (show i < 9223372036854775807 by omega)]
    rw[yT hb2];refine ih (i+1) false _ nl1 m1 (by omega) hs' hg' ?_ ?_ h3 (fun h=>by cases h)
    ·rw[htk,yFa,if_neg (by omega),List.append_nil];exact h1
    ·rw[htk,yGa,if_pos hkd,<- yEa (fun z hz=>hall z (vj.1 hz).1)];exact h2.add (zf hs _) fun z hz e=>by have:=hall z (vj.1 hz).1;rw[e,D.Wa] at this;cases this
theorem drop_nil{l:List DT}{c:List PT}(h:Ww l c=[]):∀ d∈l,C.vA c d.dev d.n=true:=fun d hd=>by
 cases hc:C.vA c d.dev d.n with
 | true=>rfl
 | false=>
  have:d∈Ww l c:=D.Yq.2 (List.mem_filter.2 ⟨hd,by simp[hc]⟩);rw[h] at this;cases this
theorem From_eq{c:List PT}{l:List EV}(hc:C.Ok c){n:Nat}(h1:c.length<=n)(h2:C.vM c<=n)(hl:l.length<=n)(hn:n<=1000000)(hk:∀ e∈l,OkE e/\e.kills.length<=300) :
  if fromB c l=true then ∃ a p b q,xz c l=pure (.inr (C.zj c,a,p,b,q))/\Rep n c (C.zj c) c a p b q l else xz c l=pure (.inl ()):=by
 have hlen:=F.uo l 300 fun e he=>(hk e he).2
 have hdl:(yg l).length<=(yc l).length:=D.jH _;have key:=uva (l:=l) (by omega) hk l.length 0 true [] true [] (by omega) (by simp[uV]) (by simp) (by simp[Holds,wP]) (by simp[Holds,vO]) (fun _=>rfl) (fun _=>rfl);rw[List.drop_zero] at key;have h0:loop (yR l) (((0:Nat):Int),true,[],true,[])=loop (yR l) (0,true,[],true,[]):=rfl;rw[h0] at key;unfold fromB;unfold xz;rw[C.Ws c hc.sm,zB,zA]
 cases ha:(l.zipIdx.all fun y=>!badF l y.2 y.1) with
 | false=>
  rw[ha,if_neg (by simp)] at key;rw[Bool.false_and,if_neg (by simp),key,zA,jS]
 | true=>
  rw[ha,if_pos rfl] at key;obtain⟨b,q,a,p,e1,hs,hg,g1,g2,g3,g4⟩:=key;rw[e1,zA,YT,Bool.true_and];simp only[];rw[C.Zt c hc.sm,zB,zA,F.Qu l (by omega) (by omega),zB,zA,F.uha (yg l) c (by omega) hc.sm,zB,zA];have hdec:decide (0 < ((Ww (yg l) c).length:Int))=!decide (Ww (yg l) c=[]):=by
   cases Ww (yg l) c with
   | nil=>rfl
   | cons x r=>simp <;> omega
  rw[hdec]
  cases hcn:decide (c=C.zj c) with
  | false=>rw[Bool.false_and,if_neg (by simp)];rfl
  | true=>
   rw[Bool.true_and,Bool.not_true,cond_false,zA]
   cases hdn:decide (Ww (yg l) c=[]) with
   | false=>rw[if_neg (by simp)];rfl
   | true=>
    rw[if_pos rfl];refine⟨a,p,b,q,rfl,⟨rfl,fun _ _=>rfl,hc,g1,g2,g3,g4,hs,fun e he=>⟨hg e he,(hk e he).1⟩,fun d hd=>drop_nil (of_decide_eq_true hdn) d (D.Yq.2 hd),fun e he h1=>?_,h1,h2,hl⟩⟩;rw[List.all_eq_true] at ha;obtain⟨i,hi⟩:=List.getElem?_of_mem he;have:=ha (e,i) (by rw[List.mem_zipIdx_iff_getElem?];exact hi);simp only[Bool.not_eq_true',badF,Bool.or_eq_false_iff,Bool.and_eq_false_iff] at this;rcases this.2.2 with h | h
    ·exact absurd h1 (of_decide_eq_false h)
    ·exact h
open E (OkE xJ uV)
open F (Zc yc yg uZ ub Ww)
theorem JV{l:List EV}(hs:uV l){i:Nat}{x:EV}(hx:l[i]?=some x):ub l i x=false:=by
 unfold ub
 by_cases h:0 < i
 ·have hl:=(List.getElem?_eq_some_iff.1 hx).1;obtain⟨y,hy⟩:∃ y,l[i - 1]?=some y:=⟨_,List.getElem?_eq_getElem (by omega)⟩
  have h3:=List.pairwise_iff_getElem.1 hs (i - 1) i (by omega) hl (by omega);rw[(List.getElem?_eq_some_iff.1 hy).2,(List.getElem?_eq_some_iff.1 hx).2] at h3;have:=V.Yl.2 h3;rw[hy];simp;omega
 ·simp[h]
section
variable{n:Nat}{W c xc:List PT}{nl1:Bool}{m1:List (DT×EV)}{nl2:Bool}{m2:List (DT×EV)}{L:List EV}
theorem Rep.fromB(hR:Rep n W c xc nl1 m1 nl2 m2 L):fromB (C.zj W) L=true:=by
 unfold G.fromB;rw[Bool.and_eq_true,Bool.and_eq_true];refine⟨List.all_eq_true.2 fun y hy=>?_,by rw[C.vT (C.yf W)];simp,?_⟩
 ·have hx:L[y.2]?=some y.1:=List.mem_zipIdx_iff_getElem?.1 hy;have hm:=List.mem_of_getElem? hx;unfold badF;rw[(hR.good _ hm).1,JV hR.srt hx]
  by_cases hk:y.1.kind=1
  ·rw[hR.alive _ hm hk];simp
  ·simp[hk]
 ·rw[decide_eq_true_eq];unfold Ww;rw[List.filter_eq_nil_iff.2 fun d hd=>by rw[C.yz,hR.dots d (D.Yq.1 hd)];simp]
  rfl
theorem Rep.From(hR:Rep n W c xc nl1 m1 nl2 m2 L)(hn:n<=500000) :
  ∃ a p b q,xz (C.zj W) L=pure (.inr (C.zj W,a,p,b,q))/\Rep (2*n) (C.zj W) (C.zj W) (C.zj W) a p b q L:=by
 have hwl:=hR.wl;have hwt:=hR.wt;have hll:=hR.ll;have h1:=C.uR W;have h2:=C.uS W;have h:=From_eq (c:=C.zj W) (l:=L) (Ys (by omega) (by omega)) (n:=2*n) (by omega) (by omega) (by omega) (by omega) (fun e he=>⟨(hR.good e he).2,by have:=hR.kl e he;omega⟩);rw[hR.fromB,if_pos rfl,C.vT (C.yf W)] at h;exact h
end
open E (OkE xJ uV)
open F (Zc yc yg uZ)
section
variable{n:Nat}{W c xc:List PT}{nl1:Bool}{m1:List (DT×EV)}{nl2:Bool}{m2:List (DT×EV)}{L:List EV}
def wza(s:List PT×List EV)(e:EV):List PT×List EV:=if xJ e=true/\C.vA s.1 e.dot.dev e.dot.n=false then (s.1++C.yk (yg [e]),Jk s.2 e) else s
theorem Rep.putS(hR:Rep n W c xc nl1 m1 nl2 m2 L)(hn:n<=100000000){e:EV}(oe:OkE e) :
  ∃ k c' xc' nl1' m1' nl2' m2',yQ e c nl1 m1 nl2 m2=pure (k,c',nl1',m1',nl2',m2')/\Yb ⟨xc,L⟩ e=pure (⟨xc',(wza (W,L) e).2⟩,k)/\Rep (n+600) (wza (W,L) e).1 c' xc' nl1' m1' nl2' m2' (wza (W,L) e).2/\(k≠0->xc'=xc/\(wza (W,L) e).2=L):=by
 unfold wza
 cases g:xJ e with
 | false=>
  rw[if_neg (by simp)];refine⟨1,c,xc,nl1,m1,nl2,m2,?_,?_,hR.mono (by omega),fun _=>⟨rfl,rfl⟩⟩
  ·unfold yQ;rw[E.Zt oe,zB,zA,g];rfl
  ·unfold Yb;rw[E.jI oe,zB,zA,g];rfl
 | true=>
  cases hc:C.vA W e.dot.dev e.dot.n with
  | true=>
   rw[if_neg (by simp)];refine⟨7,c,xc,nl1,m1,nl2,m2,?_,?_,hR.mono (by omega),fun _=>⟨rfl,rfl⟩⟩
   ·unfold yQ;rw[E.Zt oe,zB,zA,g,Bool.not_true,cond_false,hR.has hn,zB,zA,hc];rfl
   ·unfold Yb;rw[E.jI oe,zB,zA,g,Bool.not_true,cond_false,show(⟨xc,L⟩:RB).ctx=xc from rfl,hR.rhas,zB,zA,hc];rfl
  | false=>
   rw[if_pos (by simp)];obtain⟨c',xc',a,p,b,q,h1,h2,h3⟩:=hR.put hn oe g hc;exact⟨0,c',xc',a,p,b,q,h1,h2,h3,fun h=>absurd rfl h⟩
end
section
variable{n:Nat}{W c xc:List PT}{nl1:Bool}{m1:List (DT×EV)}{nl2:Bool}{m2:List (DT×EV)}{L:List EV}
theorem Rep.again(hR:Rep n W c xc nl1 m1 nl2 m2 L)(hn:n<=500000) :
  ∃ a p b q,uH xc=pure (C.zj W)/\xz (C.zj W) L=pure (.inr (C.zj W,a,p,b,q))/\Rep (2*n) W (C.zj W) xc a p b q L:=by
 obtain⟨a,p,b,q,e,R1⟩:=hR.From hn;refine⟨a,p,b,q,?_,e,{ R1 with ctx:=rfl,xctx:=hR.xctx,xok:=hR.xok,dots:=hR.dots,wl:=by have:=hR.wl;omega,wt:=by have:=hR.wt;omega }⟩;rw[C.Vw xc hR.xok,C.Vu hR.xctx]
end
open E (OkE xJ uV)
open F (Zc yc yg uZ XY OkD)
theorem qZ(x:EV){y:List PT}(hy:C.Ok y):xZ x y=pure (xr y x):=by
 unfold xZ;rw[C.qQ y x.dot hy.sm,zB,zA]
 rfl
theorem JW(l:List EV){y:List PT}(hy:C.Ok y)(hl:l.length<=1000000000):zM y l=pure (l.filter fun x=>!xr y x):=by
 unfold zM;refine wya (xr y) l hl (zg l y) (zX y) ⟨⟨0,0⟩,0,0,0,⟨#[]⟩,[]⟩ ?_ (fun i j v x hx hj hij hv=>?_) (fun i v=>?_)
 ·unfold zg;have:=loopF (body:=za l y) l (fun i=>(i:Int)) (fun _ x=>xr y x) (fun i _=>Ex.ret (i:Int)) (pure (Ex.brk ())) (fun i x hx hi=>by
   have hd:decide ((i:Int) < (l.length:Int))=true:=by simpa using hi
   unfold za;simp only[hd,cond_true,zN hx,zA,qZ x hy,zB,yS (show i < 9223372036854775807 by omega)]
   cases xr y x <;> rfl) (by
   unfold za;simp[zA])
  rw[show(0:Int)=((0:Nat):Int) from rfl,this]
  cases l.zipIdx.find? (fun z=>xr y z.1) <;> rfl
 ·have hd:decide ((j:Int) < (v.length:Int))=true:=by simpa using hj
  obtain⟨w,hw⟩:∃ w,v[i]?=some w:=⟨_,List.getElem?_eq_getElem (by omega)⟩
  unfold zX;simp only[hd,cond_true,zN hx,zN hw,zA,qZ x hy,zB,yS (show j < 9223372036854775807 by omega),yS (show i < 9223372036854775807 by omega),Int.toNat_natCast]
  cases xr y x <;> rfl
 ·unfold zX;simp
def vq(W:List PT)(L:List EV)(from_:List PT):DL:=⟨C.opC (·&&·) from_ W,C.zj W,L.filter fun x=>!xr from_ x⟩
section
variable{n:Nat}{W c xc:List PT}{nl1:Bool}{m1:List (DT×EV)}{nl2:Bool}{m2:List (DT×EV)}{L:List EV}
theorem x9a(y:List PT){a b:List PT}(h:∀ k m,C.vA a k m=C.vA b k m):C.opC (·&&·) y a=C.opC (·&&·) y b:=
 (C.wi rfl _ _).ext (C.wi rfl _ _) fun k m=>by rw[C.uE rfl,C.uE rfl,h]
theorem uwa(y:List PT){a b:List PT}(h:∀ k m,C.vA a k m=C.vA b k m):C.opC (fun x y=>x&&!y) y a=C.opC (fun x y=>x&&!y) y b:=
 (C.wi rfl _ _).ext (C.wi rfl _ _) fun k m=>by rw[C.uE rfl,C.uE rfl,h]
theorem Rep.Since(hR:Rep n W c xc nl1 m1 nl2 m2 L)(hn:n<=100000000){y:List PT}(hy:C.Ok y):xd y c nl1 m1 nl2 m2=pure (vq W L y):=by
 have hwl:=hR.wl;have hwt:=hR.wt;have hll:=hR.ll;unfold xd;rw[hR.Ctx hn,zB,zA,C.uOa _ _ hy.sm (Ys (by omega) (by omega)).sm,zB,zA,hR.All hn,zB,zA,JW L hy (by omega),zB,zA,x9a y (fun k m=>C.yz W k m)]
 rfl
theorem Rep.rSince(hR:Rep n W c xc nl1 m1 nl2 m2 L)(hn:n<=100000000){y:List PT}(hy:C.Ok y):Vg ⟨xc,L⟩ y=pure (vq W L y):=by
 have hll:=hR.ll;unfold Vg;have h:=uoa (body:=Zh ⟨xc,L⟩ y) L (fun x=>!xr y x) (fun t=>pure t) (fun i x t hx hi hI=>by
  have hd:decide ((i:Int) < (L.length:Int))=true:=by simpa using hi
  unfold Zh;have hs:C.vA y x.dot.dev x.dot.n=xr y x:=rfl;simp only[hd,cond_true,zN hx,zA,C.Wt y x.dot hy,hs,zB,yS (show i < 9223372036854775807 by omega),List.nil_append]
  cases xr y x <;> simp only[cond_true,cond_false,zA,if_true,if_false,Bool.false_eq_true,Bool.not_true,Bool.not_false]
  rw[zI (by simp;omega),zI (by simp;omega)]
  rfl) (fun t=>by unfold Zh;simp[zA])
 rw[C.rMeet_eq _ _ hy hR.xok,zB,zA,C.Vw _ hR.xok,zB,zA,h,zA,x9a y hR.xctx,C.Vu hR.xctx]
 rfl
end
theorem w0a(d:DL)(hd:OkD d) :
  ∀ (q k n:Nat) (W c xc:List PT) (a:Bool) (p:List (DT×EV)) (b:Bool) (r:List (DT×EV)) (L:List EV),k+q=d.events.length->n+600*q<=100000000->Rep n W c xc a p b r L ->
   ∃ c' xc' a' p' b' r',loop (xg d) ((k:Int),c,b,r,a,p)=pure (c',b',r',a',p') /\
    Rep (n+600*q) ((d.events.drop k).foldl wza (W,L)).1 c' xc' a' p' b' r' ((d.events.drop k).foldl wza (W,L)).2:=by
 have hel:=hd.len;intro q
 induction q with
 | zero=>
  intro k n W c xc a p b r L hk hn hR;have hkl:k=d.events.length:=by omega
  subst hkl;rw[List.drop_length];refine⟨c,xc,a,p,b,r,yP ?_,hR⟩;unfold xg;simp
 | succ q ih=>
  intro k n W c xc a p b r L hk hn hR;have hlt:k < d.events.length:=by omega
  obtain⟨x,hx⟩:∃ x,d.events[k]?=some x:=⟨_,List.getElem?_eq_getElem hlt⟩
  have hdr:d.events.drop k=x::d.events.drop (k+1):=by
   rw[List.drop_eq_getElem_cons hlt]
   congr 1
   rw[List.getElem?_eq_getElem hlt] at hx;exact Option.some.inj hx
  obtain⟨cd,c1,xc1,a1,p1,b1,r1,e1,e2,R1,h0⟩:=hR.putS (by omega) (hd.evs x (List.mem_of_getElem? hx));have hdc:decide ((k:Int) < (d.events.length:Int))=true:=by simpa using hlt
  have s1:xg d ((k:Int),c,b,r,a,p)=pure (.next (((k+1:Nat):Int),c1,b1,r1,a1,p1)):=by
   unfold xg;simp only[hdc,cond_true,zN hx,zA,e1,zB,yS (show k < 9223372036854775807 by omega)]
  obtain⟨c',xc',a',p',b',r',f1,R2⟩:=ih (k+1) (n+600) _ c1 xc1 a1 p1 b1 r1 _ (by omega) (by omega) R1;rw[yT s1,hdr,List.foldl_cons];exact⟨c',xc',a',p',b',r',f1,R2.mono (by omega)⟩
def w1a(d:DL)(W:List PT):Bool:=decide (C.opC (fun x y=>x&&!y) d.from_ W=[])
def XZ(s:List PT×List EV)(d:DL):List PT×List EV:=if XY d=true/\w1a d s.1=true then ((d.events.foldl wza s).1++d.to_,(d.events.foldl wza s).2) else s
def qa(W:List PT)(d:DL):Int:=if XY d=true then (if w1a d W=true then 0 else 12) else 1
section
variable{n:Nat}{W c xc:List PT}{nl1:Bool}{m1:List (DT×EV)}{nl2:Bool}{m2:List (DT×EV)}{L:List EV}
theorem Rep.ApplyP(hR:Rep n W c xc nl1 m1 nl2 m2 L){d:DL}(hd:OkD d){j:Nat}(hj:d.to_.length<=j/\C.vM d.to_<=j)(hn:n+600*d.events.length+j<=50000000) :
  ∃ c' xc' a p b q,yj d c nl1 m1 nl2 m2=pure (qa W d,c',a,p,b,q) /\
   Rep (n+600*d.events.length+j) (XZ (W,L) d).1 c' xc' a p b q (XZ (W,L) d).2:=by
 have hwl:=hR.wl;have hwt:=hR.wt;have hw1:=C.z4a d.from_ (C.zj W) hd.from_.sm (Ys (by omega) (by omega)).sm;rw[uwa d.from_ (fun k m=>C.yz W k m)] at hw1;unfold yj qa XZ;rw[F.Qw hd,zB,zA]
 cases g:XY d with
 | false=>
  rw[if_neg (by simp),if_neg (by simp),Bool.not_false,cond_true];exact⟨c,xc,nl1,m1,nl2,m2,rfl,hR.mono (by omega)⟩
 | true=>
  rw[if_pos rfl,Bool.not_true,cond_false,hR.Ctx (by omega),zB,zA,hw1,zB,zA];have hwb:decide (C.opC (fun x y=>x&&!y) d.from_ W=[])=w1a d W:=rfl;rw[hwb]
  cases w:w1a d W with
  | false=>
   rw[if_neg (by simp),if_neg (by simp),Bool.not_false,cond_true];exact⟨c,xc,nl1,m1,nl2,m2,rfl,hR.mono (by omega)⟩
  | true=>
   obtain⟨c',xc',a',p',b',r',f1,R2⟩:=w0a d hd d.events.length 0 n W c xc nl1 m1 nl2 m2 L (by omega) (by omega) hR;obtain⟨c3,x3,e1,e2,R3⟩:=R2.see (by omega) hd.to_ hj.1 hj.2 (by omega);rw[List.drop_zero] at R3;rw[if_pos rfl,if_pos (by simp),Bool.not_true,cond_false,show(0:Int)=((0:Nat):Int) from rfl,f1,zA];refine⟨c3,x3,a',p',b',r',?_,R3⟩;show(M.bind _ _:M _)=_;rw[e1,zB,zA]
end
open E (OkE xJ uV)
open F (Zc yc yg uZ XY OkD)
def wAa(a b:DL):Bool:=decide (C.zj a.from_=C.zj b.from_)&&(decide (C.zj a.to_=C.zj b.to_)&&decide (a.events=b.events))
theorem zBa{a b:DL}(ha:OkD a)(hb:OkD b):Uy a b=pure (wAa a b):=by
 unfold Uy wAa;rw[C.jF _ _ ha.from_ hb.from_,C.jF _ _ ha.to_ hb.to_,E.Qt a.events b.events (by have:=ha.len;omega) (fun e he=>by have:=ha.kills e he;omega)];simp only[zB,zA,zn]
section
variable{n:Nat}{W c xc:List PT}{nl1:Bool}{m1:List (DT×EV)}{nl2:Bool}{m2:List (DT×EV)}{L:List EV}
theorem Rep.okSince(hR:Rep n W c xc nl1 m1 nl2 m2 L)(hn:n<=1000000){y:List PT}(hy:y.length<=10000/\C.vM y<=10000):OkD (vq W L y) where
 from_:=C.ok_mono rfl ⟨by omega,by omega⟩ ⟨by have:=hR.wl;omega,by have:=hR.wt;omega⟩
 to_:=Ys (by have:=hR.wl;omega) (by have:=hR.wt;omega)
 evs e he:=(hR.good e (List.mem_filter.1 he).1).2
 len:=by
  have:=hR.ll;have h:=List.length_filter_le (fun x=>!xr y x) L;show(L.filter fun x=>!xr y x).length<=_;omega
 kills e he:=by have:=hR.kl e (List.mem_filter.1 he).1;omega
end
def dA : DL:=vq wA [exA] []
theorem uxa : XL=pure true:=by
 obtain⟨c1,x1,a1,p1,b1,q1,hp1,_,R1⟩:=Rep.new.put (by omega) okA gA (by decide);rw[putA] at R1;have hs:=R1.Since (by omega) C.ok_nil;have od:=R1.okSince (by omega) (y:=[]) (by decide);have R1':Rep 600 wA c1 x1 a1 p1 b1 q1 [exA]:=R1.mono (by omega);obtain⟨c2,x2,a2,p2,b2,q2,e2,R2⟩:=Rep.new.ApplyP (d:=dA) od (j:=600) (by decide) (by decide);obtain⟨c3,x3,a3,p3,b3,q3,e3,R3⟩:=R2.ApplyP (d:=dA) od (j:=600) (by decide) (by decide);have k1:qa [] dA=0:=by decide
 have k2:qa (XZ ([],[]) dA).1 dA=0:=by decide
 have hL:(XZ ((XZ ([],[]) dA).1,(XZ ([],[]) dA).2) dA).2=[exA]:=by decide
 have hW:C.zj wA=C.zj (XZ ((XZ ([],[]) dA).1,(XZ ([],[]) dA).2) dA).1:=by decide
 rw[k1] at e2;rw[k2] at e3;rw[hL] at R3;have hl:=R3.Live (by decide);have hsm:=R1'.Same (by omega) R3 (by decide);rw[decide_eq_true hW,decide_eq_true rfl] at hsm;unfold XL vw;rw[show(⟨(⟨1,1⟩:DT),1,281474976710657,1,(⟨#[97]⟩:ByteArray),([]:List DT)⟩:EV)=exA from rfl];simp only[zB,zA,hp1];rw[hs,zB,zA];show(M.bind (M.det (yj dA [] true [] true [])) _:M Bool)=_;rw[e2,zB,zA];show(M.bind (M.det (yj dA c2 a2 p2 b2 q2)) _:M Bool)=_;rw[e3,zB,zA];simp only[decide_true,cond_true,hl,hsm,zB,zA,show(wP [exA]).length=1 by decide,show((1:Nat):Int)=1 from rfl,Bool.and_self]
 rfl
open E (OkE xJ uV)
open F (Zc yc yg uZ XY OkD ub Ww bad1)
section
variable{n:Nat}{W c xc:List PT}{nl1:Bool}{m1:List (DT×EV)}{nl2:Bool}{m2:List (DT×EV)}{L:List EV}
theorem Rep.rmake(hR:Rep n W c xc nl1 m1 nl2 m2 L)(hn:n<=1000000){e:EV}(oe:OkE e) :
  Uw ⟨xc,L⟩ e=pure (uqa W L e):=by
 have hll:=jL L;have hL:=hR.ll;have hk:∀ x∈wP L,x.kind=1/\x.kills.length<=300:=fun x hx=>⟨(xq.1 hx).2,by have:=hR.kl x (xq.1 hx).1;omega⟩
 have h2:=E.jI (ura oe);have h4:=hR.rhas e.dot;have a3:=rofE_eq (wP L) e.cid e.field (by omega) hk;have a4:=rofD_eq (wP L) e.cid (by omega) hk;unfold uqa;unfold Uw;rw[show(⟨e.dot,e.kind,e.cid,e.field,e.text,([]:List DT)⟩:EV)=y9a e from rfl,h2,zB,zA]
 cases xJ (y9a e) with
 | false=>rfl
 | true=>
  rw[Bool.not_true,cond_false,show(⟨xc,L⟩:RB).ctx=xc from rfl,h4,zB,zA]
  cases C.vA W e.dot.dev e.dot.n with
  | true=>rfl
  | false=>
   rw[cond_false,if_neg (by simp),if_neg (by simp),hR.rLive (by omega),zB,zA,a4,zB,zA];simp only[zA,a3,zB];rw[zQa,zA];have hq:(cond (decide (e.kind=1)) (yg ((wP L).filter fun x=>decide (x.cid=e.cid)&&decide (x.field=e.field))) (yg ((wP L).filter fun x=>decide (x.cid=e.cid))))=yBa L e:=by
    unfold yBa
    by_cases h:e.kind=1 <;> simp[h]
   rw[hq,xB]
   by_cases h:256 < (yBa L e).length
   ·rw[if_pos h,if_pos (by omega)]
   ·rw[if_neg h,if_neg (by omega)]
theorem Rep.rprune(hR:Rep n W c xc nl1 m1 nl2 m2 L)(hn:n<=100000000){y:List PT}(hy:C.Ok y) :
  ∃ k,Vc ⟨xc,L⟩ y=pure (⟨xc,ZV y L⟩,k)/\Rep n W c xc false ((wP (ZV y L)).map ent) false ((vO (ZV y L)).map ent) (ZV y L):=by
 have hll:=hR.ll;have hl1:=jL L;have ht1:=zAa L;have hP:∀ x∈L,(decide (x.kind=1)||!xr y x)=true↔(x.kind=1\/xr y x=false):=fun x _=>by simp
 have hsP:uV (ZV y L):=usa (zf hR.srt (fun x=>decide (x.kind=1)||!xr y x)) (Jl y _);have mem_p:∀ z,z∈ZV y L↔∃ x∈L,(x.kind=1\/xr y x=false)/\uT y x=z:=fun z=>by
  unfold ZV;rw[List.mem_map]
  constructor
  ·rintro⟨x,hx,e⟩;rw[List.mem_filter] at hx;exact⟨x,hx.1,(hP x hx.1).1 hx.2,e⟩
  ·rintro⟨x,hx,hp,e⟩;exact⟨x,List.mem_filter.2 ⟨hx,(hP x hx).2 hp⟩,e⟩
 have hlen:(L.length:Int) - ((ZV y L).length:Int)=((vO L).filter (xr y)).length:=by
  have e1:(ZV y L).length=(L.filter fun x=>decide (x.kind=1)||!xr y x).length:=by unfold ZV;rw[List.length_map]
  have e2:(vO L).filter (xr y)=L.filter fun x=>!(decide (x.kind=1)||!xr y x):=by
   unfold vO;rw[List.filter_filter];refine List.filter_congr fun x hx=>?_
   rcases hR.kinds x hx with h | h <;> simp[h]
  have e3:∀ (q:List EV) (p:EV->Bool),q.length=(q.filter p).length+(q.filter fun x=>!p x).length:=by
   intro q p
   induction q with
   | nil=>rfl
   | cons x r ih=>rw[List.filter_cons,List.filter_cons];cases p x <;> simp <;> omega
  have:=e3 L fun x=>decide (x.kind=1)||!xr y x
  rw[e1,e2];omega
 have hle:(ZV y L).length<=L.length:=by unfold ZV;rw[List.length_map];exact List.length_filter_le _ _
 refine⟨(((vO L).filter (xr y)).length:Int),?_,?_⟩
 ·unfold Vc;rw[xAa hy xc L (by omega),zA];simp only[];rw[jx (by omega) (by omega),hlen]
 ·refine⟨hR.ctx,hR.xctx,hR.xok,List.Perm.refl _,List.Perm.refl _,(fun h=>by cases h),(fun h=>by cases h),hsP,fun z hz=>?_,fun d hd=>?_,fun z hz hk=>?_,hR.wl,hR.wt,by omega⟩
  ·obtain⟨x,hx,_,rfl⟩:=(mem_p z).1 hz;exact wva (hR.good x hx)
  ·obtain⟨z,hz,h⟩:=wV.1 hd;obtain⟨x,hx,_,rfl⟩:=(mem_p z).1 hz;refine hR.dots d (wV.2 ⟨x,hx,?_⟩);rw[JT] at h;exact h.imp (fun h=>h) (JU y x d)
  ·obtain⟨x,hx,_,rfl⟩:=(mem_p z).1 hz;rw[wua] at hk;rw[JT,<- Bool.not_eq_true,WM];rintro⟨w,hw,h⟩;obtain⟨v,hv,_,rfl⟩:=(mem_p w).1 hw;have:=hR.alive x hx hk;rw[<- Bool.not_eq_true,WM] at this;exact this ⟨v,hv,JU y v _ h⟩
end
theorem yHa(W:List PT)(L:List EV)(hs:uV L)(e:EV):(wza (W,L) e).2.length<=L.length+1:=by
 unfold wza
 split
 ·have h1:=x5a (L.filter fun x=>!decide (x.kind=1)||!Zc e.kills x.dot) e (zf hs _);have h2:(L.filter fun x=>!decide (x.kind=1)||!Zc e.kills x.dot).length<=L.length:=List.length_filter_le _ _;show(Jk L e).length<=_;unfold Jk;omega
 ·exact Nat.le_succ _
theorem w2a(y:List PT)(L:List EV):(ZV y L).length<=L.length:=by unfold ZV;rw[List.length_map];exact List.length_filter_le _ _
section
variable{n:Nat}{W c xc:List PT}{nl1:Bool}{m1:List (DT×EV)}{nl2:Bool}{m2:List (DT×EV)}{L:List EV}
theorem do_loopR(l:List LA)(hlen:l.length<=25)(hA:∀ a∈l,OkE a.event/\C.Ok a.ctx/\a.ctx.length<=30/\C.vM a.ctx<=900)
  {P:List PT->Prop} (hP1:∀ W e,OkE e->P W->P (W++C.yk (yg [e]))) (hP2:∀ W,∀ a∈l,P W->P (W++a.ctx)) :
  ∀ (q k:Nat) (W c xc:List PT) (a:Bool) (p:List (DT×EV)) (b:Bool) (r:List (DT×EV)) (L:List EV),k+q=l.length->Rep (3000*k) W c xc a p b r L->P W->L.length<=k ->
   ∃ W c xc' a p b r L',loop (XN l) ((k:Int),xc,L)=pure (xc',L')/\Rep (3000*l.length) W c xc' a p b r L'/\P W/\L'.length<=l.length:=by
 have hP3:∀ W L e,OkE e->P W->P (wza (W,L) e).1:=fun W L e he hw=>by
  unfold wza
  split
  ·exact hP1 W e he hw
  ·exact hw
 intro q
 induction q with
 | zero=>
  intro k W c xc a p b r L hk hR hp hL;have hkl:k=l.length:=by omega
  subst hkl;refine⟨W,c,xc,a,p,b,r,L,yP ?_,hR,hp,hL⟩;unfold XN;simp
 | succ q ih=>
  intro k W c xc a p b r L hk hR hp hL;have hlt:k < l.length:=by omega
  obtain⟨x,hx⟩:∃ x,l[k]?=some x:=⟨_,List.getElem?_eq_getElem hlt⟩
  obtain⟨oe,oc,hc1,hc2⟩:=hA x (List.mem_of_getElem? hx);have hd:decide ((k:Int) < (l.length:Int))=true:=by simpa using hlt
  have hn:3000*k<=75000:=by omega
  have step:∃ W' c' xc' a' p' b' r' L',XN l ((k:Int),xc,L)=pure (.next (((k+1:Nat):Int),xc',L'))/\Rep (3000*(k+1)) W' c' xc' a' p' b' r' L'/\P W'/\L'.length<=k+1:=by
   unfold XN
   by_cases k0:x.kind=0
   ·obtain⟨cd,c',xc',a,p,b,q,_,e2,hR',_⟩:=hR.putS (by omega) oe;refine⟨_,c',xc',a,p,b,q,_,?_,hR'.mono (by omega),hP3 W L _ oe hp,by have:=yHa W _ hR.srt x.event;omega⟩;simp only[hd,cond_true,zN hx,zA,decide_eq_true k0,e2,zB,yS (show k < 9223372036854775807 by omega)]
   ·by_cases k1:x.kind=1
    ·have hm2:=hR.rmake (by omega) oe;obtain⟨cd,c',xc',a,p,b,q,_,e2,hR',_⟩:=hR.putS (by omega) (uua hR oe);refine⟨_,c',xc',a,p,b,q,_,?_,hR'.mono (by omega),hP3 W L _ (uua hR oe) hp,by have:=yHa W _ hR.srt (uqa W L x.event).1;omega⟩;simp only[hd,cond_true,cond_false,zN hx,zA,decide_eq_false k0,decide_eq_true k1,hm2,e2,zB,yS (show k < 9223372036854775807 by omega)]
    ·by_cases k2:x.kind=2
     ·obtain⟨c',xc',_,e2,hR'⟩:=hR.see (by omega) oc (k:=900) (by omega) hc2 (by omega);refine⟨_,c',xc',_,_,_,_,_,?_,hR'.mono (by omega),hP2 W x (List.mem_of_getElem? hx) hp,by omega⟩;simp only[hd,cond_true,cond_false,zN hx,zA,decide_eq_false k0,decide_eq_false k1,decide_eq_true k2,e2,zB,yS (show k < 9223372036854775807 by omega)]
     ·by_cases k3:x.kind=3
      ·obtain⟨kk,e2,hR'⟩:=hR.rprune (by omega) oc;refine⟨_,_,_,_,_,_,_,_,?_,hR'.mono (by omega),hp,by have:=w2a x.ctx L;omega⟩;simp only[hd,cond_true,cond_false,zN hx,zA,decide_eq_false k0,decide_eq_false k1,decide_eq_false k2,decide_eq_true k3,e2,zB,yS (show k < 9223372036854775807 by omega)]
      ·refine⟨_,_,_,_,_,_,_,_,?_,hR.mono (by omega),hp,by omega⟩;simp only[hd,cond_true,cond_false,zN hx,zA,decide_eq_false k0,decide_eq_false k1,decide_eq_false k2,decide_eq_false k3,yS (show k < 9223372036854775807 by omega)]
  obtain⟨W',c',xc',a',p',b',r',L',e1,hR',hp',hL'⟩:=step;rw[yT e1];exact ih (k+1) W' c' xc' a' p' b' r' L' (by omega) hR' hp' hL'
theorem Do_genR(l:List LA)(hlen:l.length<=25)(hA:∀ a∈l,OkE a.event/\C.Ok a.ctx/\a.ctx.length<=30/\C.vM a.ctx<=900)
  {P:List PT->Prop} (hP0:P []) (hP1:∀ W e,OkE e->P W->P (W++C.yk (yg [e]))) (hP2:∀ W,∀ a∈l,P W->P (W++a.ctx)) :
  ∃ W c xc a p b r L,xaa l=pure ⟨xc,L⟩/\Rep (3000*l.length) W c xc a p b r L/\P W/\L.length<=l.length:=by
 obtain⟨W,c,xc,a,p,b,r,L,e,hR,hp,hL⟩:=do_loopR l hlen hA hP1 hP2 l.length 0 [] [] [] true [] true [] [] (by omega) Rep.new hP0 (by simp);refine⟨W,c,xc,a,p,b,r,L,?_,hR,hp,hL⟩;unfold xaa;rw[show(0:Int)=((0:Nat):Int) from rfl,e,zA]
end
section
variable{n:Nat}{W c xc:List PT}{nl1:Bool}{m1:List (DT×EV)}{nl2:Bool}{m2:List (DT×EV)}{L:List EV}
theorem Rep.since_good(hR:Rep n W c xc nl1 m1 nl2 m2 L)(hl:L.length<=4000)(y:List PT):XY (vq W L y)=true:=by
 have hf:=List.length_filter_le (fun x=>!xr y x) L;unfold XY;rw[Bool.and_eq_true,Bool.and_eq_true,Bool.and_eq_true,Bool.and_eq_true,Bool.and_eq_true];refine⟨?_,?_,?_,?_,?_,?_⟩
 ·exact(C.XU _).2 (C.wi rfl _ _)
 ·exact(C.XU _).2 (C.yf _)
 ·rw[decide_eq_true_eq];refine C.qW fun k n h=>?_
  show C.vA (C.zj W) k n=true;rw[C.yz];have:C.vA (C.opC (·&&·) y W) k n=true:=h;rw[C.uE rfl,Bool.and_eq_true] at this;exact this.2
 ·rw[decide_eq_true_eq];show(L.filter fun x=>!xr y x).length<=4096;omega
 ·refine List.all_eq_true.2 fun z hz=>?_
  have hx:(L.filter fun x=>!xr y x)[z.2]?=some z.1:=List.mem_zipIdx_iff_getElem?.1 hz;have hm:=List.mem_of_getElem? hx;obtain⟨hm1,hm2⟩:=List.mem_filter.1 hm;unfold bad1;rw[(hR.good _ hm1).1,show ub (vq W L y).events z.2 z.1=false from JV (zf hR.srt _) hx];have h1:C.vA (vq W L y).from_ z.1.dot.dev z.1.dot.n=false:=by
   show C.vA (C.opC (·&&·) y W) _ _=false;rw[C.uE rfl];have:xr y z.1=false:=by simpa using hm2
   have h5:C.vA y z.1.dot.dev z.1.dot.n=false:=this;rw[h5,Bool.false_and]
  rw[h1]
  by_cases hk:z.1.kind=1
  ·have:uZ (vq W L y).events z.1.dot=false:=by
    rw[<- Bool.not_eq_true,WM];rintro⟨q,hq,hc⟩;have h8:=hR.alive _ hm1 hk;rw[<- Bool.not_eq_true,WM] at h8;exact h8 ⟨q,(List.mem_filter.1 hq).1,hc⟩
   rw[this];simp
  ·simp[hk]
 ·rw[decide_eq_true_eq];unfold Ww;rw[List.filter_eq_nil_iff.2 fun d hd=>?_]
  ·rfl
  ·have:d∈yc (L.filter fun x=>!xr y x):=D.Yq.1 hd;obtain⟨q,hq,h4⟩:=wV.1 this;show ¬ (!C.vA (C.zj W) d.dev d.n)=true;rw[C.yz,hR.dots d (wV.2 ⟨q,(List.mem_filter.1 hq).1,h4⟩)];simp
end
theorem uya(d:DL):w1a d ([]++d.from_)=true:=by
 unfold w1a;rw[decide_eq_true_eq,List.nil_append];exact C.qW fun k n h=>h
theorem xBa{y:List PT}(hy:C.Ok y):va y=pure ⟨C.opC (·&&·) y [],[],[]⟩:=by
 unfold va;rw[show vz=pure [] from rfl,zB,zA,C.uOa _ _ hy.sm C.ok_nil.sm,zB,zA,show uA=pure [] from rfl,zB,zA,JW [] hy (Nat.zero_le _),zB,zA]
 rfl
end Go.Ep.M.G
namespace Go.Ep.M.G
open Go Go.Proofs
open E (OkE xJ uV)
open F (Zc yc yg uZ XY OkD)
theorem smC{c:List PT}(h:C.Ok c):SmC c:=⟨by have:=h.len;omega,fun p hp=>by have:=C.z5a p hp;have:=h.tot;omega⟩
theorem smD{d:DL}(h:OkD d):SmD d:=⟨smC h.from_,smC h.to_,by have:=h.len;omega,fun e he=>by have:=h.kills e he;omega⟩
theorem xCa(l:List LA)(y:List PT)(hi:∀ a∈l,InA a)(hy:∀ p∈y,0<=p.dev):(uk l y).wp (·=true):=by
 unfold uk;have ha:=rFewA_eq l 20 (by omega);rw[show((20:Nat):Int)=20 from rfl] at ha;rw[ha,zB,zA,uxa]
 cases h1:fewA l 20 with
 | false=>
  rw[if_neg (by simp),show decide ((0:Int)=0)=true by decide,cond_true,zA,cond_true,zB,zA];exact rfl
 | true=>
  rw[if_pos rfl,show decide ((1:Int)=0)=false by decide,cond_false,C.Qo,zB,zA]
  cases h2:(decide (y.length<=30)&&y.all fun p=>decide (p.runs.length<=30)) with
  | false=>
   rw[Bool.not_false,zA,cond_true,zB,zA];exact rfl
  | true=>
   obtain⟨hlen,hA⟩:=fewA_mem h1 hi;have hyt:=C.uPa h2;have hyo:=C.ok_few hy hyt;obtain⟨W,c,xc,a,p,b,q,L,e1,hR,_,hL⟩:=Do_genR l (by omega) hA (P:=fun _=>True) trivial (fun _ _ _ _=>trivial) (fun _ _ _ _=>trivial);obtain⟨a2,p2,b2,q2,e2,e3,R2⟩:=hR.again (by omega);have os:=R2.okSince (by omega) (y:=y) (by omega);have hg:=R2.since_good (by omega) y;have hw:=hR.wl;have ht:=hR.wt;have k1:=C.uHa (·&&·) y W;have k2:=C.uJa (op:=(·&&·)) rfl y W;have k3:=C.uR W;have k4:=C.uS W;have k5:(vq W L y).events.length<=20:=by
    have:=List.length_filter_le (fun x=>!xr y x) L;show(L.filter fun x=>!xr y x).length<=20;omega
   obtain⟨c3,x3,e4,_,R3⟩:=Rep.new.see (Nat.zero_le _) os.from_ (k:=200000) (by show(C.opC (·&&·) y W).length<=_;omega) (by show C.vM (C.opC (·&&·) y W)<=_;omega) (by omega);obtain⟨c4,x4,a4,p4,b4,q4,e5,R4⟩:=R3.ApplyP os (j:=200000) ⟨by show(C.zj W).length<=_;omega,by show C.vM (C.zj W)<=_;omega⟩ (by omega);have hk:qa ([]++(vq W L y).from_) (vq W L y)=0:=by
    unfold qa;rw[hg,uya]
    rfl
   rw[hk] at e5;have hss:wAa (vq W L y) (vq W L y)=true:=by unfold wAa;simp
   rw[Bool.not_true,zA,cond_false,e1,zB,zA];show(M.bind (M.det (uH xc)) _:M Bool).wp _;rw[e2,zB,zA];show(M.bind (M.det (xz (C.zj W) L)) _:M Bool).wp _;rw[e3,zB,zA];show(M.bind (M.det (xd y (C.zj W) a2 p2 b2 q2)) _:M Bool).wp _;rw[R2.Since (by omega) hyo,zB,zA,zI (smD os),show vw=pure ([],true,[],true,[]) from rfl,zB,zA];show(M.bind (M.det (yy (vq W L y).from_ [] true [] true [])) _:M Bool).wp _;rw[e4,zB,zA];show(M.bind (M.det (yj (vq W L y) c3 true [] true [])) _:M Bool).wp _;rw[e5,zB,zA];refine R4.copy (by omega) fun a6 p6 b6 q6 R6=>?_
   have hsm:=R4.Same (by omega) R6 (by omega);rw[decide_eq_true rfl,decide_eq_true rfl] at hsm;have hsm2:vy c4 (C.zj (XZ ([]++(vq W L y).from_,[]) (vq W L y)).1) a4 p4 b4 q4 a6 p6 b6 q6=pure true:=hsm;show(M.bind (cond (decide ((0:Int)=0)) _ _) _:M Bool).wp _;simp only[decide_true,cond_true,R2.rSince (by omega) hyo,zBa os os,hss,zB,zA,R2.Is (by omega),hsm2,show ZJ (vq W L y)=pure 1 from rfl,xBa hyo,uxa,List.length_nil,show decide (((0:Nat):Int)=0)=true from rfl];exact rfl
end Go.Ep.M.G
namespace Go.Ep
open Go.RowKit Go.ChangeShapes Go.WideShapes
abbrev All : Nat->Prop:=fun _=>True
mutual
def qb{H:Type}:DataW H->Nat
 | .lit (.string bytes)=>bytes.length+1
 | .lit _=>1
 | .nil=>1
 | .ptr d=>qb d+1
 | .slice elems spare=>uF elems+uF spare+1
 | .agg parts=>uF parts+1
 | .iface _ d=>qb d+1
 | .map entries=>JX entries+1
 | .held _=>1
def uF{H:Type}:List (DataW H)->Nat
 | []=>0
 | d::r=>qb d+uF r
def JX{H:Type}:List (Lit×DataW H)->Nat
 | []=>0
 | x::r=>uza x+JX r
def uza{H:Type}:Lit×DataW H->Nat
 | (.string bytes,d)=>bytes.length+qb d+1
 | (_,d)=>qb d+1
end
theorem wBa{H:Type}(d:DataW H):1<=qb d:=by
 cases d with
 | lit l=>cases l <;> simp[qb]
 | nil=>simp[qb]
 | ptr d=>simp[qb]
 | slice elems spare=>simp[qb]
 | agg parts=>simp[qb]
 | iface t d=>simp[qb]
 | map entries=>simp[qb]
 | held h=>simp[qb]
theorem xDa{H:Type}(l r:List (DataW H)):uF (l++r)=uF l+uF r:=by
 induction l with
 | nil=>simp[uF]
 | cons x l ih=>simp only[List.cons_append,uF,ih];omega
def szL{α:Type}(sz:α->Nat):List α->Nat
 | []=>0
 | a::r=>sz a+szL sz r
theorem szL_app{α:Type}(sz:α->Nat)(l r:List α):szL sz (l++r)=szL sz l+szL sz r:=by
 induction l with
 | nil=>simp[szL]
 | cons x l ih=>simp only[List.cons_append,szL,ih];omega
structure Opn(P:Program)(t:TypeId)(k:Nat){α:Type}(enc:α->List DV)(ok:α->Prop)(sz:α->Nat):Prop where
 cells:P.cellsOf t=k
 op:∀ {H:Type} {en:TypeId×Value->H} {w:World} {fuel:Nat} {cs:List Value} {x:DataW H×List MemPlace},DataW.trod en P w 0 (fun _=>true) true fuel t cs=some x ->
  ∃ a,ok a/\cs.length=k/\(enc a).length=k/\(∀ (j:Nat) (y:DV) (u:Value),(enc a)[j]?=some y->cs[j]?=some u->DRd w All y u)/\sz a<=qb x.1
section
variable{P:Program}{t:TypeId}
theorem Opn.map{k:Nat}{α β:Type}{enc:α->List DV}{enc':β->List DV}{ok:α->Prop}{ok':β->Prop}{sz:α->Nat}{sz':β->Nat}(h:Opn P t k enc ok sz)(f:α->β)(he:∀ a,ok a->enc' (f a)=enc a)(ho:∀ a,ok a->ok' (f a))(hz:∀ a,sz' (f a)<=sz a):Opn P t k enc' ok' sz':=
 ⟨h.cells,fun hx=>let ⟨a,h1,h2,h3,h4,h5⟩:=h.op hx;⟨f a,ho a h1,h2,by rw[he a h1];exact h3,by rw[he a h1];exact h4,Nat.le_trans (hz a) h5⟩⟩
theorem zCa{w:World}{y:DV}{u:Value}(h:DRd w All y u):∀ (j:Nat) (y':DV) (u':Value),[y][j]?=some y'->[u][j]?=some u'->DRd w All y' u':=by
 intro j y' u' h1 h2
 cases j with
 | zero=>simp at h1 h2;subst h1;subst h2;exact h
 | succ j=>simp at h1
def okK(k:IntKind)(n:Int):Prop:=(Lit.int k n).wf=true
theorem Opn.int{k:IntKind}(hu:P.underlying t=some (.int k))(hc:P.cellsOf t=1):Opn P t 1 (eK k) (okK k) (fun _=>1):=by
 refine⟨hc,fun {H en w fuel cs x} h=>?_⟩
 cases fuel with
 | zero=>simp[DataW.trod] at h
 | succ fuel=>
  unfold DataW.trod at h;rw[hu] at h
  split at h <;> simp_all
  case h_2 n _=>
   obtain⟨⟨h1,h2⟩,_⟩:=h;subst h1;refine⟨n,h2,rfl,?_,wBa _⟩;intro j y u h1 h3;exact zCa (.v _ rfl) j y u h1 h3
theorem okU64{n:Int}(h:okK .u64 n):0<=n/\n < 18446744073709551616:=by
 simp[okK,Lit.wf,IntKind.min,IntKind.max,IntKind.signed,IntKind.bits] at h;omega
theorem okU16{n:Int}(h:okK .u16 n):0<=n/\n < 65536:=by
 simp[okK,Lit.wf,IntKind.min,IntKind.max,IntKind.signed,IntKind.bits] at h;omega
theorem okU8{n:Int}(h:okK .u8 n):0<=n/\n < 256:=by
 simp[okK,Lit.wf,IntKind.min,IntKind.max,IntKind.signed,IntKind.bits] at h;omega
theorem Opn.str(hu:P.underlying t=some .string)(hc:P.cellsOf t=1):Opn P t 1 eS (fun s=>s.size<=9223372036854775807) (fun s=>s.size+1):=by
 refine⟨hc,fun {H en w fuel cs x} h=>?_⟩
 cases fuel with
 | zero=>simp[DataW.trod] at h
 | succ fuel=>
  unfold DataW.trod at h;rw[hu] at h
  split at h <;> simp_all
  case h_4=>
   rename_i s
   obtain⟨h1,h2⟩:=h;refine⟨s,by have:=h1;unfold maxLen at this;exact this,rfl,?_,?_⟩
   ·intro j y u h1 h2;exact zCa (.v _ rfl) j y u h1 h2
   ·subst h2;have e:s.data.toList.length=s.size:=Array.length_toList;show s.size+1<=qb (DataW.lit (Lit.string s.data.toList));unfold qb;omega
theorem Opn.slice{e:TypeId}{k:Nat}{α:Type}{enc:α->List DV}{ok:α->Prop}{sz:α->Nat}(h:Opn P e k enc ok sz)(hu:P.underlying t=some (.slice e))(hc:P.cellsOf t=1)(hk:0 < k) :
  Opn P t 1 (eL enc) (fun l=>l.length<=9223372036854775807/\∀ a∈l,ok a) (fun l=>szL sz l+1):=by
 refine⟨hc,fun {H en w fuel cs x} hx=>?_⟩;rcases Deep.open_slice hu hx with⟨rfl,_⟩ | ⟨a,len,cap,m,n,D,Pl,rfl,_,hl,hm,hmm,hxD,hel⟩
 ·exact⟨[],⟨Nat.zero_le _,by simp⟩,rfl,rfl,zCa (.nil none 0 (Nat.zero_le _) (fun _=>rfl)),wBa _⟩
 simp only[if_true] at hmm;subst hmm;rw[h.cells] at hel;have hcut:∀ n0,n0<=len->∃ l:List α,l.length=n0/\(∀ a∈l,ok a)/\szL sz l<=uF ((List.range n0).map D)/\∀ (i:Nat) (b:α),l[i]?=some b->(enc b).length=k/\∀ (j:Nat) (y:DV),(enc b)[j]?=some y->∃ u,w.cell? (a.add (i*k+j))=some u/\DRd w All y u:=by
  intro n0
  induction n0 with
  | zero=>intro _;exact⟨[],rfl,by simp,by simp[szL],by simp⟩
  | succ n0 ih=>
   intro hn;obtain⟨l,h1,h2,hz,h3⟩:=ih (by omega);obtain⟨cs',hc',ht'⟩:=hel n0 (by omega);obtain⟨b,hb1,hb2,hb3,hb4,hb5⟩:=h.op ht';obtain⟨_,_,hcell⟩:=World.cells?_some hc';refine⟨l++[b],by simp[h1],?_,by rw[szL_app,List.range_succ,List.map_append,xDa];simp only[szL,List.map_cons,List.map_nil,uF];simp only at hb5;omega,?_⟩
   ·intro a ha;rcases List.mem_append.1 ha with ha | ha
    ·exact h2 a ha
    ·simp at ha;subst ha;exact hb1
   ·intro i b' hi;rw[List.getElem?_append] at hi
    split at hi
    ·exact h3 i b' hi
    ·rename_i hge
     have hi0:i=n0:=by
      have:i - l.length < 1:=by simpa using (List.getElem?_eq_some_iff.1 hi).1
      omega
     subst hi0;simp[h1] at hi;subst hi;refine⟨hb3,fun j y hy=>?_⟩;have hj:j < k:=by rw[<- hb3];exact(List.getElem?_eq_some_iff.1 hy).1
     have hcj:=hcell j hj;rw[Deep.add_add] at hcj;have hu':cs'[j]?=some (cs'[j]'(by omega)):=List.getElem?_eq_getElem (by omega);exact⟨_,by rw[hcj,hu'],hb4 j y _ hy hu'⟩
 obtain⟨l,h1,h2,hz,h3⟩:=hcut len (Nat.le_refl _);refine⟨l,⟨by unfold maxLen at hm;omega,h2⟩,rfl,rfl,zCa ?_,?_⟩
 rotate_left
 ·rw[hxD];simp only[qb];omega
 by_cases h0:len=0
 ·have:l=[]:=List.eq_nil_of_length_eq_zero (by omega);subst this;subst h0;exact .nil _ _ hm (fun e=>by cases e)
 ·-- the first cell tells that the address is a plain one
  have hl0:0 < l.length:=by omega
  obtain⟨hk0,hc0⟩:=h3 0 _ (List.getElem?_eq_getElem hl0);obtain⟨u0,hu0,_⟩:=hc0 0 _ (List.getElem?_eq_getElem (by omega:0 < (enc l[0]).length));have hspot:a.spot=none:=by simpa[Addr.add] using World.cell?_spot hu0
  obtain⟨b,off,spot⟩:=a;simp only at hspot;subst hspot;have hb:b < w.heap.size:=by
   rw[Addr.add_lit] at hu0;unfold World.cell? at hu0
   cases hh:w.heap[b]? with
   | none=>simp[hh] at hu0
   | some o=>exact(Array.getElem?_eq_some_iff.1 hh).1
  have hlen:(l.map enc).length=len:=by simp[h1]
  rw[<- hlen];refine .sl _ b off m k (fun i j=>(w.cell? ⟨b,off+(i*k+j),none⟩).getD undef) (by omega) hm trivial hb ?_ ?_ ?_
  ·intro i cs hi;rw[List.getElem?_map] at hi
   cases hx:l[i]? with
   | none=>simp[hx] at hi
   | some y=>simp[hx] at hi;subst hi;exact(h3 i y hx).1
  ·intro i j hi hj;have hil:i < l.length:=by simpa using hi
   obtain⟨e1,e2⟩:=h3 i _ (List.getElem?_eq_getElem hil);obtain⟨u,hu,_⟩:=e2 j _ (List.getElem?_eq_getElem (by omega:j < (enc l[i]).length));rw[Addr.add_lit] at hu;simp[hu]
  ·intro i cs j x hi hx;rw[List.getElem?_map] at hi
   cases hy:l[i]? with
   | none=>simp[hy] at hi
   | some y=>
    simp[hy] at hi;subst hi;obtain⟨u,hu,hd⟩:=(h3 i y hy).2 j x hx;rw[Addr.add_lit] at hu;simpa[hu] using hd
structure OpnF(P:Program)(fs:List Field)(off k:Nat){α:Type}(enc:α->List DV)(ok:α->Prop)(sz:α->Nat):Prop where
 op:∀ {H:Type} {en:TypeId×Value->H} {w:World} {n:Nat} {cs:List Value} {xs:List (DataW H×List MemPlace)},xs.length=fs.length ->
  (∀ (i:Nat) (f:Field),fs[i]?=some f->DataW.trod en P w 0 (fun _=>true) true n f.type ((cs.drop f.offset).take (P.cellsOf f.type))=xs[i]?) ->
  ∃ a,ok a/\(enc a).length=k/\(∀ (j:Nat) (y:DV) (u:Value),(enc a)[j]?=some y->cs[off+j]?=some u->DRd w All y u)/\sz a<=uF (xs.map (·.1))
theorem OpnF.nil(off:Nat):OpnF P [] off 0 (fun _:Unit=>[]) (fun _=>True) (fun _=>0):=⟨fun _ _=>⟨(),trivial,rfl,by simp,Nat.zero_le _⟩⟩
theorem OpnF.cons{f:Field}{fs:List Field}{off k1 k2:Nat}{α β:Type}{e1:α->List DV}{o1:α->Prop}{e2:β->List DV}{o2:β->Prop}{z1:α->Nat}{z2:β->Nat}(h1:Opn P f.type k1 e1 o1 z1)(ho:f.offset=off)(h2:OpnF P fs (off+k1) k2 e2 o2 z2) :
  OpnF P (f::fs) off (k1+k2) (fun p:α×β=>e1 p.1++e2 p.2) (fun p=>o1 p.1/\o2 p.2) (fun p=>z1 p.1+z2 p.2):=by
 refine⟨fun {H en w n cs xs} hlen hx=>?_⟩
 cases xs with
 | nil=>simp at hlen
 | cons x xs=>
  have hx0:=hx 0 f rfl;simp only[List.getElem?_cons_zero] at hx0;obtain⟨a,ha1,ha2,ha3,ha4,ha5⟩:=h1.op hx0;obtain⟨b,hb1,hb2,hb3,hb4⟩:=h2.op (xs:=xs) (by simpa using hlen) (fun i f' hf=>by have:=hx (i+1) f' (by simpa using hf);simpa using this);refine⟨(a,b),⟨ha1,hb1⟩,by simp[ha3,hb2],?_,by simp only[List.map_cons,uF];omega⟩;intro j y u hy hu;simp only[List.getElem?_append] at hy
  by_cases hj:j < k1
  ·rw[if_pos (by omega)] at hy;refine ha4 j y u hy ?_;rw[List.getElem?_take,h1.cells,if_pos hj,List.getElem?_drop,ho];exact hu
  ·rw[if_neg (by omega),ha3] at hy;refine hb3 (j - k1) y u hy ?_;rw[<- hu]
   congr 1
   omega
theorem Opn.struct{fs:List Field}{k:Nat}{α:Type}{enc:α->List DV}{ok:α->Prop}{sz:α->Nat}(hu:P.underlying t=some (.struct fs.toArray))(hc:P.cellsOf t=k)(h:OpnF P fs 0 k enc ok sz):Opn P t k enc ok (fun a=>sz a+1):=by
 refine⟨hc,fun {H en w fuel cs x} hx=>?_⟩;obtain⟨xs,n,_,hxe,hlen,hxl,hf⟩:=DataW.trod_struct hu hx;obtain⟨a,h1,h2,h3,h4⟩:=h.op (cs:=cs) (xs:=xs) (by simpa using hxl) (fun i f hi=>hf i f (by simpa using hi));exact⟨a,h1,by rw[hlen,hc],h2,fun j y u hy hu=>h3 j y u hy (by simpa using hu),by rw[hxe];simp only[qb];omega⟩
theorem Opn.arg{H:Type}{en:TypeId×Value->H}{w:World}{v:Value}{d:DataW H}{ps:List MemPlace}{α:Type}{enc:α->DV}{ok:α->Prop}{sz:α->Nat}(h:Opn P t 1 (fun a=>[enc a]) ok sz)
  (hx:DataW.Trod en P w 0 (fun _=>true) true t v d ps) (h1:v.oneCell'=true):∃ a,ok a/\Rd w g0 All (.d (enc a)) v/\sz a<=qb d:=by
 obtain⟨fuel,hf⟩:=hx;obtain⟨a,ha,_,_,hr,hz⟩:=h.op hf;have hcs:v.cells.toList=[v]:=by cases v <;> first | rfl | (simp[Value.oneCell'] at h1;done)
 exact⟨a,ha,.d (hr 0 _ v rfl (by rw[hcs];rfl)),hz⟩
theorem Vy{H:Type}{en:TypeId×Value->H}(hl:laidOutB P=true){W W':World}(hb:Below W.heap.size W W'):∀ {ts:List TypeId} {vs:List Value} {ds:List (DataW H)} {ps:List MemPlace},
  (∀ t∈ts,P.readableRec t=true/\t < P.types.size)->DataW.TrodAll en P W 0 (fun _=>true) true ts vs ds ps->(∀ x∈ps,x.block < W.heap.size)->DataW.TrodAll en P W' 0 (fun b=>decide (b < W.heap.size)) true ts vs ds ps
 | [],[],[],ps,_,h,_=>h
 | t::ts,v::vs,d::ds,ps,hr,h,hlt=>by
  obtain⟨p,q,h1,h2,rfl⟩:=h;have hrt:=hr t (by simp);exact⟨p,q,Below.trod hl hrt.1 hrt.2 h1 hb (fun x hx=>hlt x (List.mem_append.2 (.inl hx))),Vy hl hb (fun t ht=>hr t (by simp[ht])) h2 (fun x hx=>hlt x (List.mem_append.2 (.inr hx))),rfl⟩
 | [],[],_::_,_,_,h,_=>h.elim
 | [],_::_,_,_,_,h,_=>h.elim
 | _::_,[],_,_,_,h,_=>h.elim
 | _::_,_::_,[],_,_,h,_=>h.elim
theorem JY{H:Type}{en:TypeId×Value->H}{w:World}{base:Nat}{sp:Nat->Bool}{hd:Bool}:∀ {ts:List TypeId} {vs:List Value} {ds:List (DataW H)} {ps:List MemPlace},DataW.TrodAll en P w base sp hd ts vs ds ps->ds.length=ts.length
 | [],[],[],_,_=>rfl
 | _::_,_::_,_::_,_,h=>by
  obtain⟨_,_,_,h2,_⟩:=h;simp[JY h2]
 | [],[],_::_,_,h=>h.elim
 | [],_::_,_,_,h=>h.elim
 | _::_,[],_,_,h=>h.elim
 | _::_,_::_,[],_,h=>h.elim
theorem u0a{H:Type}{en:TypeId×Value->H}{fn:Func}{s:ChangeSpec}{tb:TypeId}{W W':World}{args:Array Value}{ds gs:List (DataW H)}{before:List MemPlace}(hl:laidOutB P=true)
  (hW:DataW.Whole en P fn.params.toList s.vars false W args.toList ds gs before) (hv:s.vars=[]) (hs:∀ ds:List (DataW H),ds.length=fn.params.size->(s.fn H ds).results=[.lit (.bool true)]/\(s.fn H ds).args=ds/\(s.fn H ds).vars=[])
  (hres:fn.resultTypes=#[tb]) (htb:P.underlying tb=some .bool) (hr:∀ t∈fn.params.toList,P.readableRec t=true/\t < P.types.size) (hb:Below W.heap.size W W') :
  s.post en P fn false true false false W args (.bool true) W':=by
 have hW':=hW;obtain⟨p,q,hA,hV,hpq,hfz,hnd⟩:=hW;rw[hv] at hV;obtain⟨rfl,rfl⟩:=trodVars_none hV;simp only[List.append_nil] at hpq;subst hpq;have hlt:∀ x∈before,x.block < W.heap.size:=fun x hx=>by simpa using hW'.lt x hx
 have hlen:ds.length=fn.params.size:=by simpa using JY hA
 obtain⟨e1,e2,e3⟩:=hs (ds++[]) (by simpa using hlen);refine⟨ds,[],before,[],before,[],hW',?_,?_,?_,hb.frame _,fun h=>by cases h⟩
 ·rw[e1,hres];exact trodAll_mk1 (shut_bool htb true)
 ·rw[e2,List.append_nil];exact Vy hl hb hr hA hlt
 ·rw[e3,hv];rfl
end
end Go.Ep
namespace Go.Ep
set_option linter.unusedVariables false
def DT.ok(x:DT):Prop:=okK .u16 x.dev/\okK .u64 x.n
def DT.sz(x:DT):Nat:=(1+(1+0))+1
def RN.ok(x:RN):Prop:=okK .u64 x.lo/\okK .u64 x.hi
def RN.sz(x:RN):Nat:=(1+(1+0))+1
def PT.ok(x:PT):Prop:=okK .u16 x.dev/\(x.runs.length<=9223372036854775807/\∀ a∈x.runs,RN.ok a)
def PT.sz(x:PT):Nat:=(1+((szL RN.sz x.runs+1)+0))+1
def EV.ok(x:EV):Prop:=DT.ok x.dot/\okK .u8 x.kind/\okK .u64 x.cid/\okK .u8 x.field/\ByteArray.size x.text<=9223372036854775807/\(x.kills.length<=9223372036854775807/\∀ a∈x.kills,DT.ok a)
def EV.sz(x:EV):Nat:=(DT.sz x.dot+(1+(1+(1+((ByteArray.size x.text+1)+((szL DT.sz x.kills+1)+0))))))+1
def LA.ok(x:LA):Prop:=okK .u8 x.kind/\EV.ok x.event/\(x.ctx.length<=9223372036854775807/\∀ a∈x.ctx,PT.ok a)
def LA.sz(x:LA):Nat:=(1+(EV.sz x.event+((szL PT.sz x.ctx+1)+0)))+1
end Go.Ep
namespace Go.Proofs
open Go.Ep
set_option maxRecDepth 100000
theorem opnTDot : Opn Tryz.prog 54 2 DT.e DT.ok DT.sz:=(Opn.struct Tryz.underlying54 (by kernel_rfl) (OpnF.cons (Opn.int Tryz.underlying51 (by kernel_rfl)) rfl (OpnF.cons (Opn.int Tryz.underlying52 (by kernel_rfl)) rfl (OpnF.nil _)))).map (fun p=>⟨p.1,p.2.1⟩) (fun _ _=>rfl) (fun p h=>⟨h.1,h.2.1⟩) (fun _=>Nat.le_refl _)
theorem opnTRun : Opn Tryz.prog 90 2 RN.e RN.ok RN.sz:=(Opn.struct Tryz.underlying90 (by kernel_rfl) (OpnF.cons (Opn.int Tryz.underlying52 (by kernel_rfl)) rfl (OpnF.cons (Opn.int Tryz.underlying52 (by kernel_rfl)) rfl (OpnF.nil _)))).map (fun p=>⟨p.1,p.2.1⟩) (fun _ _=>rfl) (fun p h=>⟨h.1,h.2.1⟩) (fun _=>Nat.le_refl _)
theorem opnTPart : Opn Tryz.prog 62 2 PT.e PT.ok PT.sz:=(Opn.struct Tryz.underlying62 (by kernel_rfl) (OpnF.cons (Opn.int Tryz.underlying51 (by kernel_rfl)) rfl (OpnF.cons (opnTRun.slice Tryz.underlying60 (by kernel_rfl) (by decide)) rfl (OpnF.nil _)))).map (fun p=>⟨p.1,p.2.1⟩) (fun _ _=>rfl) (fun p h=>⟨h.1,h.2.1⟩) (fun _=>Nat.le_refl _)
theorem u1a : Opn Tryz.prog 57 7 EV.e EV.ok EV.sz:=(Opn.struct Tryz.underlying57 (by kernel_rfl) (OpnF.cons opnTDot rfl (OpnF.cons (Opn.int Tryz.underlying5 (by kernel_rfl)) rfl (OpnF.cons (Opn.int Tryz.underlying52 (by kernel_rfl)) rfl (OpnF.cons (Opn.int Tryz.underlying5 (by kernel_rfl)) rfl (OpnF.cons (Opn.str Tryz.underlying9 (by kernel_rfl)) rfl (OpnF.cons (opnTDot.slice Tryz.underlying55 (by kernel_rfl) (by decide)) rfl (OpnF.nil _)))))))).map (fun p=>⟨p.1,p.2.1,p.2.2.1,p.2.2.2.1,p.2.2.2.2.1,p.2.2.2.2.2.1⟩) (fun _ _=>rfl) (fun p h=>⟨h.1,h.2.1,h.2.2.1,h.2.2.2.1,h.2.2.2.2.1,h.2.2.2.2.2.1⟩) (fun _=>Nat.le_refl _)
theorem opnL18Act : Opn Tryz.prog 59 9 LA.e LA.ok LA.sz:=(Opn.struct Tryz.underlying59 (by kernel_rfl) (OpnF.cons (Opn.int Tryz.underlying5 (by kernel_rfl)) rfl (OpnF.cons u1a rfl (OpnF.cons (opnTPart.slice Tryz.underlying24 (by kernel_rfl) (by decide)) rfl (OpnF.nil _))))).map (fun p=>⟨p.1,p.2.1,p.2.2.1⟩) (fun _ _=>rfl) (fun p h=>⟨h.1,h.2.1,h.2.2.1⟩) (fun _=>Nat.le_refl _)
end Go.Proofs
