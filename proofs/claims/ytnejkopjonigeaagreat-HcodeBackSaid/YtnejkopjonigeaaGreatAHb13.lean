/- Side texts. -/
import Derived.ProofKit
import Derived.Deep.Slices
import Derived.Test.YtnejkopjonigeaaGreatProg
import Derived.KernelRfl
import Derived.Test.YtnejkopjonigeaaGreatAHb2
import Derived.Test.YtnejkopjonigeaaGreatAHb4
import Derived.Test.YtnejkopjonigeaaGreatAHb10
import Derived.Test.YtnejkopjonigeaaGreatAHb11
import Derived.Test.YtnejkopjonigeaaGreatAHb12
set_option linter.unusedVariables false
set_option linter.unusedSimpArgs false
namespace Go.Ep.M.G
open Go
open E (OkE yH vv)
open F (Wa yF vD)
theorem yka : ∀ {l l':List EV},vv l->vv l'->(∀ d,d∈l↔d∈l')->l=l'
 | [],[],_,_,_=>rfl
 | [],y::r,_,_,h=>by have:=(h y).2 (by simp);simp at this
 | x::r,[],_,_,h=>by have:=(h x).1 (by simp);simp at this
 | x::r,y::t,h1,h2,h=>by
  have hx:=(h x).1 (by simp);have hy:=(h y).2 (by simp);have e:x=y:=by
   rcases List.mem_cons.1 hx with e | hx
   ·exact e
   ·rcases List.mem_cons.1 hy with e | hy
    ·exact e.symm
    ·have a1:=(List.pairwise_cons.1 h2).1 x hx;have a2:=(List.pairwise_cons.1 h1).1 y hy;rw[D.Wr a1] at a2;cases a2
  subst e
  congr 1
  refine yka (List.pairwise_cons.1 h1).2 (List.pairwise_cons.1 h2).2 fun d=>?_
  have h3:=h d;simp only[List.mem_cons] at h3
  constructor
  ·intro hd;rcases h3.1 (.inr hd) with e | h4
   ·have:=(List.pairwise_cons.1 h1).1 d hd;rw[e,D.VG] at this;cases this
   ·exact h4
  ·intro hd;rcases h3.2 (.inr hd) with e | h4
   ·have:=(List.pairwise_cons.1 h2).1 d hd;rw[e,D.VG] at this;cases this
   ·exact h4
theorem QS{l:List EV}(h:vv l):(l.map (·.dot)).Nodup:=by
 unfold List.Nodup;rw[List.pairwise_map];exact h.imp fun {a b} h e=>by rw[e,D.VG] at h;cases h
theorem YB{l:List EV}(h:vv l)(p:EV->Bool):vv (l.filter p):=h.sublist List.filter_sublist
theorem srtE_of{s:List EV}(hn:(s.map (·.dot)).Nodup)(h:s.Pairwise fun x y=>Xi y x=false):vv s:=by
 unfold List.Nodup at hn;rw[List.pairwise_map] at hn;refine(hn.and h).imp fun {a b} ⟨h1,h2⟩=>?_
 cases h3:zn a.dot b.dot with
 | true=>rfl
 | false=>exact absurd (D.QC h3 h2) h1
theorem srt_wpE{l:List EV}{Q:List EV->Prop}(h:∀ s,s.Perm l->(s.Pairwise fun x y=>Xi y x=false)->Q s):(srt Xi l).wp Q:=by
 refine⟨⟨l.mergeSort (fun x y=>!zn y.dot x.dot),List.mergeSort_perm _ _,?_⟩,fun s ⟨h1,h2⟩=>h s h1 h2⟩;refine(List.pairwise_mergeSort (fun a b c h1 h2=>?_) (fun a b=>?_) l).imp fun {x y} h=>by show zn y.dot x.dot=false;simpa using h
 ·simp only[Bool.not_eq_true'] at h1 h2 ⊢
  cases h3:zn c.dot a.dot with
  | false=>rfl
  | true=>
   rw[D.VF] at h3;have h4:¬ (zn b.dot a.dot=true):=by simp[h1]
   have h5:¬ (zn c.dot b.dot=true):=by simp[h2]
   rw[D.VF] at h4 h5;omega
 ·cases h1:zn b.dot a.dot with
  | false=>rfl
  | true=>rw[D.Wr h1];rfl
def ent(e:EV):DT×EV:=(e.dot,e)
theorem zHa{a b:EV}(h:ent a=ent b):a=b:=(Prod.mk.inj h).2
theorem UM{l:List EV}{k:DT×EV}:k∈l.map ent↔k.2∈l/\k.1=k.2.dot:=by
 rw[List.mem_map]
 constructor
 ·rintro⟨e,h,rfl⟩;exact⟨h,rfl⟩
 ·rintro⟨h1,h2⟩;exact⟨k.2,h1,by unfold ent;rw[<- h2]⟩
def Holds(m:List (DT×EV))(l:List EV):Prop:=m.Perm (l.map ent)
theorem Holds.keys{m:List (DT×EV)}{l:List EV}(h:Holds m l)(hs:vv l):(m.map (·.1)).Nodup:=by
 have h1:=h.map (·.1);rw[List.map_map] at h1;exact h1.nodup_iff.2 (QS hs)
theorem Holds.mem{m:List (DT×EV)}{l:List EV}(h:Holds m l){k:DT×EV}:k∈m↔k.2∈l/\k.1=k.2.dot:=by rw[h.mem_iff,UM]
theorem Holds.len{m:List (DT×EV)}{l:List EV}(h:Holds m l):m.length=l.length:=by rw[h.length_eq,List.length_map]
theorem UN{l:List EV}(h:vv l):(l.map ent).Nodup:=by
 unfold List.Nodup;rw[List.pairwise_map];exact h.imp fun {a b} h e=>by rw[zHa e,D.VG] at h;cases h
theorem JL{m:List (DT×EV)}{l:List EV}(hn:(m.map (·.1)).Nodup)(hs:vv l)(h:∀ k,k∈m↔k.2∈l/\k.1=k.2.dot):Holds m l:=by
 have hm:m.Nodup:=by
  unfold List.Nodup at hn ⊢;rw[List.pairwise_map] at hn;exact hn.imp fun {a b} h e=>h (by rw[e])
 exact(List.perm_ext_iff_of_nodup hm (UN hs)).2 fun k=>by rw[h,UM]
theorem zda(e:EV)(h:e.kills.length<=1000000000000):xM e=pure e:=by
 unfold xM;rw[D.WN e.kills h,zB,zA]
theorem QT{body:List Nat×List EV->M (Step (List Nat×List EV) (List EV))}(m:List (DT×EV))(hb:body=fun⟨seen,out⟩=>yb (∀ i∈seen,i < m.length)<|M.bind (nxt m.length seen) fun o=>match o with
  | none=>pure (.done out)
  | some j=>M.bind (idx m (Int.ofNat j)) fun kv=>M.bind (det (xM kv.2)) fun v=>yb ((out.length+List.length [v])*80<=140737488355328)<|pure (.next (seen++[j],out++[v])))
  (hl:m.length<=500000000000) (hk:∀ k∈m,k.2.kills.length<=1000000000000) (t0:List EV) (h0:t0.length<=500000000000) {Q:List EV->Prop} (hQ:∀ l:List (DT×EV),l.Perm m->Q (t0++l.map (·.2))):(loop body ([],t0)).wp Q:=by
 refine M.loopM (body:=body) m (fun L (t:List EV)=>(L,t)) (fun t e=>(xM e.2).det.bind fun v=>yb ((t.length+1)*80<=140737488355328) (pure (t++[v]))) (fun t=>pure t)
  (fun l t=>t=t0++l.map (·.2)) Q (fun L t hL=>?_) (fun l t y ht hlen hy=>?_) (fun l t hp ht=>?_) t0 (by simp)
 ·subst hb;show yb _ ((nxt _ _).bind _)=yb _ ((nxt _ _).bind _);refine congrArg (fun k=>yb _ ((nxt _ _).bind k)) (funext fun o=>?_)
  cases o with
  | none=>rfl
  | some i=>rfl
 ·rw[zda y.2 (hk y hy),zB,zA];subst ht;exact⟨_,zF (by simp;omega) _,by simp⟩
 ·subst ht;exact hQ l hp
theorem list2_eq{nl1 nl2:Bool}{m1 m2:List (DT×EV)}{l l1 l2:List EV}(h1:Holds m1 l1)(h2:Holds m2 l2)(hp:(l1++l2).Perm l)(hs:vv l)(hl:l.length<=200000000000)(hk:∀ e∈l,e.kills.length<=1000000000000):ZD nl1 m1 nl2 m2=pure l:=by
 have hll:=hp.length_eq;rw[List.length_append] at hll;have hk1:∀ k∈m1,k.2.kills.length<=1000000000000:=fun k h=>hk _ (hp.mem_iff.1 (List.mem_append_left _ (h1.mem.1 h).1))
 have hk2:∀ k∈m2,k.2.kills.length<=1000000000000:=fun k h=>hk _ (hp.mem_iff.1 (List.mem_append_right _ (h2.mem.1 h).1))
 unfold ZD;refine uU (QT (body:=YX m1) m1 rfl (by rw[h1.len];omega) hk1 [] (by simp) fun q hq=>?_);have hq1:(q.map (·.2)).Perm l1:=by
  have:=(hq.trans h1).map (·.2);rw[List.map_map] at this;simpa[Function.comp_def,ent] using this
 refine QT (body:=YY m2) m2 rfl (by rw[h2.len];omega) hk2 _ (by rw[List.nil_append,hq1.length_eq];omega) fun q2 hq2=>?_
 have hq3:(q2.map (·.2)).Perm l2:=by
  have:=(hq2.trans h2).map (·.2);rw[List.map_map] at this;simpa[Function.comp_def,ent] using this
 show(yb _ _).wp _;rw[List.nil_append];have hpp:(q.map (·.2)++q2.map (·.2)).Perm l:=(hq1.append hq3).trans hp;rw[zF (by rw[hpp.length_eq];omega)];refine srt_wpE fun s h3 h4=>?_
 show s=l;have h5:=h3.trans hpp;exact yka (srtE_of ((h5.map (·.dot)).nodup_iff.2 (QS hs)) h4) hs fun d=>h5.mem_iff
open E (OkE yH vv)
open F (Wa yF vD Ze)
section
variable{κ ν:Type}[DecidableEq κ]
theorem Wk{m:List (κ×ν)}(hn:(m.map (·.1)).Nodup)(x:κ)(v:ν)(k:κ×ν):k∈AL.set m x v↔(k∈m/\k.1≠x)\/k=(x,v):=by
 induction m with
 | nil=>simp[AL.set]
 | cons y r ih=>
  obtain⟨q,u⟩:=y;rw[List.map_cons,List.nodup_cons] at hn;unfold AL.set
  split
  ·rename_i e
   subst e;rw[List.mem_cons,List.mem_cons]
   constructor
   ·rintro(h | h)
    ·exact .inr h
    ·exact .inl ⟨.inr h,fun e=>hn.1 (e▸List.mem_map.2 ⟨k,h,rfl⟩)⟩
   ·rintro(⟨h | h,h2⟩ | h)
    ·subst h;exact absurd rfl h2
    ·exact .inr h
    ·exact .inl h
  ·rename_i e
   rw[List.mem_cons,List.mem_cons,ih hn.2]
   constructor
   ·rintro(h | ⟨h,h2⟩ | h)
    ·subst h;exact .inl ⟨.inl rfl,e⟩
    ·exact .inl ⟨.inr h,h2⟩
    ·exact .inr h
   ·rintro(⟨h | h,h2⟩ | h)
    ·exact .inl h
    ·exact .inr (.inl ⟨h,h2⟩)
    ·exact .inr (.inr h)
end
def insE(l:List EV)(e:EV):List EV:=(l.filter fun x=>zn x.dot e.dot)++[e]++(l.filter fun x=>zn e.dot x.dot)
theorem insE_srt{l:List EV}(hs:vv l)(e:EV):vv (insE l e):=by
 unfold insE vv;rw[List.pairwise_append,List.pairwise_append];refine⟨⟨YB hs _,by simp,fun a ha b hb=>?_⟩,YB hs _,fun a ha b hb=>?_⟩
 ·rw[List.mem_singleton.1 hb];exact(List.mem_filter.1 ha).2
 ·have h2:=(List.mem_filter.1 hb).2;rcases List.mem_append.1 ha with h | h
  ·exact D.XL (List.mem_filter.1 h).2 h2
  ·rw[List.mem_singleton.1 h];exact h2
theorem insE_mem{l:List EV}{e:EV}(hn:∀ x∈l,x.dot≠e.dot){x:EV}:x∈insE l e↔x=e\/x∈l:=by
 unfold insE;rw[List.mem_append,List.mem_append,List.mem_filter,List.mem_filter,List.mem_singleton]
 constructor
 ·rintro((⟨h,_⟩ | h) | ⟨h,_⟩)
  ·exact .inr h
  ·exact .inl h
  ·exact .inr h
 ·rintro(h | h)
  ·exact .inl (.inr h)
  ·cases h1:zn x.dot e.dot with
   | true=>exact .inl (.inl ⟨h,rfl⟩)
   | false=>
    cases h2:zn e.dot x.dot with
    | true=>exact .inr ⟨h,rfl⟩
    | false=>exact absurd (D.QC h1 h2) (hn x h)
theorem Holds.add{m:List (DT×EV)}{l:List EV}(h:Holds m l)(hs:vv l){e:EV}(hn:∀ x∈l,x.dot≠e.dot):Holds (AL.set m e.dot e) (insE l e):=
 JL (AL.nodup_set (h.keys hs) _ _) (insE_srt hs e) fun k=>by
  rw[Wk (h.keys hs),h.mem,insE_mem hn]
  constructor
  ·rintro(⟨⟨h1,h2⟩,h3⟩ | h1)
   ·exact⟨.inr h1,h2⟩
   ·rw[h1];exact⟨.inl rfl,rfl⟩
  ·rintro⟨h1 | h1,h2⟩
   ·refine .inr ?_;obtain⟨k1,k2⟩:=k;simp only at h1 h2;rw[h2,h1]
   ·exact .inl ⟨⟨h1,h2⟩,by rw[h2];exact hn _ h1⟩
theorem QU{e:EV}(h:yH e=true):e.kind=1\/e.kind=2:=by
 simp only[yH,E.xYa,Bool.and_eq_true,Bool.or_eq_true,decide_eq_true_eq] at h;rcases h.2.1 with h | h
 ·exact .inl h.1
 ·exact .inr h.1
theorem xca{e:EV}(h:yH e=true):e.kills.length<=256/\D.Srt e.kills/\∀ d∈e.kills,V.xB d=true/\d≠e.dot:=by
 simp only[yH,E.xZa,Bool.and_eq_true,decide_eq_true_eq,List.all_eq_true,Bool.not_eq_true',decide_eq_false_iff_not] at h;exact⟨h.2.2.1,D.Jl.1 h.2.2.2.1,fun d hd=>h.2.2.2.2 d hd⟩
open E (OkE yH vv)
open F (Wa yF vD Ze)
def Yt(L:List EV):List EV:=L.filter fun e=>decide (e.kind=1)
def XS(L:List EV):List EV:=L.filter fun e=>decide (e.kind=2)
theorem yla{L:List EV}{x:EV}:x∈Yt L↔x∈L/\x.kind=1:=by simp[Yt]
theorem yma{L:List EV}{x:EV}:x∈XS L↔x∈L/\x.kind=2:=by simp[XS]
structure Rep(n:Nat)(W c xc:List PT)(nl1:Bool)(m1:List (DT×EV))(nl2:Bool)(m2:List (DT×EV))(L:List EV):Prop where
 ctx:c=C.yC W
 xctx:∀ k n,C.ZZ xc k n=C.ZZ W k n
 xok:C.Ok xc
 live:Holds m1 (Yt L)
 tomb:Holds m2 (XS L)
 n1:nl1=true->m1=[]
 n2:nl2=true->m2=[]
 srt:vv L
 good:∀ e∈L,yH e=true/\OkE e
 dots:∀ d∈yF L,C.ZZ W d.dev d.n=true
 alive:∀ e∈L,e.kind=1->Ze L e.dot=false
 wl:W.length<=n
 wt:C.ya W<=n
 ll:L.length<=n
theorem ok_normW{W:List PT}(h1:W.length<=400000000)(h2:C.ya W<=400000000):C.Ok (C.yC W):=
 ⟨fun p hp=>by have:=((C.uP W).nf p hp).1;omega,by have:=C.Yl W;omega,by have:=C.Ym W;omega⟩
section
variable{n:Nat}{W c xc:List PT}{nl1:Bool}{m1:List (DT×EV)}{nl2:Bool}{m2:List (DT×EV)}{L:List EV}
theorem Rep.mono(hR:Rep n W c xc nl1 m1 nl2 m2 L){k:Nat}(h:n<=k):Rep k W c xc nl1 m1 nl2 m2 L:=
 { hR with wl:=Nat.le_trans hR.wl h,wt:=Nat.le_trans hR.wt h,ll:=Nat.le_trans hR.ll h }
theorem Rep.okc(hR:Rep n W c xc nl1 m1 nl2 m2 L)(hn:n<=100000000):C.Ok c:=by
 rw[hR.ctx];exact ok_normW (by have:=hR.wl;omega) (by have:=hR.wt;omega)
theorem Rep.has(hR:Rep n W c xc nl1 m1 nl2 m2 L)(hn:n<=100000000)(d:DT):UC c d=pure (C.ZZ W d.dev d.n):=by
 rw[C.yMa c d (hR.okc hn).sm,hR.ctx,C.qp]
theorem Rep.new : Rep 0 [] [] [] true [] true [] [] where
 ctx:=rfl
 xctx _ _:=rfl
 xok:=C.wma
 live:=List.Perm.refl _
 tomb:=List.Perm.refl _
 n1 _:=rfl
 n2 _:=rfl
 srt:=List.Pairwise.nil
 good _ h:=by cases h
 dots _ h:=by cases h
 alive _ h:=by cases h
 wl:=Nat.le_refl _
 wt:=Nat.le_refl _
 ll:=Nat.le_refl _
theorem add_eq{e:EV}(hk:e.kills.length<=1000000000000){nl:Bool}{m:List (DT×EV)}(h:nl=true->m=[]):ZR e nl m=pure (false,AL.set m e.dot e):=by
 unfold ZR;have h1:(cond nl (M.pure ([]:List (DT×EV))) (M.pure m))=M.pure m:=by
  cases nl with
  | true=>rw[h rfl];rfl
  | false=>rfl
 rw[h1,zA,zda e hk,zB,zA]
end
open E (OkE yH vv)
open F (Wa yF vD Ze)
section
variable{n:Nat}{W c xc:List PT}{nl1:Bool}{m1:List (DT×EV)}{nl2:Bool}{m2:List (DT×EV)}{L:List EV}
theorem Rep.kl(hR:Rep n W c xc nl1 m1 nl2 m2 L):∀ e∈L,e.kills.length<=256:=fun e he=>(xca (hR.good e he).1).1
theorem xda(L:List EV)(h:∀ e∈L,e.kind=1\/e.kind=2):(Yt L++XS L).Perm L:=by
 induction L with
 | nil=>exact List.Perm.refl _
 | cons x r ih=>
  have ih:=ih fun e he=>h e (by simp[he])
  rcases h x (by simp) with h1 | h1
  ·have e1:Yt (x::r)=x::Yt r:=by unfold Yt;rw[List.filter_cons,if_pos (by simp[h1])]
   have e2:XS (x::r)=XS r:=by unfold XS;rw[List.filter_cons,if_neg (by simp[h1])]
   rw[e1,e2];exact ih.cons x
  ·have e1:Yt (x::r)=Yt r:=by unfold Yt;rw[List.filter_cons,if_neg (by simp[h1])]
   have e2:XS (x::r)=x::XS r:=by unfold XS;rw[List.filter_cons,if_pos (by simp[h1])]
   rw[e1,e2];exact List.perm_middle.trans (ih.cons x)
theorem Rep.kinds(hR:Rep n W c xc nl1 m1 nl2 m2 L):∀ e∈L,e.kind=1\/e.kind=2:=fun e he=>QU (hR.good e he).1
theorem Rep.All(hR:Rep n W c xc nl1 m1 nl2 m2 L)(hn:n<=100000000):ww c nl1 m1 nl2 m2=pure L:=by
 unfold ww;rw[list2_eq hR.live hR.tomb (xda L hR.kinds) hR.srt (by have:=hR.ll;omega) (fun e he=>by have:=hR.kl e he;omega),zB,zA]
theorem Rep.Ctx(hR:Rep n W c xc nl1 m1 nl2 m2 L)(hn:n<=100000000):wv c nl1 m1 nl2 m2=pure (C.yC W):=by
 unfold wv;rw[C.Wp c (hR.okc hn).sm,zB,zA,hR.ctx,C.Wo (C.uP W)]
end
open E (OkE yH vv)
open F (Wa yF vD Ze)
section
variable{n:Nat}{W c xc:List PT}{nl1:Bool}{m1:List (DT×EV)}{nl2:Bool}{m2:List (DT×EV)}{L:List EV}
end
open E (OkE yH vv)
open F (Wa yF vD Ze)
section
variable{n:Nat}{W c xc:List PT}{nl1:Bool}{m1:List (DT×EV)}{nl2:Bool}{m2:List (DT×EV)}{L:List EV}
def ofL(L:List EV)(cid:Int):List EV:=(Yt L).filter fun x=>decide (x.cid=cid)
end
open E (OkE yH vv)
open F (Wa yF vD Ze)
def exB : EV:=⟨⟨1,2⟩,2,281474976710657,0,⟨#[]⟩,[]⟩
theorem okB : OkE exB:=⟨⟨by decide,by decide,by decide,by decide⟩,by decide,by decide,by decide,by decide,(fun d hd=>nomatch hd),by decide⟩
open E (OkE yH vv)
open F (Wa yF vD Ze Ys Ui)
def badF(l:List EV)(i:Nat)(e:EV):Bool:=!yH e||(Ys l i e||(decide (e.kind=1)&&Ze l e.dot))
def fromB(c:List PT)(l:List EV):Bool:=(l.zipIdx.all fun y=>!badF l y.2 y.1)&&(decide (c=C.yC c)&&decide (Ui (vD l) c=[]))
theorem QV{l:List EV}{e:EV}(h:∀ x∈l,zn x.dot e.dot=true):insE l e=l++[e]:=by
 unfold insE;rw[List.filter_eq_self.2 h,List.filter_eq_nil_iff.2 fun x hx=>by rw[D.Wr (h x hx)];simp];simp
theorem prev_srt{l:List EV}{i:Nat}{x:EV}(hx:l[i]?=some x)(hs:vv (l.take i))(hp:Ys l i x=false):vv (l.take (i+1))/\∀ z∈l.take i,zn z.dot x.dot=true:=by
 have htk:l.take (i+1)=l.take i++[x]:=by rw[List.take_add_one,hx];rfl
 have hlt:i < l.length:=(List.getElem?_eq_some_iff.1 hx).1;have hall:∀ z∈l.take i,zn z.dot x.dot=true:=by
  intro z hz;obtain⟨j,hj⟩:=List.getElem?_of_mem hz;have hji:j < (l.take i).length:=(List.getElem?_eq_some_iff.1 hj).1;rw[List.length_take] at hji;obtain⟨y,hy⟩:∃ y,l[i - 1]?=some y:=⟨_,List.getElem?_eq_getElem (by omega)⟩
  unfold Ys at hp;rw[decide_eq_true (show 0 < i by omega),Bool.true_and,hy] at hp;have hyx:zn y.dot x.dot=true:=V.JQ.1 (by simpa using hp)
  by_cases e:j=i - 1
  ·have:(l.take i)[j]?=l[j]?:=by rw[List.getElem?_take,if_pos (by omega)]
   rw[this,e,hy] at hj
   cases hj;exact hyx
  ·have h2:(l.take i)[i - 1]?=some y:=by rw[List.getElem?_take,if_pos (by omega)];exact hy
   have h3:=List.pairwise_iff_getElem.1 hs j (i - 1) (by rw[List.length_take];omega) (by rw[List.length_take];omega) (by omega);rw[(List.getElem?_eq_some_iff.1 hj).2,(List.getElem?_eq_some_iff.1 h2).2] at h3;exact D.XL h3 hyx
 refine⟨?_,hall⟩;rw[htk];unfold vv;rw[List.pairwise_append];exact⟨hs,by simp,fun a ha b hb=>by rw[List.mem_singleton.1 hb];exact hall a ha⟩
theorem QW(l:List EV)(x:EV):Yt (l++[x])=Yt l++(if x.kind=1 then [x] else []):=by
 unfold Yt;rw[List.filter_append,List.filter_cons];by_cases h:x.kind=1 <;> simp[h]
theorem QX(l:List EV)(x:EV):XS (l++[x])=XS l++(if x.kind=2 then [x] else []):=by
 unfold XS;rw[List.filter_append,List.filter_cons];by_cases h:x.kind=2 <;> simp[h]
theorem from_bad{l:List EV}(hl:l.length<=1000000)(hk:∀ e∈l,OkE e/\e.kills.length<=300){i:Nat}{x:EV}(hx:l[i]?=some x) :
  (M.bind (M.det (uN x)) fun v84=>cond (!v84) (M.pure true) (cond (decide (0 < (i:Int)))
   (M.bind (M.idx l (IntKind.i64.wrap ((i:Int) - 1))) fun x88=>M.bind (M.det (uX x88.dot x.dot)) fun v90=>cond (decide (0<=v90)) (M.pure true) (cond (decide (x.kind=1)) (M.bind (M.det (vI l x.dot)) fun v94=>M.pure v94) (M.pure false)))
   (cond (decide (x.kind=1)) (M.bind (M.det (vI l x.dot)) fun v97=>M.pure v97) (M.pure false))):M Bool)=pure (badF l i x):=by
 have hm:=List.mem_of_getElem? hx;have hi:i < l.length:=(List.getElem?_eq_some_iff.1 hx).1;rw[E.Wq (hk x hm).1,zB,zA,F.Dead_eq l x.dot (by omega) (fun e he=>by have:=(hk e he).2;omega),zB,zA];have hp:=F.prev_eq (x:=x) hi (by omega) uX D.yUa (fun b=>(cond b (M.pure true) (cond (decide (x.kind=1)) (M.pure (Ze l x.dot)) (M.pure false)):M Bool));simp only[cond_false] at hp;rw[hp];unfold badF
 cases yH x <;> cases Ys l i x <;> cases decide (x.kind=1) <;> rfl
theorem vQa{l:List EV}(hl:l.length<=1000000)(hk:∀ e∈l,OkE e/\e.kills.length<=300) :
  ∀ (k i:Nat) (nl2:Bool) (m2:List (DT×EV)) (nl1:Bool) (m1:List (DT×EV)),i+k=l.length->vv (l.take i)->(∀ e∈l.take i,yH e=true)->Holds m1 (Yt (l.take i))->Holds m2 (XS (l.take i))->(nl1=true->m1=[])->(nl2=true->m2=[]) ->
   if ((l.drop i).zipIdx i).all (fun y=>!badF l y.2 y.1)=true then ∃ b q a p,loop (zw l) ((i:Int),nl2,m2,nl1,m1)=pure (Ex.brk (b,q,a,p))/\vv l/\(∀ e∈l,yH e=true)/\Holds p (Yt l)/\Holds q (XS l)/\(a=true->p=[])/\(b=true->q=[])
   else loop (zw l) ((i:Int),nl2,m2,nl1,m1)=pure (Ex.ret (.inl ())):=by
 intro k
 induction k with
 | zero=>
  intro i nl2 m2 nl1 m1 hi hs hg h1 h2 h3 h4;have e:i=l.length:=by omega
  subst e;rw[List.drop_length,if_pos (by simp)];rw[List.take_length] at hs hg h1 h2;refine⟨nl2,m2,nl1,m1,?_,hs,hg,h1,h2,h3,h4⟩;refine zV ?_;unfold zw;simp
 | succ k ih=>
  intro i nl2 m2 nl1 m1 hi hs hg h1 h2 h3 h4;obtain⟨x,hx⟩:∃ x,l[i]?=some x:=⟨_,List.getElem?_eq_getElem (by omega)⟩
  have hm:=List.mem_of_getElem? hx;have hdr:l.drop i=x::l.drop (i+1):=by
   rw[List.drop_eq_getElem_cons (by omega)]
   congr 1
   rw[List.getElem?_eq_getElem (by omega)] at hx;exact Option.some.inj hx
  have htk:l.take (i+1)=l.take i++[x]:=by rw[List.take_add_one,hx];rfl
  have hd:decide ((i:Int) < (l.length:Int))=true:=by simp;omega
  have hb:=from_bad hl hk hx;rw[hdr,List.zipIdx_cons,List.all_cons]
  cases hbad:badF l i x with
  | true=>
   simp only[Bool.not_true,Bool.false_and,Bool.false_eq_true,if_false];refine zV ?_;unfold zw;simp only[hd,cond_true,zT hx,zA];rw[hb,zA,hbad]
   rfl
  | false=>
   simp only[Bool.not_false,Bool.true_and];have hgx:yH x=true:=by
    unfold badF at hbad;simp only[Bool.or_eq_false_iff,Bool.not_eq_false'] at hbad;exact hbad.1
   have hpx:Ys l i x=false:=by
    unfold badF at hbad;simp only[Bool.or_eq_false_iff] at hbad;exact hbad.2.1
   obtain⟨hs',hall⟩:=prev_srt hx hs hpx;have hg':∀ e∈l.take (i+1),yH e=true:=fun e he=>by
    rw[htk] at he;rcases List.mem_append.1 he with h | h
    ·exact hg e h
    ·rw[List.mem_singleton.1 h];exact hgx
   have hxk:=(hk x hm).2;rcases QU hgx with hkd | hkd
   ·have hb2:zw l ((i:Int),nl2,m2,nl1,m1)=pure (.next (((i+1:Nat):Int),nl2,m2,false,AL.set m1 x.dot x)):=by
     unfold zw;simp only[hd,cond_true,zT hx,zA];rw[hb,zA,hbad,decide_eq_true hkd];simp only[cond_false,cond_true,add_eq (show x.kills.length<=1000000000000 by omega) h3,zB,zA,uV,yt (show i < 9223372036854775807 by omega)]
    rw[zg hb2];refine ih (i+1) nl2 m2 false _ (by omega) hs' hg' ?_ ?_ (fun h=>by cases h) h4
    ·rw[htk,QW,if_pos hkd,<- QV (fun z hz=>hall z (yla.1 hz).1)];exact h1.add (YB hs _) fun z hz e=>by have:=hall z (yla.1 hz).1;rw[e,D.VG] at this;cases this
    ·rw[htk,QX,if_neg (by omega),List.append_nil];exact h2
   ·have hb2:zw l ((i:Int),nl2,m2,nl1,m1)=pure (.next (((i+1:Nat):Int),false,AL.set m2 x.dot x,nl1,m1)):=by
     unfold zw;simp only[hd,cond_true,zT hx,zA];rw[hb,zA,hbad,decide_eq_false (show ¬ x.kind=1 by omega)];simp only[cond_false,add_eq (show x.kills.length<=1000000000000 by omega) h4,zB,zA,uV,yt (show i < 9223372036854775807 by omega)]
    rw[zg hb2];refine ih (i+1) false _ nl1 m1 (by omega) hs' hg' ?_ ?_ h3 (fun h=>by cases h)
    ·rw[htk,QW,if_neg (by omega),List.append_nil];exact h1
    ·rw[htk,QX,if_pos hkd,<- QV (fun z hz=>hall z (yma.1 hz).1)];exact h2.add (YB hs _) fun z hz e=>by have:=hall z (yma.1 hz).1;rw[e,D.VG] at this;cases this
theorem drop_nil{l:List DT}{c:List PT}(h:Ui l c=[]):∀ d∈l,C.ZZ c d.dev d.n=true:=fun d hd=>by
 cases hc:C.ZZ c d.dev d.n with
 | true=>rfl
 | false=>
  have:d∈Ui l c:=D.WT.2 (List.mem_filter.2 ⟨hd,by simp[hc]⟩);rw[h] at this;cases this
theorem From_eq{c:List PT}{l:List EV}(hc:C.Ok c){n:Nat}(h1:c.length<=n)(h2:C.ya c<=n)(hl:l.length<=n)(hn:n<=1000000)(hk:∀ e∈l,OkE e/\e.kills.length<=300) :
  if fromB c l=true then ∃ a p b q,uZ c l=pure (.inr (C.yC c,a,p,b,q))/\Rep n c (C.yC c) c a p b q l else uZ c l=pure (.inl ()):=by
 have hlen:=F.dots_len l 300 fun e he=>(hk e he).2
 have hdl:(vD l).length<=(yF l).length:=D.yTa _;have key:=vQa (l:=l) (by omega) hk l.length 0 true [] true [] (by omega) (by simp[vv]) (by simp) (by simp[Holds,Yt]) (by simp[Holds,XS]) (fun _=>rfl) (fun _=>rfl);rw[List.drop_zero] at key;have h0:loop (zw l) (((0:Nat):Int),true,[],true,[])=loop (zw l) (0,true,[],true,[]):=rfl;rw[h0] at key;unfold fromB;unfold uZ;rw[C.Wp c hc.sm,zB,zA]
 cases ha:(l.zipIdx.all fun y=>!badF l y.2 y.1) with
 | false=>
  rw[ha,if_neg (by simp)] at key;rw[Bool.false_and,if_neg (by simp),key,zA,Vu]
 | true=>
  rw[ha,if_pos rfl] at key;obtain⟨b,q,a,p,e1,hs,hg,g1,g2,g3,g4⟩:=key;rw[e1,zA,uV,Bool.true_and];simp only[];rw[C.Wq c hc.sm,zB,zA,F.zca l (by omega) (by omega),zB,zA,F.Drop_eq (vD l) c (by omega) hc.sm,zB,zA];have hdec:decide (0 < ((Ui (vD l) c).length:Int))=!decide (Ui (vD l) c=[]):=by
   cases Ui (vD l) c with
   | nil=>rfl
   | cons x r=>simp <;> omega
  rw[hdec]
  cases hcn:decide (c=C.yC c) with
  | false=>rw[Bool.false_and,if_neg (by simp)];rfl
  | true=>
   rw[Bool.true_and,Bool.not_true,cond_false,zA]
   cases hdn:decide (Ui (vD l) c=[]) with
   | false=>rw[if_neg (by simp)];rfl
   | true=>
    rw[if_pos rfl];refine⟨a,p,b,q,rfl,⟨rfl,fun _ _=>rfl,hc,g1,g2,g3,g4,hs,fun e he=>⟨hg e he,(hk e he).1⟩,fun d hd=>drop_nil (of_decide_eq_true hdn) d (D.WT.2 hd),fun e he h1=>?_,h1,h2,hl⟩⟩;rw[List.all_eq_true] at ha;obtain⟨i,hi⟩:=List.getElem?_of_mem he;have:=ha (e,i) (by rw[List.mem_zipIdx_iff_getElem?];exact hi);simp only[Bool.not_eq_true',badF,Bool.or_eq_false_iff,Bool.and_eq_false_iff] at this;rcases this.2.2 with h | h
    ·exact absurd h1 (of_decide_eq_false h)
    ·exact h
open E (OkE yH vv)
open F (Wa yF vD Ze Ys Ui)
section
variable{n:Nat}{W c xc:List PT}{nl1:Bool}{m1:List (DT×EV)}{nl2:Bool}{m2:List (DT×EV)}{L:List EV}
end
open E (OkE yH vv)
open F (Wa yF vD Ze)
section
variable{n:Nat}{W c xc:List PT}{nl1:Bool}{m1:List (DT×EV)}{nl2:Bool}{m2:List (DT×EV)}{L:List EV}
end
section
variable{n:Nat}{W c xc:List PT}{nl1:Bool}{m1:List (DT×EV)}{nl2:Bool}{m2:List (DT×EV)}{L:List EV}
end
open E (OkE yH vv)
open F (Wa yF vD Ze)
section
variable{n:Nat}{W c xc:List PT}{nl1:Bool}{m1:List (DT×EV)}{nl2:Bool}{m2:List (DT×EV)}{L:List EV}
end
section
variable{n:Nat}{W c xc:List PT}{nl1:Bool}{m1:List (DT×EV)}{nl2:Bool}{m2:List (DT×EV)}{L:List EV}
end
open E (OkE yH vv)
open F (Wa yF vD Ze)
section
variable{n:Nat}{W c xc:List PT}{nl1:Bool}{m1:List (DT×EV)}{nl2:Bool}{m2:List (DT×EV)}{L:List EV}
end
open E (OkE yH vv wO)
open D (Xb)
open F (Wa yF vD Ze)
theorem vRa{e:EV}(h:yH e=true):e.text.size<=60:=by
 simp only[yH,E.xYa,E.xXa,E.yfa,Bool.and_eq_true,Bool.or_eq_true,decide_eq_true_eq] at h;rcases h.2.1 with h | h
 ·exact h.2.2.1
 ·rw[h.2.2];decide
section
variable{n:Nat}{W c xc:List PT}{nl1:Bool}{m1:List (DT×EV)}{nl2:Bool}{m2:List (DT×EV)}{L:List EV}
end
open E (OkE yH vv wO Yr)
open D (Xb vP Uy fin)
open F (Wa yF vD Ze)
open N (RS Ux Sim OkB)
theorem uL(v:Int):1<=(N.yL v).length:=by unfold N.yL N.QA;simp
theorem yna : ∀ c:List PT,c.length+C.ya c<=(c.flatMap D.Jh).length
 | []=>by simp[C.ya]
 | p::r=>by
  have h1:=yna r;have h2:=uL p.dev;have h3:p.runs.length<=(p.runs.flatMap D.YI).length:=by
   generalize p.runs=l
   induction l with
   | nil=>simp
   | cons x l ih=>
    have:=uL x.lo;rw[List.flatMap_cons,List.length_append,List.length_cons,D.YI,List.length_append];omega
  have h4:C.ya (p::r)=p.runs.length+C.ya r:=by simp[C.ya]
  rw[List.flatMap_cons,List.length_append,List.length_cons,D.Jh,List.length_append,List.length_append];omega
theorem yoa : ∀ l:List EV,l.length<=(l.flatMap E.XR).length
 | []=>by simp
 | e::r=>by
  have h1:=yoa r;have h2:1<=(E.XR e).length:=by
   unfold E.XR;simp only[List.length_append,List.length_cons];omega
  rw[List.flatMap_cons,List.length_append,List.length_cons];omega
theorem QY{s:RS}(hO:N.Ok s):(vP s).1.length+C.ya (vP s).1<=s.1.length/\(vP s).2.1.length<=s.1.length:=by
 obtain⟨h1,_,_,h4,h5⟩:=D.uu hO
 by_cases c:(vP s).2.2=0
 ·have h6:=D.vAa hO c;have h7:=congrArg List.length h6;rw[List.length_append,Xb,<- h5 c,D.QA,List.length_append] at h7;have:=yna (vP s).1;omega
 ·rw[h4 c,h1.nil c];simp[C.ya]
theorem vSa{s:RS}(hO:N.Ok s)(m:Int):(Yr m s).1.length<=s.1.length:=by
 obtain⟨_,_,_,h4,h5⟩:=E.Uh hO m
 by_cases c:(Yr m s).2.2=0
 ·have h7:=congrArg List.length (h4 c).1;rw[List.length_append,wO,List.length_append] at h7;have:=yoa (Yr m s).1;omega
 ·rw[h5 c];simp
theorem good_kl9{e:EV}(h:yH e=true):e.kills.length<=256:=by
 simp only[yH,E.xZa,Bool.and_eq_true,decide_eq_true_eq] at h;exact h.2.2.1
open E (OkE yH vv wO Yr)
open D (Xb vP Uy fin)
open F (Wa yF vD Ze Ys)
open N (RS Ux Sim OkB)
section
variable{n:Nat}{W c xc:List PT}{nl1:Bool}{m1:List (DT×EV)}{nl2:Bool}{m2:List (DT×EV)}{L:List EV}
end
open E (OkE yH vv)
open F (Wa yF vD)
def hD(e:EV)(k n:Int):Bool:=C.ZZ (C.dotsC (vD [e])) k n
structure Past(P:List EV)(W:List PT)(L:List EV):Prop where
 has:∀ k n,C.ZZ W k n=true↔∃ e∈P,yH e=true/\hD e k n=true
 mem:∀ x,x∈L↔x∈P/\yH x=true/\∀ f∈P,yH f=true->x.dot∉f.kills
 srt:vv L
open E (OkE yH vv)
open F (Wa yF vD)
open E (OkE yH vv)
open F (Wa yF vD)
structure InK(K:List DT)(n:Nat)(v:List EV):Prop where
 srt:vv v
 len:v.length=n
 ok:∀ e∈v,OkE e
 kl:∀ e∈v,e.kills.length<=4000
 sub:∀ e∈v,∀ d∈e.kills,d∈K
open E (OkE yH vv)
open F (Wa yF vD)
end Go.Ep.M.G
namespace Go.Ep.M.Y
open Go
open E (OkE wO)
open D (Xb)
def OkC(c:List PT):Prop:=C.Ok c/\(∀ p∈c,p.dev<=65535)/\c.length<=2000/\C.ya c<=2000
structure OkS(s:THubState):Prop where
 epoch:0<=s.epoch/\s.epoch<=18446744073709551615
 last:0<=s.last/\s.last<=65535
 mem:∀ m∈s.members,(0<=m.dev/\m.dev<=65535)/\(0<=m.slot/\m.slot<=255)/\0<=m.try_/\m.try_<=18446744073709551615
 mlen:s.members.length<=400
 tries:∀ t∈s.tries,0<=t/\t<=18446744073709551615
 tlen:s.tries.length<=400
 rows:∀ r∈s.rows,OkC r.have_
 rlen:s.rows.length<=400
 ctx:OkC s.ctx
 all:∀ e∈s.all,OkE e/\e.kills.length<=300/\e.text.size<=200
 alen:s.all.length<=2000
def badR(s:THubState)(i:Nat)(x:TRow):Bool:=!decide (x.who=(s.members.getD i H.zM).dev)||!decide (x.have_=C.yC x.have_)
def rowsB(s:THubState):Bool:=decide (s.rows.length=s.members.length)&&!(s.rows.zipIdx.any fun y=>badR s y.2 y.1)
def Yu(s:THubState):Bool:=H.fromB s.epoch s.last s.members s.tries&&(G.fromB s.ctx s.all&&rowsB s)
theorem vPa(a b:Nat):(!decide ((a:Int)=(b:Int)))=!decide (a=b):=by
 by_cases h:a=b
 ·rw[decide_eq_true h,decide_eq_true (by omega)]
 ·rw[decide_eq_false h,decide_eq_false (by omega)]
theorem mem_at{s:THubState}(he:s.rows.length=s.members.length){i:Nat}(hi:i < s.rows.length):s.members[i]?=some (s.members.getD i H.zM):=by
 rw[List.getD_eq_getElem?_getD,List.getElem?_eq_getElem (by omega)];rfl
theorem cFrom_eq{s:THubState}(h:OkS s):(Yu s=true->∃ z,wn s=pure (.inr z))/\(Yu s=false->wn s=pure (.inl ())):=by
 have ml:=h.mlen;have rl:=h.rlen;unfold wn Yu;rcases H.From_eq h.epoch.1 h.last.1 h.last.2 (show s.members.length<=900 by omega) (tr:=s.tries) (fun x hx=>⟨(h.mem x hx).1.1,(h.mem x hx).2.1.1⟩) with⟨a1,a2⟩ | ⟨a1,a2,m,a3,a4⟩
 ·rw[a1,a2,zB,zA,Bool.false_and];exact⟨fun h=>(by cases h),fun _=>rfl⟩
 ·rw[a1,a3,zB,zA,Bool.true_and];have hb:=G.From_eq (c:=s.ctx) (l:=s.all) h.ctx.1 (n:=2000) h.ctx.2.2.1 h.ctx.2.2.2 h.alen (by omega) (fun e he=>⟨(h.all e he).1,(h.all e he).2.1⟩)
  cases hf:G.fromB s.ctx s.all with
  | false=>
   rw[hf,if_neg (by simp)] at hb;simp only[M.sum,hb,zB,zA,Bool.false_and];exact⟨fun h=>(by cases h),fun _=>trivial⟩
  | true=>
   rw[hf,if_pos rfl] at hb;obtain⟨a,p,b,q,hb,_⟩:=hb;simp only[M.sum,hb,zB,zA,Bool.true_and,vPa];unfold rowsB
   by_cases he:s.rows.length=s.members.length
   ·rw[decide_eq_true he,Bool.not_true,cond_false,Bool.true_and,show YS=pure (true,[]) from rfl,zB,zA];have key:=H.loopB (body:=vn s) s.rows (fun i (t:Bool×List ((Int×Int)×List RN))=>((i:Int),t.1,t.2)) (fun t=>t) (badR s) (.inl ())
     (fun i t=>∃ x,J.Rep (2000*i) i t.1 t.2 x) (fun i x t hx hi hI=>?_) (fun t _=>?_) (true,[]) ⟨[],J.rep_nil _ _⟩
    ·rcases key with⟨k1,k2⟩ | ⟨k1,t,k2,_⟩
     ·rw[k1];refine⟨fun h=>(by cases h),fun _=>?_⟩;show M.bind (loop _ (((0:Nat):Int),true,[])) _=_;rw[k2,zA];rfl
     ·rw[k1];refine⟨fun _=>?_,fun h=>(by cases h)⟩;show ∃ z,M.bind (loop _ (((0:Nat):Int),true,[])) _=_;rw[k2,zA];exact⟨_,rfl⟩
    ·obtain⟨x0,hI⟩:=hI;have hr:=h.rows x (List.mem_of_getElem? hx);have hbody:vn s ((i:Int),t.1,t.2)=cond (badR s i x) (pure (.done (.ret (.inl ())))) ((det (yv x.who t.1 t.2)).bind fun y59=>(det (yw x.who x.have_ y59.2.1 y59.2.2)).bind fun y61=>pure (.next (((i+1:Nat):Int),y61.2.1,y61.2.2))):=by
      show cond (decide ((i:Int) < (s.rows.length:Int))) _ _=_;rw[decide_eq_true (by omega),cond_true,zT hx,zA,zT (mem_at he hi),zA,yt (by omega)];unfold badR;rw[C.Wq _ hr.1.sm,zB,zA]
      cases decide (x.who=(s.members.getD i H.zM).dev) <;> cases decide (x.have_=C.yC x.have_) <;> rfl
     rw[hbody]
     constructor
     ·intro hp;rw[hp];rfl
     ·intro hp;rw[hp,cond_false];obtain⟨nl1,m1,j1,R1⟩:=hI.join x.who;rw[j1,zB,zA];have hS:i+1<=1000/\2000*i<=1000000:=by omega
      obtain⟨nl2,m2,j2,R2⟩:=R1.hear hS x.who (c:=x.have_) ⟨by have:=hr.2.2.1;omega,by have:=hr.2.2.2;omega⟩;rw[j2,zB,zA];exact⟨(nl2,m2),rfl,_,R2.up (by have:=hr.2.2.2;omega) (Nat.le_refl _)⟩
    ·show cond (decide ((s.rows.length:Int) < (s.rows.length:Int))) _ _=_;rw[decide_eq_false (by omega)];rfl
   ·rw[decide_eq_false he,Bool.not_false,cond_true,Bool.false_and];exact⟨fun h=>(by cases h),fun _=>rfl⟩
theorem vTa{s:THubState}(h:OkS s):uO s=pure (Yu s):=by
 unfold uO;obtain⟨h1,h2⟩:=cFrom_eq h;have ha:decide ((s.all.length:Int)<=4096)=true:=decide_eq_true (by have:=h.alen;omega)
 cases hf:Yu s with
 | true=>
  obtain⟨z,hz⟩:=h1 hf;rw[hz,zB,zA,ha];rfl
 | false=>
  rw[h2 hf,zB,zA];rfl
def zO(m:TMember):List Int:=N.yL m.dev++([m.slot]++N.yL m.try_)
def YI(r:TRow):List Int:=Xb r.have_
def jB(s:THubState):List Int:=
 N.yL s.epoch++(N.yL s.last++(N.yL s.members.length++(s.members.flatMap zO++(s.tries.flatMap N.yL++(s.rows.flatMap YI++(Xb s.ctx++wO s.all))))))
theorem QZ{α:Type}(f:α->List Int):∀ (l:List α) (t:List Int),l.foldl (fun t x=>t++f x) t=t++l.flatMap f
 | [],t=>by simp
 | x::l,t=>by rw[List.foldl_cons,QZ f l,List.flatMap_cons,List.append_assoc]
theorem loopW{ε σ:Type}{body:σ->M (Step σ (List Int))}(l:List ε)(mk:Nat->List Int->σ)(f:ε->List Int)(B:Nat)
  (h1:∀ (i:Nat) (x:ε) (t:List Int),l[i]?=some x->i < l.length->t.length<=100000000000->body (mk i t)=pure (.next (mk (i+1) (t++f x)))/\(f x).length<=B)
  (h2:∀ t,body (mk l.length t)=pure (.done t)) (t0:List Int) (h0:t0.length+l.length*B<=100000000000):loop body (mk 0 t0)=pure (t0++l.flatMap f):=by
 rw[<- QZ];refine zGa l mk (fun t x=>t++f x) (fun t=>pure t) (fun i t=>t.length<=t0.length+i*B) (fun i x t hx hi hI=>?_) (fun t _=>?_) t0 (by simp)
 ·have hm:i*B<=l.length*B:=Nat.mul_le_mul_right _ (by omega);obtain⟨h3,h4⟩:=h1 i x t hx hi (by omega);exact⟨h3,by rw[List.length_append,Nat.succ_mul];omega⟩
 ·rw[h2 t,zA]
theorem Zj{m:TMember}(h:(0<=m.dev/\m.dev<=65535)/\(0<=m.slot/\m.slot<=255)/\0<=m.try_/\m.try_<=18446744073709551615):(zO m).length<=19:=by
 have h1:=N.ze (v:=m.dev) (by omega);have h2:=N.ze (v:=m.try_) (by omega);unfold zO;simp only[List.length_append,List.length_singleton];omega
theorem WY{c:List PT}(h:OkC c):(Xb c).length<=200000:=by
 have hn:=C.Yl c;have ht:=C.Ym c;have h1:=h.2.2.1;have h2:=h.2.2.2;have hl:=D.Ji (D.WU h.2.1) (by omega) (by omega);unfold Xb;omega
theorem put_c{c:List PT}(h:OkC c)(row:List Int)(hr:row.length<=100000000000):xP c row=pure (row++Xb c):=
 D.w0a h.1 h.2.1 (by have:=h.2.2.1;have:=h.2.2.2;omega) row hr
theorem xu{α:Type}(l:List α)(f:α->List Int)(B:Nat)(h:∀ x∈l,(f x).length<=B):(l.flatMap f).length<=B*l.length:=D.xu l f B h
theorem QP{s:THubState}(h:OkS s):ub s=pure (if Yu s=true then (jB s,0) else ([],1)):=by
 have ml:=h.mlen;have tl:=h.tlen;have rl:=h.rlen;have al:=h.alen;have he:=h.epoch;have hla:=h.last;unfold ub;rw[vTa h,zB,zA]
 cases hf:Yu s with
 | false=>rfl
 | true=>
  have e1:=N.ze (v:=s.epoch) (by omega);have e2:=N.ze (v:=s.last) (by omega);have e3:=N.ze (v:=(s.members.length:Int)) (by omega);have e4:=xu s.members zO 19 fun m hm=>Zj (h.mem m hm)
  have e5:=xu s.tries N.yL 9 fun t ht=>N.ze (by have:=h.tries t ht;omega)
  have e6:=xu s.rows YI 200000 fun r hr=>WY (h.rows r hr)
  have e7:=WY h.ctx;have e8:=E.QQ (l:=s.all) (fun e he=>(h.all e he).1) (fun e he=>(h.all e he).2);rw[Bool.not_true,cond_false,if_pos rfl,N.xh [] he.1 he.2 (by simp),zB,zA,Wj (by omega) (by omega),N.xh _ hla.1 (by omega) (by simp only[List.length_append,List.length_nil];omega),zB,zA,
   Wj (by omega) (by omega),N.xh _ (by omega) (by omega) (by simp only[List.length_append,List.length_nil];omega),zB,zA,List.nil_append]
  have k0:=loopW (body:=YT s) s.members (fun i t=>((i:Int),t)) zO 19 (fun i x t hx hi ht=>?_) (fun t=>?_) ((N.yL s.epoch++N.yL s.last)++N.yL s.members.length) (by simp only[List.length_append];omega)
  ·have k1:=loopW (body:=YU s) s.tries (fun i t=>((i:Int),t)) N.yL 9 (fun i x t hx hi ht=>?_) (fun t=>?_) (((N.yL s.epoch++N.yL s.last)++N.yL s.members.length)++s.members.flatMap zO) (by simp only[List.length_append];omega)
   ·have k2:=loopW (body:=YV s) s.rows (fun i t=>((i:Int),t)) YI 200000 (fun i x t hx hi ht=>?_) (fun t=>?_) ((((N.yL s.epoch++N.yL s.last)++N.yL s.members.length)++s.members.flatMap zO)++s.tries.flatMap N.yL) (by simp only[List.length_append];omega)
    ·show M.bind (loop (YT s) (((0:Nat):Int),_)) _=_;rw[k0,zA];show M.bind (loop (YU s) (((0:Nat):Int),_)) _=_;rw[k1,zA];show M.bind (loop (YV s) (((0:Nat):Int),_)) _=_;rw[k2,zA,put_c h.ctx _ (by simp only[List.length_append];omega),zB,zA,E.vEa (fun e he=>(h.all e he).1) (by omega) _ (by simp only[List.length_append];omega),zB,zA,
      N.Bytes_eq _ (by unfold wO;have:=N.ze (v:=(s.all.length:Int)) (by omega);simp only[List.length_append];omega),zB,zA]
     unfold jB;simp only[List.append_assoc]
    ·have hr:=h.rows x (List.mem_of_getElem? hx);refine⟨?_,WY hr⟩;show cond (decide ((i:Int) < (s.rows.length:Int))) _ _=_;rw[decide_eq_true (by omega),cond_true,zT hx,zA,put_c hr _ ht,zB,zA,yt (by omega)]
     rfl
    ·show cond (decide ((s.rows.length:Int) < (s.rows.length:Int))) _ _=_;rw[decide_eq_false (by omega)];rfl
   ·have hr:=h.tries x (List.mem_of_getElem? hx);refine⟨?_,N.ze (by omega)⟩;show cond (decide ((i:Int) < (s.tries.length:Int))) _ _=_;rw[decide_eq_true (by omega),cond_true,zT hx,zA,N.xh _ hr.1 hr.2 (by omega),zB,zA,yt (by omega)]
   ·show cond (decide ((s.tries.length:Int) < (s.tries.length:Int))) _ _=_;rw[decide_eq_false (by omega)];rfl
  ·have hr:=h.mem x (List.mem_of_getElem? hx);have l1:=N.ze (v:=x.dev) (by omega);refine⟨?_,Zj hr⟩;show cond (decide ((i:Int) < (s.members.length:Int))) _ _=_;rw[decide_eq_true (by omega),cond_true,zT hx,zA,Wj (by omega) (by omega),N.xh _ hr.1.1 (by omega) (by omega),zB,zA,N.Jc _ _ (by rw[List.length_append];omega),zB,zA,
    N.xh _ hr.2.2.1 hr.2.2.2 (by simp only[List.length_append,List.length_singleton];omega),zB,zA,yt (by omega)]
   unfold zO;simp only[List.append_assoc]
  ·show cond (decide ((s.members.length:Int) < (s.members.length:Int))) _ _=_;rw[decide_eq_false (by omega)];rfl
structure InS(s:THubState):Prop where
 epoch:0<=s.epoch/\s.epoch<=18446744073709551615
 last:0<=s.last/\s.last<=65535
 mem:∀ m∈s.members,(0<=m.dev/\m.dev<=65535)/\(0<=m.slot/\m.slot<=255)/\0<=m.try_/\m.try_<=18446744073709551615
 tries:∀ t∈s.tries,0<=t/\t<=18446744073709551615
 rows:∀ r∈s.rows,∀ p∈r.have_,0<=p.dev/\p.dev<=65535
 ctx:∀ p∈s.ctx,0<=p.dev/\p.dev<=65535
 all:∀ e∈s.all,e.kills.length<=300/\e.text.size<=200->OkE e
def fewC(c:List PT):Bool:=decide (c.length<=30)&&c.all fun p=>decide (p.runs.length<=30)
theorem vUa{c:List PT}(h:∀ p∈c,0<=p.dev/\p.dev<=65535)(hf:fewC c=true):OkC c:=by
 have t:=C.few_tot hf;exact⟨C.ok_few (fun p hp=>(h p hp).1) t,fun p hp=>(h p hp).2,by omega,by omega⟩
theorem Few_ok{s:THubState}(h:InS s):∃ b,ju s=pure b/\(b=true->OkS s):=by
 unfold ju
 by_cases h1:20 < s.members.length
 ·exact⟨false,by rw[decide_eq_true (show(20:Int) < (s.members.length:Int) by omega)];rfl,fun h=>by cases h⟩
 by_cases h2:40 < s.tries.length
 ·exact⟨false,by rw[decide_eq_false (show ¬ (20:Int) < (s.members.length:Int) by omega),decide_eq_true (show(40:Int) < (s.tries.length:Int) by omega)];rfl,fun h=>by cases h⟩
 by_cases h3:20 < s.rows.length
 ·exact⟨false,by rw[decide_eq_false (show ¬ (20:Int) < (s.members.length:Int) by omega),decide_eq_false (show ¬ (40:Int) < (s.tries.length:Int) by omega),decide_eq_true (show(20:Int) < (s.rows.length:Int) by omega)];rfl,fun h=>by cases h⟩
 rw[decide_eq_false (show ¬ (20:Int) < (s.members.length:Int) by omega),decide_eq_false (show ¬ (40:Int) < (s.tries.length:Int) by omega),decide_eq_false (show ¬ (20:Int) < (s.rows.length:Int) by omega),cond_false,cond_false,cond_false,
  C.JY,zB,zA,show(30:Int)=((30:Nat):Int) from rfl,E.JY s.all 30 (by omega)]
 show ∃ b,M.bind (cond (!fewC s.ctx) _ _) _=_/\_
 cases h4:fewC s.ctx with
 | false=>exact⟨false,rfl,fun h=>by cases h⟩
 | true=>
  rw[Bool.not_true,cond_false,zB,zA]
  cases h5:E.fewE s.all 30 with
  | false=>exact⟨false,rfl,fun h=>by cases h⟩
  | true=>
   rw[Bool.not_true,zA,cond_false];have key:=vL (body:=jN s) s.rows (fun i=>(i:Int)) (fun _ x=>fewC x.have_) (Ex.brk ()) (Ex.ret false) (fun i x hx hi=>by
    show cond (decide ((i:Int) < (s.rows.length:Int))) _ _=_;rw[decide_eq_true (by omega),cond_true,zT hx,zA,C.JY,zB,zA,yt (by omega)];show cond (!fewC x.have_) _ _=_
    cases fewC x.have_ <;> rfl) (by
    show cond (decide ((s.rows.length:Int) < (s.rows.length:Int))) _ _=_;rw[decide_eq_false (by omega)];rfl)
   rw[show(0:Int)=((0:Nat):Int) from rfl,key,zA];obtain⟨g1,g2⟩:=E.few_mem h5
   cases h6:s.rows.zipIdx.all (fun y=>fewC y.1.have_) with
   | false=>exact⟨false,by rw[if_neg (by simp)];rfl,fun h=>by cases h⟩
   | true=>
    refine⟨true,by rw[if_pos rfl];rfl,fun _=>⟨h.epoch,h.last,h.mem,by omega,h.tries,by omega,fun r hr=>vUa (h.rows r hr) ?_,by omega,vUa h.ctx h4,fun e he=>⟨h.all e he (g2 e he),g2 e he⟩,by omega⟩⟩;obtain⟨i,hi⟩:=List.getElem?_of_mem hr;exact List.all_eq_true.1 h6 (r,i) (by rw[List.mem_zipIdx_iff_getElem?];exact hi)
def s0 : THubState:=⟨1,0,[],AR.l H.z16,[],[],[]⟩
theorem ok_s0 : OkS s0:=
 ⟨by decide,by decide,fun m (h:m∈[])=>absurd h List.not_mem_nil,by decide,fun t ht=>by
  have:t∈List.replicate 16 (0:Int):=ht;rw[List.eq_of_mem_replicate this];decide,by decide,fun m (h:m∈[])=>absurd h List.not_mem_nil,by decide,
  ⟨C.wma,fun m (h:m∈[])=>absurd h List.not_mem_nil,by decide,by decide⟩,fun m (h:m∈[])=>absurd h List.not_mem_nil,by decide⟩
theorem from_s0 : Yu s0=true:=by decide
theorem encI0 : N.yL 0=[0]:=by show(N.Yo 0:Int)::N.be 0 (N.Yo 0)=_;rw[N.Yp];rfl
theorem encI1 : N.yL 1=[1,1]:=by
 have l1:N.Yo 1=1:=E.len_of (k:=0) (by decide) (by decide);show(N.Yo 1:Int)::N.be 1 (N.Yo 1)=_;rw[l1];rfl
theorem enc_s0 : jB s0=1::1::List.replicate 20 0:=by
 have e1:Xb []=[0]:=by show N.yL 0++[]=_;rw[encI0];rfl
 have e2:wO []=[0]:=by show N.yL 0++[]=_;rw[encI0];rfl
 show N.yL 1++(N.yL 0++(N.yL 0++([]++((List.replicate 16 (0:Int)).flatMap N.yL++([]++(Xb []++wO []))))))=_;rw[e1,e2,encI1,encI0];have e3:(List.replicate 16 (0:Int)).flatMap N.yL=List.replicate 16 0:=by
  simp only[List.replicate,List.flatMap_cons,List.flatMap_nil,encI0];rfl
 rw[e3];rfl
theorem ypa(a:List Int):uc a a=pure true:=by
 unfold uc;rw[decide_eq_true rfl]
theorem works34 : YZ=pure true:=by
 unfold YZ YW;rw[show vb=pure (1,0,H.z16,false,[]) from rfl,zB,zA,show YS=pure (true,[]) from rfl,zB,zA,show Wg=pure ([],true,[],true,[]) from rfl,zB,zA,zB,zA];dsimp only;have hr:=H.rep_new (e:=1) (la:=0) (A:=H.z16) (by omega) (by omega) (by omega) (by omega);have q1:=H.Epoch_eq hr;have q2:=H.Last_eq hr;have q3:=H.Members_eq (e:=1) (la:=0) (A:=H.z16) (nl:=false) (m:=[]) (l:=[]) (by omega) (List.Perm.refl _) List.Pairwise.nil (by simp);have q4:=H.Tries_eq hr;have q5:=G.Rep.new.Ctx (by omega);have q6:=G.Rep.new.All (by omega);have hs:yo 1 0 H.z16 [] false [] true [] true [] true []=pure s0:=by
  unfold yo wA;unfold H.newR at q1 q2 q4;dsimp only at q1 q2 q4;rw[zB,zA,cond_false,q1,zB,zA,q2,zB,zA,q3,zB,zA,q4,zB,zA,q5,zB,zA,q6,zB,zA,zV (r:=[]) (by rfl),zA]
  rfl
 rw[hs,zB,zA,QP ok_s0,if_pos from_s0,enc_s0,zB,zA];have i0:idx (1::1::List.replicate 20 (0:Int)) 0=pure 1:=zT (i:=0) rfl;have i1:idx (1::1::List.replicate 20 (0:Int)) 1=pure 1:=zT (i:=1) rfl;have hl:decide (((1::1::List.replicate 20 (0:Int)).length:Int)=22)=true:=rfl;dsimp only;rw[hl,i0,zA,i1,zA,zF (by decide)];show M.bind (M.bind (det (uc (List.replicate 20 0) (List.replicate 20 0))) _) _=_;rw[ypa,zB]
 rfl
open E (OkE wO Yr)
open D (Xb vP)
open N (RS zN zx xS Ux Sim OkB)
theorem err0{s:RS}(hO:N.Ok s){a b:List Int}(h:s.1=a++b)(ha:1<=a.length):s.2=0:=Decidable.byContradiction fun hn=>by
 have:=hO.nil hn;rw[this] at h;have:=congrArg List.length h;rw[List.length_append] at this;simp at this;omega
theorem byte_inv{s:RS}(h:(xS s).2.2=0):s.1=[(xS s).1]++(xS s).2.1/\s.2=0:=by
 unfold xS at h ⊢
 by_cases h0:s.2=0
 ·rw[if_neg (by simpa using h0)] at h ⊢
  cases hs:s.1 with
  | nil=>rw[hs] at h;exact absurd h (N.xt (by decide))
  | cons x r=>exact⟨rfl,h0⟩
 ·rw[if_pos h0] at h;exact absurd h h0
theorem yqa{s:RS}(hO:N.Ok s)(h:(vP s).2.2=0):s.1=Xb (vP s).1++(vP s).2.1/\s.2=0:=by
 have e:=D.vAa hO h;refine⟨e,err0 hO e ?_⟩;have:=G.uL (C.yC (vP s).1).length;unfold Xb D.QA;rw[List.length_append];omega
theorem all_inv2{s:RS}(hO:N.Ok s){m:Int}(h:(Yr m s).2.2=0):s.1=wO (Yr m s).1++(Yr m s).2.1/\s.2=0:=by
 obtain⟨_,_,_,h4,_⟩:=E.Uh hO m;have e:=(h4 h).1;refine⟨e,err0 hO e ?_⟩;have:=G.uL (Yr m s).1.length;unfold wO;rw[List.length_append];omega
theorem byte_le(s:RS):(xS s).2.1.length<=s.1.length:=by
 unfold xS
 split
 ·simp
 ·split
  ·exact D.Jj _ _
  ·rename_i x r h;rw[h];simp
def memV(s:RS):TMember:=⟨(zx 65535 s).1,(xS (zx 65535 s).2).1,(zN (xS (zx 65535 s).2).2).1⟩
def xka(s:RS):RS:=(zN (xS (zx 65535 s).2).2).2
def vVa(m:TMember):Prop:=(0<=m.dev/\m.dev<=65535)/\(0<=m.slot/\m.slot<=255)/\0<=m.try_/\m.try_<=18446744073709551615
theorem ok_mem{s:RS}(h:N.Ok s):N.Ok (xka s)/\vVa (memV s)/\(xka s).1.length<=s.1.length:=by
 obtain⟨h1,a1,a2⟩:=N.vu h (m:=65535) (by omega);obtain⟨h2,b1,b2⟩:=N.UZ h1;obtain⟨h3,c1,c2⟩:=N.yS h2;exact⟨h3,⟨⟨a1,a2⟩,⟨b1,b2⟩,c1,c2⟩,Nat.le_trans (D.VH _) (Nat.le_trans (byte_le _) (D.w3a _ _))⟩
theorem mem_inv{s:RS}(hO:N.Ok s)(h:(xka s).2=0):s.1=zO (memV s)++(xka s).1/\s.2=0:=by
 obtain⟨o1,_⟩:=N.vu hO (m:=65535) (by omega);obtain⟨o2,_⟩:=N.UZ o1;have e1:=D.we o2 h;have e2:=byte_inv (err0 o2 e1 (G.uL _));have e3:=D.Vl hO e2.2;refine⟨?_,err0 hO e3 (G.uL _)⟩;rw[e3,e2.1,e1];unfold zO memV xka;simp only[List.append_assoc]
theorem vWa{m:TMember}(h:vVa m)(r:List Int):memV (zO m++r,0)=m/\xka (zO m++r,0)=(r,0):=by
 have e:zO m++r=N.yL m.dev++(m.slot::(N.yL m.try_++r)):=by unfold zO;simp
 have e1:=D.Vk (m:=65535) h.1.1 h.1.2 (by omega) (m.slot::(N.yL m.try_++r));have e2:xS (m.slot::(N.yL m.try_++r),0)=(m.slot,(N.yL m.try_++r,0)):=by unfold xS;simp
 have e3:=D.vC h.2.2.1 h.2.2.2 r;unfold memV xka;rw[e,e1];dsimp only;rw[e2];dsimp only;rw[e3];exact⟨rfl,rfl⟩
def Un{α:Type}(f:RS->α×RS):Nat->List α->RS->List α×RS
 | 0,out,s=>(out,s)
 | k+1,out,s=>Un f k (out++[(f s).1]) (f s).2
def memS(s:RS):TMember×RS:=(memV s,xka s)
structure Rd{α:Type}(f:RS->α×RS)(en:α->List Int)(pr:α->Prop):Prop where
 ok:∀ {s},N.Ok s->N.Ok (f s).2/\pr (f s).1/\(f s).2.1.length<=s.1.length
 inv:∀ {s},N.Ok s->(f s).2.2=0->s.1=en (f s).1++(f s).2.1/\s.2=0
 enc:∀ {x},pr x->∀ r,f (en x++r,0)=(x,(r,0))
section
variable{α:Type}{f:RS->α×RS}{en:α->List Int}{ok:α->Prop}(hf:Rd f en ok)
include hf
theorem Rd.many_ok : ∀ (k:Nat) (out:List α) {s:RS},N.Ok s->(∀ x∈out,ok x)->N.Ok (Un f k out s).2/\(∀ x∈(Un f k out s).1,ok x)/\(Un f k out s).1.length=out.length+k/\(Un f k out s).2.1.length<=s.1.length
 | 0,out,s,h,ho=>⟨h,ho,rfl,Nat.le_refl _⟩
 | k+1,out,s,h,ho=>by
  obtain⟨h1,h2,h3⟩:=hf.ok h;obtain⟨g1,g2,g3,g4⟩:=Rd.many_ok k (out++[(f s).1]) h1 (fun x hx=>by
   rcases List.mem_append.1 hx with hx | hx
   ·exact ho x hx
   ·rw[List.mem_singleton.1 hx];exact h2)
  exact⟨g1,g2,by show(Un f k _ _).1.length=_;rw[g3,List.length_append,List.length_singleton];omega,Nat.le_trans g4 h3⟩
theorem Rd.many_inv : ∀ (k:Nat) (out:List α) {s:RS},N.Ok s->(Un f k out s).2.2=0->∃ l,(Un f k out s).1=out++l/\s.1=l.flatMap en++(Un f k out s).2.1/\s.2=0
 | 0,out,s,h,h0=>⟨[],by show out=_;simp,by show s.1=[]++s.1;rfl,h0⟩
 | k+1,out,s,h,h0=>by
  obtain⟨h1,_,_⟩:=hf.ok h;obtain⟨l,g1,g2,g3⟩:=Rd.many_inv k (out++[(f s).1]) h1 h0;obtain⟨e1,e2⟩:=hf.inv h g3;refine⟨(f s).1::l,?_,?_,e2⟩
  ·show(Un f k _ _).1=_;rw[g1,List.append_assoc];rfl
  ·rw[e1,g2,List.flatMap_cons,List.append_assoc];rfl
theorem Rd.many_enc : ∀ (l out:List α) (r:List Int),(∀ x∈l,ok x)->Un f l.length out (l.flatMap en++r,0)=(out++l,(r,0))
 | [],out,r,_=>by simp[Un]
 | x::l,out,r,h=>by
  show Un f l.length (out++[(f _).1]) (f _).2=_;rw[List.flatMap_cons,List.append_assoc,hf.enc (h x (by simp)) (l.flatMap en++r)];dsimp only;rw[Rd.many_enc l (out++[x]) r (fun y hy=>h y (by simp[hy])),List.append_assoc];rfl
end
theorem rd_mem : Rd memS zO vVa:=⟨fun h=>ok_mem h,fun h=>mem_inv h,fun h r=>Prod.ext (vWa h r).1 (vWa h r).2⟩
def OkU(x:Int):Prop:=0<=x/\x<=18446744073709551615
theorem rd_num : Rd zN N.yL OkU:=
 ⟨fun h=>⟨(N.yS h).1,(N.yS h).2,D.VH _⟩,fun h h0=>⟨D.we h h0,err0 h (D.we h h0) (G.uL _)⟩,fun h r=>D.vC h.1 h.2 r⟩
def rowL : List TMember->List TRow->RS->List TRow×RS
 | [],out,s=>(out,s)
 | m::l,out,s=>rowL l (out++[⟨m.dev,(vP s).1⟩]) (vP s).2
def OkX(c:List PT)(n:Nat):Prop:=(∀ p∈c,D.OkP p)/\c.length+C.ya c<=n
theorem zea{n:Nat}:∀ (l:List TMember) (out:List TRow) {s:RS},N.Ok s->s.1.length<=n->(∀ r∈out,OkX r.have_ n)->N.Ok (rowL l out s).2/\(∀ r∈(rowL l out s).1,OkX r.have_ n)/\(rowL l out s).1.length=out.length+l.length/\(rowL l out s).2.1.length<=s.1.length
 | [],out,s,h,_,ho=>⟨h,ho,rfl,Nat.le_refl _⟩
 | m::l,out,s,h,hn,ho=>by
  obtain⟨h1,h2,_⟩:=D.uu h;obtain⟨h4,h5⟩:=G.QY h;obtain⟨g1,g2,g3,g4⟩:=zea (n:=n) l (out++[⟨m.dev,(vP s).1⟩]) h1 (by omega) (fun x hx=>by
   rcases List.mem_append.1 hx with hx | hx
   ·exact ho x hx
   ·rw[List.mem_singleton.1 hx];exact⟨h2,by show(vP s).1.length+C.ya (vP s).1<=n;omega⟩)
  exact⟨g1,g2,by show(rowL l _ _).1.length=_;rw[g3,List.length_append,List.length_singleton,List.length_cons];omega,Nat.le_trans g4 h5⟩
theorem yra : ∀ (l:List TMember) (out:List TRow) {s:RS},N.Ok s->(rowL l out s).2.2=0->∃ q,(rowL l out s).1=out++q/\s.1=q.flatMap YI++(rowL l out s).2.1/\s.2=0
 | [],out,s,h,h0=>⟨[],by show out=_;simp,by show s.1=[]++s.1;rfl,h0⟩
 | m::l,out,s,h,h0=>by
  obtain⟨h1,_⟩:=D.uu h;obtain⟨q,g1,g2,g3⟩:=yra l (out++[⟨m.dev,(vP s).1⟩]) h1 (show(rowL l (out++[⟨m.dev,(vP s).1⟩]) (vP s).2).2.2=0 from h0);obtain⟨e1,e2⟩:=yqa h g3;refine⟨⟨m.dev,(vP s).1⟩::q,?_,?_,e2⟩
  ·show(rowL l _ _).1=_;rw[g1,List.append_assoc];rfl
  ·rw[e1,g2,List.flatMap_cons,List.append_assoc];rfl
theorem ysa : ∀ (l:List TMember) (q out:List TRow) (r:List Int),l.map (·.dev)=q.map (·.who)->(∀ x∈q,OkC x.have_/\x.have_=C.yC x.have_)->rowL l out (q.flatMap YI++r,0)=(out++q,(r,0))
 | [],[],out,r,_,_=>by simp[rowL]
 | [],_::_,_,_,h,_=>by simp at h
 | _::_,[],_,_,h,_=>by simp at h
 | m::l,x::q,out,r,h,ho=>by
  obtain⟨h1,h2⟩:=ho x (by simp);have hd:m.dev=x.who:=by have:=congrArg List.head? h;simpa using this
  have ht:l.map (·.dev)=q.map (·.who):=by have:=congrArg List.tail h;simpa using this
  show rowL l (out++[⟨m.dev,(vP _).1⟩]) (vP _).2=_;rw[List.flatMap_cons,List.append_assoc,YI,D.w8a h1.2.1 (by have:=h1.2.2.1;have:=h1.2.2.2;omega) (q.flatMap YI++r)];dsimp only;rw[ysa l q _ r ht (fun y hy=>ho y (by simp[hy])),List.append_assoc,<- h2,hd];rfl
def wh(s:RS):List TMember×RS:=if 16 < (zN s).1 then ([],N.vt 3 (zN s).2) else Un memS (zN s).1.toNat [] (zN s).2
def p1(b:List Int):RS:=(zN (b,0)).2
def p2(b:List Int):RS:=(zx 65535 (p1 b)).2
def p3(b:List Int):RS:=(wh (p2 b)).2
def p4(b:List Int):RS:=(Un zN 16 [] (p3 b)).2
def p5(b:List Int):RS:=(rowL (wh (p2 b)).1 [] (p4 b)).2
def p6(b:List Int):RS:=(vP (p5 b)).2
def p7(b:List Int):RS:=(Yr 4096 (p6 b)).2
def stH(b:List Int):THubState:=
 ⟨(zN (b,0)).1,(zx 65535 (p1 b)).1,(wh (p2 b)).1,(Un zN 16 [] (p3 b)).1,(rowL (wh (p2 b)).1 [] (p4 b)).1,(vP (p5 b)).1,(Yr 4096 (p6 b)).1⟩
def zH : THubState:=⟨0,0,[],[],[],[],[]⟩
def getH(b:List Int):THubState×Int:=if (Ux (p7 b)).1≠0 then (zH,(Ux (p7 b)).1) else if Yu (stH b)=true then (stH b,0) else (zH,4)
theorem zfa{s:RS}(h:N.Ok s):N.Ok (wh s).2/\(∀ x∈(wh s).1,vVa x)/\(wh s).1.length<=16/\(wh s).2.1.length<=s.1.length:=by
 obtain⟨h1,h2,h3⟩:=N.yS h;have hl:=D.VH s;unfold wh
 split
 ·exact⟨N.Zy h1 3,fun x hx=>absurd hx List.not_mem_nil,by simp,Nat.le_trans (D.Jj _ _) hl⟩
 ·obtain⟨g1,g2,g3,g4⟩:=rd_mem.many_ok (zN s).1.toNat [] h1 (fun x hx=>absurd hx List.not_mem_nil);exact⟨g1,g2,by rw[g3,List.length_nil];omega,Nat.le_trans g4 hl⟩
theorem okC_x{c:List PT}(h:OkX c 1500):OkC c:=⟨D.okC_of h.1 (by have:=h.2;omega),fun p hp=>(h.1 p hp).d1,by have:=h.2;omega,by have:=h.2;omega⟩
structure Oks(b:List Int):Prop where
 o1:N.Ok (p1 b)
 o2:N.Ok (p2 b)
 o3:N.Ok (p3 b)
 o4:N.Ok (p4 b)
 o5:N.Ok (p5 b)
 o6:N.Ok (p6 b)
 o7:N.Ok (p7 b)
theorem oks{b:List Int}(hB:OkB b):Oks b:=by
 have o1:N.Ok (p1 b):=(N.yS hB.ok).1;have o2:N.Ok (p2 b):=(N.vu o1 (by omega)).1;have o3:N.Ok (p3 b):=(zfa o2).1;have o4:N.Ok (p4 b):=(rd_num.many_ok 16 [] o3 (fun x hx=>absurd hx List.not_mem_nil)).1;have o5:N.Ok (p5 b):=(zea (n:=1000000000) (wh (p2 b)).1 [] o4 o4.len (fun x hx=>absurd hx List.not_mem_nil)).1;have o6:N.Ok (p6 b):=(D.uu o5).1;exact⟨o1,o2,o3,o4,o5,o6,E.ok_all o6 4096⟩
theorem okS_read{b:List Int}(hB:OkB b)(hl:b.length<=1500):OkS (stH b):=by
 have o:=oks hB;obtain⟨_,a1,a2⟩:=N.yS hB.ok;have l1:(p1 b).1.length<=b.length:=D.VH (b,0);obtain⟨_,a3,a4⟩:=N.vu o.o1 (m:=65535) (by omega);have l2:(p2 b).1.length<=(p1 b).1.length:=D.w3a _ _;obtain⟨_,b2,b3,l3⟩:=zfa o.o2;obtain⟨_,c2,c3,l4⟩:=rd_num.many_ok 16 [] o.o3 (fun x hx=>absurd hx List.not_mem_nil);have l3':(p3 b).1.length<=(p2 b).1.length:=l3;have l4':(p4 b).1.length<=(p3 b).1.length:=l4;obtain⟨_,d2,d3,l5⟩:=zea (n:=1500) (wh (p2 b)).1 [] o.o4 (by omega) (fun x hx=>absurd hx List.not_mem_nil);have l5':(p5 b).1.length<=(p4 b).1.length:=l5;obtain⟨_,e2,_⟩:=D.uu o.o5;obtain⟨e3,l6⟩:=G.QY o.o5;have l6':(p6 b).1.length<=(p5 b).1.length:=l6;obtain⟨_,f2,_,_,_⟩:=E.Uh o.o6 4096;have f3:=G.vSa o.o6 4096;exact⟨⟨a1,a2⟩,⟨a3,a4⟩,b2,by show(wh (p2 b)).1.length<=400;omega,c2,by show(Un zN 16 [] (p3 b)).1.length<=400;rw[c3,List.length_nil];omega,fun r hr=>okC_x (d2 r hr),by show(rowL _ _ _).1.length<=400;rw[d3,List.length_nil];omega,
  okC_x ⟨e2,by show(vP (p5 b)).1.length+C.ya (vP (p5 b)).1<=1500;omega⟩,fun e he=>⟨(f2 e he).1,by have:=G.good_kl9 (f2 e he).2;omega,by have:=G.vRa (f2 e he).2;omega⟩,by show(Yr 4096 (p6 b)).1.length<=2000;omega⟩
theorem mem_step{ρ:Type}{s:RS}(h:N.Ok s)(K:TMember->List Int->Int->M ρ) :
  ((det (zl 65535 s.1 s.2)).bind fun y36=>(det (zm y36.2.1 y36.2.2)).bind fun y38=>(det (zK y38.2.1 y38.2.2)).bind fun y40=>K ⟨IntKind.u16.wrap y36.1,y38.1,y40.1⟩ y40.2.1 y40.2.2)=K (memV s) (xka s).1 (xka s).2:=by
 obtain⟨h1,a1,a2⟩:=N.vu h (m:=65535) (by omega);obtain⟨h2,_⟩:=N.UZ h1;rw[N.Ja h,zB,zA,N.Jb h1,zB,zA,N.ZI h2,zB,zA,wU16 a1 a2]
 rfl
theorem yta{y:Int×List Int×Int}(hy:0<=y.1/\y.1<=16):∀ (k i:Nat) (out:List TMember) {s:RS},(i:Int)+k=y.1->N.Ok s->out.length<=i->loop (ZE y) ((i:Int),out,s.1,s.2)=pure (Un memS k out s)
 | 0,i,out,s,hi,h,_=>zV (by
  show cond (decide ((i:Int) < y.1)) _ _=_;rw[decide_eq_false (by omega)];rfl)
 | k+1,i,out,s,hi,h,ho=>by
  have h1:=(ok_mem h).1;rw[zg (s':=(((i+1:Nat):Int),out++[memV s],(xka s).1,(xka s).2)) (by
   show cond (decide ((i:Int) < y.1)) _ _=_;rw[decide_eq_true (by omega),cond_true];refine(mem_step h fun m b e=>yb ((out.length+[m].length)*16<=140737488355328) (pure (Step.next (IntKind.u64.wrap ((i:Int)+1),out++[m],b,e)))).trans ?_;rw[zF (by rw[List.length_singleton];omega),Wj (by omega) (by omega)];rfl)]
  exact yta hy k (i+1) (out++[memV s]) (by omega) h1 (by rw[List.length_append,List.length_singleton];omega)
theorem xea{s:RS}(h:N.Ok s):xd s.1 s.2=pure (wh s):=by
 obtain⟨h1,h2,h3⟩:=N.yS h;unfold xd wh;rw[N.ZI h,zB,zA]
 by_cases c:16 < (zN s).1
 ·rw[decide_eq_true c,cond_true,if_pos c];show M.bind (det (zE 3 (zN s).2.1 (zN s).2.2)) _=_;rw[N.ut,zB,zA]
 ·rw[decide_eq_false c,cond_false,if_neg c];show M.bind (loop _ (((0:Nat):Int),[],(zN s).2.1,(zN s).2.2)) _=_;rw[yta (y:=zN s) ⟨h2,by omega⟩ (zN s).1.toNat 0 [] (by omega) h1 (by simp),zA]
theorem yua : ∀ (k i:Nat) (out:List Int) {s:RS},i+k=16->N.Ok s->out.length<=i->loop Ya ((i:Int),out,s.1,s.2)=pure (Un zN k out s)
 | 0,i,out,s,hi,h,_=>zV (by
  show cond (decide ((i:Int) < 16)) _ _=_;rw[decide_eq_false (by omega)];rfl)
 | k+1,i,out,s,hi,h,ho=>by
  have h1:=(N.yS h).1;rw[zg (s':=(((i+1:Nat):Int),out++[(zN s).1],(zN s).2.1,(zN s).2.2)) (by
   show cond (decide ((i:Int) < 16)) _ _=_;rw[decide_eq_true (by omega),cond_true,N.ZI h,zB,zA,zF (by rw[List.length_singleton];omega),yt (by omega)])]
  exact yua k (i+1) (out++[(zN s).1]) (by omega) h1 (by rw[List.length_append,List.length_singleton];omega)
theorem Vf{y:List TMember×List Int×Int}(hy:y.1.length<=16):∀ (k i:Nat) (out:List TRow) {s:RS},i+k=y.1.length->N.Ok s->out.length<=i->loop (Yb y) ((i:Int),out,s.1,s.2)=pure (rowL (y.1.drop i) out s)
 | 0,i,out,s,hi,h,_=>by
  rw[List.drop_eq_nil_of_le (by omega)];exact zV (by
   show cond (decide ((i:Int) < (y.1.length:Int))) _ _=_;rw[decide_eq_false (by omega)];rfl)
 | k+1,i,out,s,hi,h,ho=>by
  have h1:=(D.uu h).1;have hlt:i < y.1.length:=by omega
  rw[zg (s':=(((i+1:Nat):Int),out++[⟨y.1[i].dev,(vP s).1⟩],(vP s).2.1,(vP s).2.2)) (by
   show cond (decide ((i:Int) < (y.1.length:Int))) _ _=_;rw[decide_eq_true (by omega),cond_true,zT (List.getElem?_eq_getElem hlt),zA,D.Ctx_eq h,zB,zA,zF (by rw[List.length_singleton];omega),yt (by omega)]),List.drop_eq_getElem_cons hlt]
  exact Vf hy k (i+1) (out++[⟨y.1[i].dev,(vP s).1⟩]) (by omega) h1 (by rw[List.length_append,List.length_singleton];omega)
theorem yha{b:List Int}(hB:OkB b)(ho:(Ux (p7 b)).1=0->OkS (stH b)):ue b=pure (getH b):=by
 have o:=oks hB;obtain⟨_,a3,a4⟩:=N.vu o.o1 (m:=65535) (by omega);have hm:=(zfa o.o2).2.2.1;unfold ue;rw[N.New_eq _ hB.len,zB,zA];show M.bind (det (zK ((b,0):RS).1 ((b,0):RS).2)) _=_;rw[N.ZI hB.ok,zB,zA];show M.bind (det (zl 65535 (p1 b).1 (p1 b).2)) _=_;rw[N.Ja o.o1,zB,zA];show M.bind (det (xd (p2 b).1 (p2 b).2)) _=_;rw[xea o.o2,zB,zA];show M.bind (loop Ya (((0:Nat):Int),[],(p3 b).1,(p3 b).2)) _=_;rw[yua 16 0 [] (by omega) o.o3 (by simp),zA];show M.bind (loop (Yb (wh (p2 b))) (((0:Nat):Int),[],(p4 b).1,(p4 b).2)) _=_;rw[Vf (y:=wh (p2 b)) hm _ 0 [] (Nat.zero_add _) o.o4 (by simp),zA,List.drop_zero];show M.bind (det (vJ (p5 b).1 (p5 b).2)) _=_;rw[D.Ctx_eq o.o5,zB,zA];show M.bind (det (wI 4096 (p6 b).1 (p6 b).2)) _=_;rw[E.vMa o.o6 (by omega),zB,zA];show M.bind (det (yz (p7 b).1 (p7 b).2)) _=_;rw[N.End_eq,zB,zA,wU16 a3 a4];unfold getH
 by_cases h:(Ux (p7 b)).1=0
 ·rw[decide_eq_true h,if_neg (by simpa using h)];show M.bind (det (uO (stH b))) _=_;rw[vTa (ho h),zB,zA]
  cases Yu (stH b) <;> rfl
 ·rw[decide_eq_false h,if_pos h];rfl
open E (OkE wO Yr)
open D (Xb vP)
open N (RS zN zx xS Ux Sim OkB)
theorem Same_eq{s:THubState}(h:OkS s):WF s s=pure true:=by
 have ml:=h.mlen;have tl:=h.tlen;have rl:=h.rlen;have al:=h.alen;unfold WF;rw[H.Same_eq s.members (by omega),C.rEq_sm _ _ h.ctx.1.sm,E.rAll_eq s.all s.all (by omega) (fun e he=>by have:=(h.all e he).2.1;omega)];have k0:=vL (body:=UE s s) s.tries (fun i=>(i:Int)) (fun _ _=>true) (Ex.brk ()) (Ex.ret false) (fun i x hx hi=>by
  show cond (decide ((i:Int) < (s.tries.length:Int))) _ _=_;rw[decide_eq_true (by omega),cond_true,zT hx,zA,zA,decide_eq_true rfl,yt (by omega)];rfl) (by
  show cond (decide ((s.tries.length:Int) < (s.tries.length:Int))) _ _=_;rw[decide_eq_false (by omega)];rfl)
 have k1:=vL (body:=UF s s) s.rows (fun i=>(i:Int)) (fun _ _=>true) (Ex.brk ()) (Ex.ret false) (fun i x hx hi=>by
  show cond (decide ((i:Int) < (s.rows.length:Int))) _ _=_;rw[decide_eq_true (by omega),cond_true,zT hx,zA,zA,decide_eq_true rfl,Bool.not_true,cond_false,zA,zA,C.rEq_sm _ _ (h.rows x (List.mem_of_getElem? hx)).1.sm,decide_eq_true rfl,zB,zA,yt (by omega)];rfl) (by
  show cond (decide ((s.rows.length:Int) < (s.rows.length:Int))) _ _=_;rw[decide_eq_false (by omega)];rfl)
 have e:∀ {α:Type} (l:List α),(l.zipIdx.all fun _=>true)=true:=fun l=>List.all_eq_true.2 fun _ _=>rfl
 rw[e,if_pos rfl] at k0 k1;simp only[decide_true,Bool.not_true,cond_false,zB,zA];show M.bind (loop _ ((0:Nat):Int)) _=_;rw[k0,zA,uV];show M.bind (loop _ ((0:Nat):Int)) _=_;rw[k1,zA,uV]
open E (OkE wO Yr yH)
open D (Xb vP)
open N (RS zN zx xS Ux Sim OkB)
theorem vXa{α:Type}{l:List α}{p:α×Nat->Bool}(h:l.zipIdx.any p=false){i:Nat}{x:α}(hx:l[i]?=some x):p (x,i)=false:=by
 have:=List.any_eq_false.1 h (x,i) (by rw[List.mem_zipIdx_iff_getElem?];exact hx);simpa using this
structure Fit(s:THubState):Prop where
 ok:OkS s
 m16:s.members.length<=16
 t16:s.tries.length=16
 who:s.members.map (·.dev)=s.rows.map (·.who)
 rows:∀ r∈s.rows,r.have_=C.yC r.have_
 ctx:s.ctx=C.yC s.ctx
 srt:E.vv s.all
 good:∀ e∈s.all,yH e=true
theorem fit{s:THubState}(h:OkS s)(hf:Yu s=true):Fit s:=by
 unfold Yu at hf;rw[Bool.and_eq_true,Bool.and_eq_true] at hf;obtain⟨f1,f2,f3⟩:=hf;have hb:=G.From_eq (c:=s.ctx) (l:=s.all) h.ctx.1 (n:=2000) h.ctx.2.2.1 h.ctx.2.2.2 h.alen (by omega) (fun e he=>⟨(h.all e he).1,(h.all e he).2.1⟩);rw[if_pos f2] at hb;obtain⟨_,_,_,_,_,rep⟩:=hb;unfold G.fromB at f2;rw[Bool.and_eq_true,Bool.and_eq_true] at f2;unfold rowsB at f3;rw[Bool.and_eq_true,Bool.not_eq_true'] at f3;have hlen:=of_decide_eq_true f3.1;have hrow:∀ (i:Nat) (r:TRow),s.rows[i]?=some r->r.who=(s.members.getD i H.zM).dev/\r.have_=C.yC r.have_:=fun i r hr=>by
  have:=vXa f3.2 hr;simp only[badR,Bool.or_eq_false_iff,Bool.not_eq_false'] at this;exact⟨of_decide_eq_true this.1,of_decide_eq_true this.2⟩
 unfold H.fromB at f1;rw[Bool.and_eq_true,Bool.not_eq_true',Bool.not_eq_true'] at f1;have h16:s.tries.length=16:=by
  have f:=f1.1;unfold H.head0 at f;rw[Bool.or_eq_false_iff,Bool.or_eq_false_iff,Bool.not_eq_false'] at f;have:=of_decide_eq_true f.2.2;omega
 have hm:∀ (i:Nat) (x:TMember),s.members[i]?=some x->x.slot < 16/\(H.fnd (H.atS x.slot) (s.members.take i)).2=false:=fun i x hx=>by
  have:=vXa f1.2 hx;simp only[H.badF,H.bad2,Bool.or_eq_false_iff] at this;have h1:=of_decide_eq_false this.2.1.1;exact⟨by omega,this.2.2⟩
 refine⟨h,?_,h16,?_,fun r hr=>?_,of_decide_eq_true f2.2.1,rep.srt,fun e he=>(rep.good e he).1⟩
 ·have hn:(s.members.map fun m=>m.slot.toNat).Nodup:=by
   rw[List.nodup_iff_pairwise_ne,List.pairwise_iff_getElem];intro i j hi hj hij he;rw[List.length_map] at hi hj;rw[List.getElem_map,List.getElem_map] at he;obtain⟨_,g⟩:=hm j _ (List.getElem?_eq_getElem hj);have hmi:s.members[i]∈s.members.take j:=by
    rw[List.mem_take_iff_getElem];exact⟨i,by omega,rfl⟩
   have:=(H.fnd_none g).2 _ hmi;unfold H.atS at this;have h2:=of_decide_eq_false this;have p1:=(h.mem _ (List.getElem_mem hi)).2.1.1;have p2:=(h.mem _ (List.getElem_mem hj)).2.1.1;omega
  have:=hn.length_le_of_subset (l₂:=List.range 16) (fun k hk=>by
   obtain⟨m,hm1,rfl⟩:=List.mem_map.1 hk;obtain⟨i,hi⟩:=List.getElem?_of_mem hm1;have:=(hm i m hi).1;rw[List.mem_range];omega)
  simpa using this
 ·refine List.ext_getElem (by simp[hlen]) fun i h1 h2=>?_
  rw[List.length_map] at h1 h2;rw[List.getElem_map,List.getElem_map,(hrow i _ (List.getElem?_eq_getElem h2)).1,List.getD_eq_getElem?_getD,List.getElem?_eq_getElem h1];rfl
 ·obtain⟨i,hi⟩:=List.getElem?_of_mem hr;exact(hrow i r hi).2
theorem mems_enc{l:List TMember}(h:∀ m∈l,vVa m)(h16:l.length<=16)(r:List Int):wh (N.yL l.length++(l.flatMap zO++r),0)=(l,(r,0)):=by
 unfold wh;rw[D.vC (by omega) (by omega)];dsimp only;rw[if_neg (by omega),Int.toNat_natCast,rd_mem.many_enc l [] r h];rfl
theorem read_put{s:THubState}(h:Fit s):stH (jB s)=s/\p7 (jB s)=([],0):=by
 have ok:=h.ok;have e1:zN (jB s,0)=(s.epoch,(N.yL s.last++(N.yL s.members.length++(s.members.flatMap zO++(s.tries.flatMap N.yL++(s.rows.flatMap YI++(Xb s.ctx++wO s.all))))),0)):=D.vC ok.epoch.1 ok.epoch.2 _;have e2:zx 65535 (p1 (jB s))=(s.last,(N.yL s.members.length++(s.members.flatMap zO++(s.tries.flatMap N.yL++(s.rows.flatMap YI++(Xb s.ctx++wO s.all)))),0)):=by
  unfold p1;rw[e1];exact D.Vk ok.last.1 ok.last.2 (by omega) _
 have e3:wh (p2 (jB s))=(s.members,(s.tries.flatMap N.yL++(s.rows.flatMap YI++(Xb s.ctx++wO s.all)),0)):=by
  unfold p2;rw[e2];exact mems_enc ok.mem h.m16 _
 have e4:Un zN 16 [] (p3 (jB s))=(s.tries,(s.rows.flatMap YI++(Xb s.ctx++wO s.all),0)):=by
  unfold p3;rw[e3,<- h.t16];exact rd_num.many_enc s.tries [] _ ok.tries
 have e5:rowL (wh (p2 (jB s))).1 [] (p4 (jB s))=(s.rows,(Xb s.ctx++wO s.all,0)):=by
  unfold p4;rw[e3,e4];exact ysa s.members s.rows [] _ h.who (fun r hr=>⟨ok.rows r hr,h.rows r hr⟩)
 have e6:vP (p5 (jB s))=(s.ctx,(wO s.all,0)):=by
  unfold p5;rw[e5];have:=D.w8a (c:=s.ctx) ok.ctx.2.1 (by have:=ok.ctx.2.2.1;have:=ok.ctx.2.2.2;omega) (wO s.all);rw[<- h.ctx] at this;exact this
 have e7:Yr 4096 (p6 (jB s))=(s.all,([],0)):=by
  unfold p6;rw[e6];have:=E.all_enc h.srt (fun e he=>⟨(ok.all e he).1,h.good e he⟩) (most:=4096) (by have:=ok.alen;omega) (by have:=ok.alen;omega) [];rw[List.append_nil] at this;exact this
 refine⟨?_,by unfold p7;rw[e7]⟩;unfold stH;rw[e1,e2,e3,e4,e6,e7];have e5':=e5;rw[e3] at e5';rw[e5']
theorem okB_put{s:THubState}(h:Fit s):OkB (jB s):=by
 have ok:=h.ok;have he:=ok.epoch;have hla:=ok.last;have ml:=ok.mlen;have al:=ok.alen;have tl:=ok.tlen;have rl:=ok.rlen;have hC:∀ {c:List PT},OkC c->N.By (Xb c):=fun {c} hc=>(D.okB_encC hc.2.1 (by have:=hc.2.2.1;have:=hc.2.2.2;omega)).by_
 have hfl:∀ {α:Type} (l:List α) (f:α->List Int),(∀ x∈l,N.By (f x))->N.By (l.flatMap f):=fun l f hl x hx=>by
  obtain⟨y,hy,hy2⟩:=List.mem_flatMap.1 hx;exact hl y hy x hy2
 constructor
 ·unfold jB;refine(N.vA (by omega)).app ((N.vA (by omega)).app ((N.vA (by omega)).app ((hfl _ _ fun m hm=>?_).app ((hfl _ _ fun t ht=>N.vA (by have:=ok.tries t ht;omega)).app ((hfl _ _ fun r hr=>hC (ok.rows r hr)).app ((hC ok.ctx).app (E.by_encEs (fun e he=>⟨(ok.all e he).1,h.good e he⟩) (by omega))))))));have:=ok.mem m hm;refine(N.vA (by omega)).app (N.By.app (fun x hx=>?_) (N.vA (by omega)));rw[List.mem_singleton.1 hx];omega
 ·have e1:=N.ze (v:=s.epoch) (by omega);have e2:=N.ze (v:=s.last) (by omega);have e3:=N.ze (v:=(s.members.length:Int)) (by omega);have e9:=N.ze (v:=(s.all.length:Int)) (by omega);have e4:=xu s.members zO 19 fun m hm=>Zj (ok.mem m hm)
  have e5:=xu s.tries N.yL 9 fun t ht=>N.ze (by have:=ok.tries t ht;omega)
  have e6:=xu s.rows YI 200000 fun r hr=>WY (ok.rows r hr)
  have e7:=WY ok.ctx;have e8:=E.QQ (l:=s.all) (fun e he=>(ok.all e he).1) (fun e he=>(ok.all e he).2);unfold jB wO;simp only[List.length_append];omega
theorem put_get{s:THubState}(h:OkS s)(hf:Yu s=true):ue (jB s)=pure (s,0):=by
 have hF:=fit h hf;obtain⟨r1,r2⟩:=read_put hF;rw[yha (okB_put hF) (fun _=>by rw[r1];exact h)];unfold getH;rw[r2,r1,hf];rfl
theorem mems_inv{s:RS}(hO:N.Ok s)(h:(wh s).2.2=0):s.1=N.yL (wh s).1.length++((wh s).1.flatMap zO++(wh s).2.1)/\s.2=0:=by
 obtain⟨h1,h2,h3⟩:=N.yS hO;unfold wh at h ⊢
 by_cases c:16 < (zN s).1
 ·rw[if_pos c] at h;exact absurd h (N.xt (by decide))
 ·rw[if_neg c] at h ⊢;obtain⟨_,_,g3,_⟩:=rd_mem.many_ok (zN s).1.toNat [] h1 (fun x hx=>absurd hx List.not_mem_nil);obtain⟨l,g1,g2,g4⟩:=rd_mem.many_inv (zN s).1.toNat [] h1 h;have e1:=D.we hO g4;have e2:=err0 hO e1 (G.uL _);refine⟨?_,e2⟩;rw[g3,List.length_nil,Nat.zero_add,Int.toNat_of_nonneg h2,g1,List.nil_append,<- g2];exact e1
theorem get_put{b:List Int}(hB:OkB b)(h:(Ux (p7 b)).1=0):b=jB (stH b):=by
 have o:=oks hB;obtain⟨e7,z7⟩:=D.end_ok h;obtain⟨i7,z6⟩:=all_inv2 o.o6 (show(Yr 4096 (p6 b)).2.2=0 from z7);obtain⟨i6,z5⟩:=yqa o.o5 (show(vP (p5 b)).2.2=0 from z6);obtain⟨l5,j5,i5,z4⟩:=yra _ _ o.o4 (show(rowL (wh (p2 b)).1 [] (p4 b)).2.2=0 from z5);obtain⟨l4,j4,i4,z3⟩:=rd_num.many_inv 16 [] o.o3 (show(Un zN 16 [] (p3 b)).2.2=0 from z4);obtain⟨i3,z2⟩:=mems_inv o.o2 (show(wh (p2 b)).2.2=0 from z3);have i2:=D.Vl o.o1 (show(zx 65535 (p1 b)).2.2=0 from z2);have z1:=err0 o.o1 i2 (G.uL _);have i1:b=N.yL (zN (b,0)).1++(p1 b).1:=D.we hB.ok (show(zN (b,0)).2.2=0 from z1);have i2':(p1 b).1=N.yL (zx 65535 (p1 b)).1++(p2 b).1:=i2;have i3':(p2 b).1=N.yL (wh (p2 b)).1.length++((wh (p2 b)).1.flatMap zO++(p3 b).1):=i3;have i4':(p3 b).1=(Un zN 16 [] (p3 b)).1.flatMap N.yL++(p4 b).1:=by rw[j4,List.nil_append];exact i4
 have i5':(p4 b).1=(rowL (wh (p2 b)).1 [] (p4 b)).1.flatMap YI++(p5 b).1:=by rw[j5,List.nil_append];exact i5
 have i6':(p5 b).1=Xb (vP (p5 b)).1++(p6 b).1:=i6;have i7':(p6 b).1=wO (Yr 4096 (p6 b)).1:=by
  have:(p6 b).1=wO (Yr 4096 (p6 b)).1++(p7 b).1:=i7;rw[e7,List.append_nil] at this;exact this
 unfold jB stH;dsimp only;rw[<- i7',<- i6',<- i5',<- i4',<- i3',<- i2',<- i1]
theorem hcodeBack_eq(s:THubState)(b:List Int)(hi:InS s)(hb:∀ x∈b,0<=x/\x<=255):uF s b=pure true:=by
 unfold uF;obtain⟨f,hf,ho⟩:=Few_ok hi;rw[hf,zB,zA,works34,zB,zA]
 cases f with
 | false=>rfl
 | true=>
  have ok:=ho rfl;rw[Bool.not_true,cond_false,zA]
  by_cases hl:1500 < b.length
  ·rw[decide_eq_true (show(1500:Int) < (b.length:Int) by omega)];rfl
  have hB:OkB b:=⟨hb,by omega⟩
  have okb:=okS_read hB (by omega);rw[decide_eq_false (show ¬ (1500:Int) < (b.length:Int) by omega),cond_false,QP ok,zB,zA];have first:(cond (decide ((if Yu s=true then (jB s,(0:Int)) else ([],1)).2=0)) ((det (ue (if Yu s=true then (jB s,(0:Int)) else ([],1)).1)).bind fun v13=>M.bind (cond (!decide (v13.2=0)) (pure true) ((det (WF s v13.1)).bind fun v17=>pure (!v17))) fun v15=>cond v15 (pure (Ex.ret false)) (pure (Ex.brk ()))) (pure (Ex.brk ())):M (Ex Unit Bool))=pure (Ex.brk ()):=by
   cases h1:Yu s with
   | false=>rfl
   | true=>
    rw[if_pos rfl];dsimp only;rw[put_get ok h1,zB,zA];dsimp only;rw[Same_eq ok,zB];rfl
  rw[first,zA,uV,yha hB (fun _=>okb),zB,zA];have second:(cond (decide ((getH b).2=0)) ((det (ub (getH b).1)).bind fun v23=>M.bind (cond (!decide (v23.2=0)) (pure true) ((det (uc v23.1 b)).bind fun v27=>pure (!v27))) fun v25=>cond v25 (pure (Ex.ret false)) (pure (Ex.brk ()))) (pure (Ex.brk ())):M (Ex Unit Bool))=pure (Ex.brk ()):=by
   unfold getH
   by_cases h1:(Ux (p7 b)).1=0
   ·rw[if_neg (by simpa using h1)]
    cases h2:Yu (stH b) with
    | false=>rw[if_neg (by simp)];rfl
    | true=>
     rw[if_pos rfl];dsimp only;rw[QP okb,if_pos h2,zB,zA];dsimp only;rw[<- get_put hB h1,ypa,zB];rfl
   ·rw[if_pos h1];dsimp only;rw[decide_eq_false h1];rfl
  rw[second,zA,uV]
end Go.Ep.M.Y
namespace Go.Ep
open Go.RowKit Go.ChangeShapes Go.WideShapes
abbrev All : Nat->Prop:=fun _=>True
mutual
def jC{H:Type}:DataW H->Nat
 | .lit (.string bytes)=>bytes.length+1
 | .lit _=>1
 | .nil=>1
 | .ptr d=>jC d+1
 | .slice elems spare=>vQ elems+vQ spare+1
 | .agg parts=>vQ parts+1
 | .iface _ d=>jC d+1
 | .map entries=>Uj entries+1
 | .held _=>1
def vQ{H:Type}:List (DataW H)->Nat
 | []=>0
 | d::r=>jC d+vQ r
def Uj{H:Type}:List (Lit×DataW H)->Nat
 | []=>0
 | x::r=>vYa x+Uj r
def vYa{H:Type}:Lit×DataW H->Nat
 | (.string bytes,d)=>bytes.length+jC d+1
 | (_,d)=>jC d+1
end
theorem yva{H:Type}(d:DataW H):1<=jC d:=by
 cases d with
 | lit l=>cases l <;> simp[jC]
 | nil=>simp[jC]
 | ptr d=>simp[jC]
 | slice elems spare=>simp[jC]
 | agg parts=>simp[jC]
 | iface t d=>simp[jC]
 | map entries=>simp[jC]
 | held h=>simp[jC]
theorem zga{H:Type}(l r:List (DataW H)):vQ (l++r)=vQ l+vQ r:=by
 induction l with
 | nil=>simp[vQ]
 | cons x l ih=>simp only[List.cons_append,vQ,ih];omega
def szL{α:Type}(sz:α->Nat):List α->Nat
 | []=>0
 | a::r=>sz a+szL sz r
theorem szL_app{α:Type}(sz:α->Nat)(l r:List α):szL sz (l++r)=szL sz l+szL sz r:=by
 induction l with
 | nil=>simp[szL]
 | cons x l ih=>simp only[List.cons_append,szL,ih];omega
structure Opn(P:Program)(t:TypeId)(k:Nat){α:Type}(enc:α->List DV)(ok:α->Prop)(sz:α->Nat):Prop where
 cells:P.cellsOf t=k
 op:∀ {H:Type} {en:TypeId×Value->H} {w:World} {fuel:Nat} {cs:List Value} {x:DataW H×List MemPlace},DataW.trod en P w 0 (fun _=>true) true fuel t cs=some x ->
  ∃ a,ok a/\cs.length=k/\(enc a).length=k/\(∀ (j:Nat) (y:DV) (u:Value),(enc a)[j]?=some y->cs[j]?=some u->DRd w All y u)/\sz a<=jC x.1
section
variable{P:Program}{t:TypeId}
theorem Opn.map{k:Nat}{α β:Type}{enc:α->List DV}{enc':β->List DV}{ok:α->Prop}{ok':β->Prop}{sz:α->Nat}{sz':β->Nat}(h:Opn P t k enc ok sz)(f:α->β)(he:∀ a,ok a->enc' (f a)=enc a)(ho:∀ a,ok a->ok' (f a))(hz:∀ a,sz' (f a)<=sz a):Opn P t k enc' ok' sz':=
 ⟨h.cells,fun hx=>let ⟨a,h1,h2,h3,h4,h5⟩:=h.op hx;⟨f a,ho a h1,h2,by rw[he a h1];exact h3,by rw[he a h1];exact h4,Nat.le_trans (hz a) h5⟩⟩
theorem Js{w:World}{y:DV}{u:Value}(h:DRd w All y u):∀ (j:Nat) (y':DV) (u':Value),[y][j]?=some y'->[u][j]?=some u'->DRd w All y' u':=by
 intro j y' u' h1 h2
 cases j with
 | zero=>simp at h1 h2;subst h1;subst h2;exact h
 | succ j=>simp at h1
def okK(k:IntKind)(n:Int):Prop:=(Lit.int k n).wf=true
theorem Opn.int{k:IntKind}(hu:P.underlying t=some (.int k))(hc:P.cellsOf t=1):Opn P t 1 (eK k) (okK k) (fun _=>1):=by
 refine⟨hc,fun {H en w fuel cs x} h=>?_⟩
 cases fuel with
 | zero=>simp[DataW.trod] at h
 | succ fuel=>
  unfold DataW.trod at h;rw[hu] at h
  split at h <;> simp_all
  case h_2 n _=>
   obtain⟨⟨h1,h2⟩,_⟩:=h;subst h1;refine⟨n,h2,rfl,?_,yva _⟩;intro j y u h1 h3;exact Js (.v _ rfl) j y u h1 h3
theorem xfa{n:Int}(h:okK .u64 n):0<=n/\n < 18446744073709551616:=by
 simp[okK,Lit.wf,IntKind.min,IntKind.max,IntKind.signed,IntKind.bits] at h;omega
theorem xga{n:Int}(h:okK .u16 n):0<=n/\n < 65536:=by
 simp[okK,Lit.wf,IntKind.min,IntKind.max,IntKind.signed,IntKind.bits] at h;omega
theorem okU8{n:Int}(h:okK .u8 n):0<=n/\n < 256:=by
 simp[okK,Lit.wf,IntKind.min,IntKind.max,IntKind.signed,IntKind.bits] at h;omega
theorem Opn.str(hu:P.underlying t=some .string)(hc:P.cellsOf t=1):Opn P t 1 eS (fun s=>s.size<=9223372036854775807) (fun s=>s.size+1):=by
 refine⟨hc,fun {H en w fuel cs x} h=>?_⟩
 cases fuel with
 | zero=>simp[DataW.trod] at h
 | succ fuel=>
  unfold DataW.trod at h;rw[hu] at h
  split at h <;> simp_all
  case h_4=>
   rename_i s
   obtain⟨h1,h2⟩:=h;refine⟨s,by have:=h1;unfold maxLen at this;exact this,rfl,?_,?_⟩
   ·intro j y u h1 h2;exact Js (.v _ rfl) j y u h1 h2
   ·subst h2;have e:s.data.toList.length=s.size:=Array.length_toList;show s.size+1<=jC (DataW.lit (Lit.string s.data.toList));unfold jC;omega
theorem Opn.slice{e:TypeId}{k:Nat}{α:Type}{enc:α->List DV}{ok:α->Prop}{sz:α->Nat}(h:Opn P e k enc ok sz)(hu:P.underlying t=some (.slice e))(hc:P.cellsOf t=1)(hk:0 < k) :
  Opn P t 1 (eL enc) (fun l=>l.length<=9223372036854775807/\∀ a∈l,ok a) (fun l=>szL sz l+1):=by
 refine⟨hc,fun {H en w fuel cs x} hx=>?_⟩;rcases Deep.open_slice hu hx with⟨rfl,_⟩ | ⟨a,len,cap,m,n,D,Pl,rfl,_,hl,hm,hmm,hxD,hel⟩
 ·exact⟨[],⟨Nat.zero_le _,by simp⟩,rfl,rfl,Js (.nil none 0 (Nat.zero_le _) (fun _=>rfl)),yva _⟩
 simp only[if_true] at hmm;subst hmm;rw[h.cells] at hel;have hcut:∀ n0,n0<=len->∃ l:List α,l.length=n0/\(∀ a∈l,ok a)/\szL sz l<=vQ ((List.range n0).map D)/\∀ (i:Nat) (b:α),l[i]?=some b->(enc b).length=k/\∀ (j:Nat) (y:DV),(enc b)[j]?=some y->∃ u,w.cell? (a.add (i*k+j))=some u/\DRd w All y u:=by
  intro n0
  induction n0 with
  | zero=>intro _;exact⟨[],rfl,by simp,by simp[szL],by simp⟩
  | succ n0 ih=>
   intro hn;obtain⟨l,h1,h2,hz,h3⟩:=ih (by omega);obtain⟨cs',hc',ht'⟩:=hel n0 (by omega);obtain⟨b,hb1,hb2,hb3,hb4,hb5⟩:=h.op ht';obtain⟨_,_,hcell⟩:=World.cells?_some hc';refine⟨l++[b],by simp[h1],?_,by rw[szL_app,List.range_succ,List.map_append,zga];simp only[szL,List.map_cons,List.map_nil,vQ];simp only at hb5;omega,?_⟩
   ·intro a ha;rcases List.mem_append.1 ha with ha | ha
    ·exact h2 a ha
    ·simp at ha;subst ha;exact hb1
   ·intro i b' hi;rw[List.getElem?_append] at hi
    split at hi
    ·exact h3 i b' hi
    ·rename_i hge
     have hi0:i=n0:=by
      have:i - l.length < 1:=by simpa using (List.getElem?_eq_some_iff.1 hi).1
      omega
     subst hi0;simp[h1] at hi;subst hi;refine⟨hb3,fun j y hy=>?_⟩;have hj:j < k:=by rw[<- hb3];exact(List.getElem?_eq_some_iff.1 hy).1
     have hcj:=hcell j hj;rw[Deep.add_add] at hcj;have hu':cs'[j]?=some (cs'[j]'(by omega)):=List.getElem?_eq_getElem (by omega);exact⟨_,by rw[hcj,hu'],hb4 j y _ hy hu'⟩
 obtain⟨l,h1,h2,hz,h3⟩:=hcut len (Nat.le_refl _);refine⟨l,⟨by unfold maxLen at hm;omega,h2⟩,rfl,rfl,Js ?_,?_⟩
 rotate_left
 ·rw[hxD];simp only[jC];omega
 by_cases h0:len=0
 ·have:l=[]:=List.eq_nil_of_length_eq_zero (by omega);subst this;subst h0;exact .nil _ _ hm (fun e=>by cases e)
 ·-- the first cell tells that the address is a plain one
  have hl0:0 < l.length:=by omega
  obtain⟨hk0,hc0⟩:=h3 0 _ (List.getElem?_eq_getElem hl0);obtain⟨u0,hu0,_⟩:=hc0 0 _ (List.getElem?_eq_getElem (by omega:0 < (enc l[0]).length));have hspot:a.spot=none:=by simpa[Addr.add] using World.cell?_spot hu0
  obtain⟨b,off,spot⟩:=a;simp only at hspot;subst hspot;have hb:b < w.heap.size:=by
   rw[Addr.add_lit] at hu0;unfold World.cell? at hu0
   cases hh:w.heap[b]? with
   | none=>simp[hh] at hu0
   | some o=>exact(Array.getElem?_eq_some_iff.1 hh).1
  have hlen:(l.map enc).length=len:=by simp[h1]
  rw[<- hlen];refine .sl _ b off m k (fun i j=>(w.cell? ⟨b,off+(i*k+j),none⟩).getD undef) (by omega) hm trivial hb ?_ ?_ ?_
  ·intro i cs hi;rw[List.getElem?_map] at hi
   cases hx:l[i]? with
   | none=>simp[hx] at hi
   | some y=>simp[hx] at hi;subst hi;exact(h3 i y hx).1
  ·intro i j hi hj;have hil:i < l.length:=by simpa using hi
   obtain⟨e1,e2⟩:=h3 i _ (List.getElem?_eq_getElem hil);obtain⟨u,hu,_⟩:=e2 j _ (List.getElem?_eq_getElem (by omega:j < (enc l[i]).length));rw[Addr.add_lit] at hu;simp[hu]
  ·intro i cs j x hi hx;rw[List.getElem?_map] at hi
   cases hy:l[i]? with
   | none=>simp[hy] at hi
   | some y=>
    simp[hy] at hi;subst hi;obtain⟨u,hu,hd⟩:=(h3 i y hy).2 j x hx;rw[Addr.add_lit] at hu;simpa[hu] using hd
structure OpnF(P:Program)(fs:List Field)(off k:Nat){α:Type}(enc:α->List DV)(ok:α->Prop)(sz:α->Nat):Prop where
 op:∀ {H:Type} {en:TypeId×Value->H} {w:World} {n:Nat} {cs:List Value} {xs:List (DataW H×List MemPlace)},xs.length=fs.length ->
  (∀ (i:Nat) (f:Field),fs[i]?=some f->DataW.trod en P w 0 (fun _=>true) true n f.type ((cs.drop f.offset).take (P.cellsOf f.type))=xs[i]?) ->
  ∃ a,ok a/\(enc a).length=k/\(∀ (j:Nat) (y:DV) (u:Value),(enc a)[j]?=some y->cs[off+j]?=some u->DRd w All y u)/\sz a<=vQ (xs.map (·.1))
theorem OpnF.nil(off:Nat):OpnF P [] off 0 (fun _:Unit=>[]) (fun _=>True) (fun _=>0):=⟨fun _ _=>⟨(),trivial,rfl,by simp,Nat.zero_le _⟩⟩
theorem OpnF.cons{f:Field}{fs:List Field}{off k1 k2:Nat}{α β:Type}{e1:α->List DV}{o1:α->Prop}{e2:β->List DV}{o2:β->Prop}{z1:α->Nat}{z2:β->Nat}(h1:Opn P f.type k1 e1 o1 z1)(ho:f.offset=off)(h2:OpnF P fs (off+k1) k2 e2 o2 z2) :
  OpnF P (f::fs) off (k1+k2) (fun p:α×β=>e1 p.1++e2 p.2) (fun p=>o1 p.1/\o2 p.2) (fun p=>z1 p.1+z2 p.2):=by
 refine⟨fun {H en w n cs xs} hlen hx=>?_⟩
 cases xs with
 | nil=>simp at hlen
 | cons x xs=>
  have hx0:=hx 0 f rfl;simp only[List.getElem?_cons_zero] at hx0;obtain⟨a,ha1,ha2,ha3,ha4,ha5⟩:=h1.op hx0;obtain⟨b,hb1,hb2,hb3,hb4⟩:=h2.op (xs:=xs) (by simpa using hlen) (fun i f' hf=>by have:=hx (i+1) f' (by simpa using hf);simpa using this);refine⟨(a,b),⟨ha1,hb1⟩,by simp[ha3,hb2],?_,by simp only[List.map_cons,vQ];omega⟩;intro j y u hy hu;simp only[List.getElem?_append] at hy
  by_cases hj:j < k1
  ·rw[if_pos (by omega)] at hy;refine ha4 j y u hy ?_;rw[List.getElem?_take,h1.cells,if_pos hj,List.getElem?_drop,ho];exact hu
  ·rw[if_neg (by omega),ha3] at hy;refine hb3 (j - k1) y u hy ?_;rw[<- hu]
   congr 1
   omega
theorem Opn.struct{fs:List Field}{k:Nat}{α:Type}{enc:α->List DV}{ok:α->Prop}{sz:α->Nat}(hu:P.underlying t=some (.struct fs.toArray))(hc:P.cellsOf t=k)(h:OpnF P fs 0 k enc ok sz):Opn P t k enc ok (fun a=>sz a+1):=by
 refine⟨hc,fun {H en w fuel cs x} hx=>?_⟩;obtain⟨xs,n,_,hxe,hlen,hxl,hf⟩:=DataW.trod_struct hu hx;obtain⟨a,h1,h2,h3,h4⟩:=h.op (cs:=cs) (xs:=xs) (by simpa using hxl) (fun i f hi=>hf i f (by simpa using hi));exact⟨a,h1,by rw[hlen,hc],h2,fun j y u hy hu=>h3 j y u hy (by simpa using hu),by rw[hxe];simp only[jC];omega⟩
theorem Opn.arg{H:Type}{en:TypeId×Value->H}{w:World}{v:Value}{d:DataW H}{ps:List MemPlace}{α:Type}{enc:α->DV}{ok:α->Prop}{sz:α->Nat}(h:Opn P t 1 (fun a=>[enc a]) ok sz)
  (hx:DataW.Trod en P w 0 (fun _=>true) true t v d ps) (h1:v.oneCell'=true):∃ a,ok a/\Rd w g0 All (.d (enc a)) v/\sz a<=jC d:=by
 obtain⟨fuel,hf⟩:=hx;obtain⟨a,ha,_,_,hr,hz⟩:=h.op hf;have hcs:v.cells.toList=[v]:=by cases v <;> first | rfl | (simp[Value.oneCell'] at h1;done)
 exact⟨a,ha,.d (hr 0 _ v rfl (by rw[hcs];rfl)),hz⟩
theorem Opn.argAgg{H:Type}{en:TypeId×Value->H}{w:World}{us:Array Value}{d:DataW H}{ps:List MemPlace}{k:Nat}{α:Type}{enc:α->List DV}{ok:α->Prop}{sz:α->Nat}(h:Opn P t k enc ok sz)
  (hx:DataW.Trod en P w 0 (fun _=>true) true t (.agg us) d ps):∃ a,ok a/\Rd w g0 All (.agg (List.map .d (enc a))) (.agg us)/\sz a<=jC d:=by
 obtain⟨fuel,hf⟩:=hx;obtain⟨a,ha,hl,hel,hr,hz⟩:=h.op hf;have hcs:(Value.agg us).cells.toList=us.toList:=rfl;rw[hcs] at hl hr;refine⟨a,ha,?_,hz⟩;have key:∀ (i:Nat) (y:DV) (u:Value),(enc a)[i]?=some y->us.toList[i]?=some u->DRd w All y u:=hr;have:=Rd.agg (w:=w) (g:=g0) (S:=All) ((enc a).map .d) us.toList (by simp[hel,hl]) (fun i p u hp hu=>by
  rw[List.getElem?_map] at hp
  cases hy:(enc a)[i]? with
  | none=>simp[hy] at hp
  | some y=>simp[hy] at hp;subst hp;exact .d (key i y u hy hu)) (fun u hu=>by
  obtain⟨i,hi,rfl⟩:=List.getElem_of_mem hu;have hi2:i < (enc a).length:=by omega
  exact(key i _ _ (List.getElem?_eq_getElem hi2) (List.getElem?_eq_getElem hi)).one)
 simpa using this
theorem WZ{H:Type}{en:TypeId×Value->H}(hl:laidOutB P=true){W W':World}(hb:Below W.heap.size W W'):∀ {ts:List TypeId} {vs:List Value} {ds:List (DataW H)} {ps:List MemPlace},
  (∀ t∈ts,P.readableRec t=true/\t < P.types.size)->DataW.TrodAll en P W 0 (fun _=>true) true ts vs ds ps->(∀ x∈ps,x.block < W.heap.size)->DataW.TrodAll en P W' 0 (fun b=>decide (b < W.heap.size)) true ts vs ds ps
 | [],[],[],ps,_,h,_=>h
 | t::ts,v::vs,d::ds,ps,hr,h,hlt=>by
  obtain⟨p,q,h1,h2,rfl⟩:=h;have hrt:=hr t (by simp);exact⟨p,q,Below.trod hl hrt.1 hrt.2 h1 hb (fun x hx=>hlt x (List.mem_append.2 (.inl hx))),WZ hl hb (fun t ht=>hr t (by simp[ht])) h2 (fun x hx=>hlt x (List.mem_append.2 (.inr hx))),rfl⟩
 | [],[],_::_,_,_,h,_=>h.elim
 | [],_::_,_,_,_,h,_=>h.elim
 | _::_,[],_,_,_,h,_=>h.elim
 | _::_,_::_,[],_,_,h,_=>h.elim
theorem Uk{H:Type}{en:TypeId×Value->H}{w:World}{base:Nat}{sp:Nat->Bool}{hd:Bool}:∀ {ts:List TypeId} {vs:List Value} {ds:List (DataW H)} {ps:List MemPlace},DataW.TrodAll en P w base sp hd ts vs ds ps->ds.length=ts.length
 | [],[],[],_,_=>rfl
 | _::_,_::_,_::_,_,h=>by
  obtain⟨_,_,_,h2,_⟩:=h;simp[Uk h2]
 | [],[],_::_,_,h=>h.elim
 | [],_::_,_,_,h=>h.elim
 | _::_,[],_,_,h=>h.elim
 | _::_,_::_,[],_,h=>h.elim
theorem vZa{H:Type}{en:TypeId×Value->H}{fn:Func}{s:ChangeSpec}{tb:TypeId}{W W':World}{args:Array Value}{ds gs:List (DataW H)}{before:List MemPlace}(hl:laidOutB P=true)
  (hW:DataW.Whole en P fn.params.toList s.vars false W args.toList ds gs before) (hv:s.vars=[]) (hs:∀ ds:List (DataW H),ds.length=fn.params.size->(s.fn H ds).results=[.lit (.bool true)]/\(s.fn H ds).args=ds/\(s.fn H ds).vars=[])
  (hres:fn.resultTypes=#[tb]) (htb:P.underlying tb=some .bool) (hr:∀ t∈fn.params.toList,P.readableRec t=true/\t < P.types.size) (hb:Below W.heap.size W W') :
  s.post en P fn false true false false W args (.bool true) W':=by
 have hW':=hW;obtain⟨p,q,hA,hV,hpq,hfz,hnd⟩:=hW;rw[hv] at hV;obtain⟨rfl,rfl⟩:=trodVars_none hV;simp only[List.append_nil] at hpq;subst hpq;have hlt:∀ x∈before,x.block < W.heap.size:=fun x hx=>by simpa using hW'.lt x hx
 have hlen:ds.length=fn.params.size:=by simpa using Uk hA
 obtain⟨e1,e2,e3⟩:=hs (ds++[]) (by simpa using hlen);refine⟨ds,[],before,[],before,[],hW',?_,?_,?_,hb.frame _,fun h=>by cases h⟩
 ·rw[e1,hres];exact trodAll_mk1 (shut_bool htb true)
 ·rw[e2,List.append_nil];exact WZ hl hb hr hA hlt
 ·rw[e3,hv];rfl
end
end Go.Ep
namespace Go.Ep
set_option linter.unusedVariables false
def TMember.ok(x:TMember):Prop:=okK .u16 x.dev/\okK .u8 x.slot/\okK .u64 x.try_
def TMember.sz(x:TMember):Nat:=(1+(1+(1+0)))+1
def RN.ok(x:RN):Prop:=okK .u64 x.lo/\okK .u64 x.hi
def RN.sz(x:RN):Nat:=(1+(1+0))+1
def PT.ok(x:PT):Prop:=okK .u16 x.dev/\(x.runs.length<=9223372036854775807/\∀ a∈x.runs,RN.ok a)
def PT.sz(x:PT):Nat:=(1+((szL RN.sz x.runs+1)+0))+1
def TRow.ok(x:TRow):Prop:=okK .u16 x.who/\(x.have_.length<=9223372036854775807/\∀ a∈x.have_,PT.ok a)
def TRow.sz(x:TRow):Nat:=(1+((szL PT.sz x.have_+1)+0))+1
def DT.ok(x:DT):Prop:=okK .u16 x.dev/\okK .u64 x.n
def DT.sz(x:DT):Nat:=(1+(1+0))+1
def EV.ok(x:EV):Prop:=DT.ok x.dot/\okK .u8 x.kind/\okK .u64 x.cid/\okK .u8 x.field/\ByteArray.size x.text<=9223372036854775807/\(x.kills.length<=9223372036854775807/\∀ a∈x.kills,DT.ok a)
def EV.sz(x:EV):Nat:=(DT.sz x.dot+(1+(1+(1+((ByteArray.size x.text+1)+((szL DT.sz x.kills+1)+0))))))+1
def THubState.ok(x:THubState):Prop:=okK .u64 x.epoch/\okK .u16 x.last/\(x.members.length<=9223372036854775807/\∀ a∈x.members,TMember.ok a)/\(x.tries.length<=9223372036854775807/\∀ a∈x.tries,okK .u64 a)/\(x.rows.length<=9223372036854775807/\∀ a∈x.rows,TRow.ok a)/\(x.ctx.length<=9223372036854775807/\∀ a∈x.ctx,PT.ok a)/\(x.all.length<=9223372036854775807/\∀ a∈x.all,EV.ok a)
def THubState.sz(x:THubState):Nat:=(1+(1+((szL TMember.sz x.members+1)+((szL (fun _=>1) x.tries+1)+((szL TRow.sz x.rows+1)+((szL PT.sz x.ctx+1)+((szL EV.sz x.all+1)+0)))))))+1
end Go.Ep
namespace Go.Proofs
open Go.Ep
set_option maxRecDepth 100000
theorem opnTMember : Opn Tryz.prog 59 3 TMember.e TMember.ok TMember.sz:=(Opn.struct Tryz.underlying59 (by kernel_rfl) (OpnF.cons (Opn.int Tryz.underlying23 (by kernel_rfl)) rfl (OpnF.cons (Opn.int Tryz.underlying5 (by kernel_rfl)) rfl (OpnF.cons (Opn.int Tryz.underlying22 (by kernel_rfl)) rfl (OpnF.nil _))))).map (fun p=>⟨p.1,p.2.1,p.2.2.1⟩) (fun _ _=>rfl) (fun p h=>⟨h.1,h.2.1,h.2.2.1⟩) (fun _=>Nat.le_refl _)
theorem opnTRun : Opn Tryz.prog 124 2 RN.e RN.ok RN.sz:=(Opn.struct Tryz.underlying124 (by kernel_rfl) (OpnF.cons (Opn.int Tryz.underlying22 (by kernel_rfl)) rfl (OpnF.cons (Opn.int Tryz.underlying22 (by kernel_rfl)) rfl (OpnF.nil _)))).map (fun p=>⟨p.1,p.2.1⟩) (fun _ _=>rfl) (fun p h=>⟨h.1,h.2.1⟩) (fun _=>Nat.le_refl _)
theorem opnTPart : Opn Tryz.prog 99 2 PT.e PT.ok PT.sz:=(Opn.struct Tryz.underlying99 (by kernel_rfl) (OpnF.cons (Opn.int Tryz.underlying23 (by kernel_rfl)) rfl (OpnF.cons (opnTRun.slice Tryz.underlying97 (by kernel_rfl) (by decide)) rfl (OpnF.nil _)))).map (fun p=>⟨p.1,p.2.1⟩) (fun _ _=>rfl) (fun p h=>⟨h.1,h.2.1⟩) (fun _=>Nat.le_refl _)
theorem opnTRow : Opn Tryz.prog 51 2 TRow.e TRow.ok TRow.sz:=(Opn.struct Tryz.underlying51 (by kernel_rfl) (OpnF.cons (Opn.int Tryz.underlying23 (by kernel_rfl)) rfl (OpnF.cons (opnTPart.slice Tryz.underlying28 (by kernel_rfl) (by decide)) rfl (OpnF.nil _)))).map (fun p=>⟨p.1,p.2.1⟩) (fun _ _=>rfl) (fun p h=>⟨h.1,h.2.1⟩) (fun _=>Nat.le_refl _)
theorem opnTDot : Opn Tryz.prog 101 2 DT.e DT.ok DT.sz:=(Opn.struct Tryz.underlying101 (by kernel_rfl) (OpnF.cons (Opn.int Tryz.underlying23 (by kernel_rfl)) rfl (OpnF.cons (Opn.int Tryz.underlying22 (by kernel_rfl)) rfl (OpnF.nil _)))).map (fun p=>⟨p.1,p.2.1⟩) (fun _ _=>rfl) (fun p h=>⟨h.1,h.2.1⟩) (fun _=>Nat.le_refl _)
theorem opnTEvent : Opn Tryz.prog 104 7 EV.e EV.ok EV.sz:=(Opn.struct Tryz.underlying104 (by kernel_rfl) (OpnF.cons opnTDot rfl (OpnF.cons (Opn.int Tryz.underlying5 (by kernel_rfl)) rfl (OpnF.cons (Opn.int Tryz.underlying22 (by kernel_rfl)) rfl (OpnF.cons (Opn.int Tryz.underlying5 (by kernel_rfl)) rfl (OpnF.cons (Opn.str Tryz.underlying9 (by kernel_rfl)) rfl (OpnF.cons (opnTDot.slice Tryz.underlying102 (by kernel_rfl) (by decide)) rfl (OpnF.nil _)))))))).map (fun p=>⟨p.1,p.2.1,p.2.2.1,p.2.2.2.1,p.2.2.2.2.1,p.2.2.2.2.2.1⟩) (fun _ _=>rfl) (fun p h=>⟨h.1,h.2.1,h.2.2.1,h.2.2.2.1,h.2.2.2.2.1,h.2.2.2.2.2.1⟩) (fun _=>Nat.le_refl _)
theorem Qa : Opn Tryz.prog 31 7 THubState.e THubState.ok THubState.sz:=(Opn.struct Tryz.underlying31 (by kernel_rfl) (OpnF.cons (Opn.int Tryz.underlying22 (by kernel_rfl)) rfl (OpnF.cons (Opn.int Tryz.underlying23 (by kernel_rfl)) rfl (OpnF.cons (opnTMember.slice Tryz.underlying24 (by kernel_rfl) (by decide)) rfl (OpnF.cons ((Opn.int Tryz.underlying22 (by kernel_rfl)).slice Tryz.underlying25 (by kernel_rfl) (by decide)) rfl (OpnF.cons (opnTRow.slice Tryz.underlying26 (by kernel_rfl) (by decide)) rfl (OpnF.cons (opnTPart.slice Tryz.underlying28 (by kernel_rfl) (by decide)) rfl (OpnF.cons (opnTEvent.slice Tryz.underlying29 (by kernel_rfl) (by decide)) rfl (OpnF.nil _))))))))).map (fun p=>⟨p.1,p.2.1,p.2.2.1,p.2.2.2.1,p.2.2.2.2.1,p.2.2.2.2.2.1,p.2.2.2.2.2.2.1⟩) (fun _ _=>rfl) (fun p h=>⟨h.1,h.2.1,h.2.2.1,h.2.2.2.1,h.2.2.2.2.1,h.2.2.2.2.2.1,h.2.2.2.2.2.2.1⟩) (fun _=>Nat.le_refl _)
end Go.Proofs
